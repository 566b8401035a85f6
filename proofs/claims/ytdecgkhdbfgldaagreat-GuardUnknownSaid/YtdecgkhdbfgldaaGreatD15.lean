/- Part 15 of the proof: Ib, Ic, Id, Ie, Ih, Fk, If, Gw, Gy. -/
import Derived.Test.YtdecgkhdbfgldaaGreatD14
set_option linter.unusedVariables false
set_option linter.unusedSimpArgs false
set_option maxRecDepth 8000
namespace Go.Proofs.YtdecgkhdbfgldaaGreat
open Go
theorem qcd (l : List (List Bd)) (b : List Bd) : qaM (l ++ [b]) = qaM l ++ [[.sl 5 (bdDs b)]] := by simp [qaM]
theorem bdlDs_app (l m : List (List Bd)) : qaM (l ++ m) = qaM l ++ qaM m := by simp [qaM]
theorem bdlDs_k (l : List (List Bd)) : ∀ d ∈ qaM l, d.length = 1 := fun d hd => by obtain ⟨x, _, rfl⟩ := List.mem_map.1 hd; rfl
def fitsB (a t : Tm) : Bool := decide ((fitR 5 [] a t).2 = 0)
def ansL (k : List Tm) (a : Tm) : List (List Bd) := (k.filter (fitsB a)).map fun t => (fitR 5 [] a t).1
theorem ansL_len (k : List Tm) (a : Tm) : (ansL k a).length ≤ k.length := by
  rw [ansL, List.length_map]; exact List.length_filter_le _ _
theorem ansL_bok {k : List Tm} (hk : ∀ t ∈ k, t.wf ∧ mayT t = true) {a : Tm} (ha : a.wf) : ∀ y ∈ ansL k a, BOk y := fun y hy => by
  obtain ⟨t, ht, rfl⟩ := List.mem_map.1 hy
  have hm := hk t (List.mem_filter.1 ht).1
  exact fitR_bok 5 [] a t nil_bok ha hm.1 hm.2
theorem Answers_ok (k : List Tm) (hl : k.length ≤ 60) (hk : ∀ t ∈ k, t.wf ∧ mayT t = true) (a : Tm) (ha : a.wf) (hm : mayT a = true) : PF 139 [.dat false 4 (tmDs k), tmA false a] (.dat false 1 (qaM (ansL k a))) := by
  have hlen := qaa k
  refine qG Tryz.func139 rfl Tryz.ntmps139 (Nat.le_of_ble_eq_true rfl) fun c hL hQ hDD => (qd (qb (qz rfl rfl (by decide) (qab 3 rfl rfl rfl) rfl (zN rfl rfl rfl (qc (qa (qd ?_))))))); refine qd (qb (zM rfl rfl rfl (zA rfl (qy rfl qv rfl) ?_)))
  refine zM rfl rfl rfl (qc (qa (qB (qV (k.length) (fun i => i ≤ k.length) (fun i => ⟨[(3, .ptr 3 0), (4, .row 4), (9, .dat false 4 (tmDs k)), (10, iv (tmDs k).length), (11, iv (i : Int))], [(3, .box (lift false (tmD a))), (4, .rowd 28 1 false (qaM (ansL (k.take i) a)))]⟩) (by omega) ?_ (fun i hi hpi => ?_)))))
  · exact Sub.trans (qaL (t := 4) (l := 4) 28 1 false rfl rfl) (qI (SubT.cons (zT rfl) (SubT.cons (zT rfl) (SubT.cons (zT rfl) (SubT.cons (zT rfl) (SubT.cons (zT rfl) (SubT.nil)))))) (SubO.cons (qag rfl (by rfl)) (SubO.cons (qag rfl (by rfl)) (SubO.nil))) rfl rfl (noL' (noL hL) _))
  have hl2 : (qaM (ansL (k.take i) a)).length ≤ k.length := by rw [qaJ]; have := ansL_len (k.take i) a; simp at this; omega
  refine qd (qb (zA rfl (qn rfl rfl rfl rfl) (qc (qa (qd (qu rfl (fun c0 => ?_) (fun c0 => ?_)))))))
  · try simp only [↓cqA, cqB] at c0
    obtain ⟨u, hu⟩ := qK (l := k) (k := i) (by omega)
    have hum := hk u (List.mem_of_getElem? hu)
    have hfs := filter_snoc (fitsB a) hu
    have hbo := fitR_bok 5 [] a u nil_bok ha hum.1 hum.2
    refine qt (qa (qd (qB (qd (qb (zA rfl (qo rfl qv rfl rfl (by omega) (qax hu)) (zA rfl (qD rfl qi rfl rfl) ?_))))))); refine qz rfl rfl (by decide) (qaf 6 rfl q6 rfl) rfl (qO rfl rfl rfl qi rfl rfl rfl rfl rfl rfl rfl rfl rfl (qc (qa (qd (qb ?_)))))
    refine zA rfl (qw rfl qi rfl rfl rfl rfl) (zA rfl (qw rfl qi rfl rfl rfl rfl) (qC (avs := [_, _, _]) false rfl rfl rfl (by decide) en_unify_Fit rfl rfl (AC_le (.cons .nil (.cons .refl (.cons .refl .nil))) (Fit_ok 5 [] a u (qao hm) (qby hm) ha nil_bok hum.1 hum.2)) rfl rfl (zM rfl rfl rfl (zA rfl (qY rfl rfl rfl) ?_))))
    refine zA rfl (qY rfl rfl rfl) (zN rfl rfl rfl (zN rfl rfl rfl (qc (qa (qd (qb (zM rfl rfl rfl ?_))))))); refine zA rfl (qn rfl rfl rfl rfl) (qc (qa (qu rfl (fun c1 => ?_) (fun c1 => ?_))))
    · try simp only [↓cqA, cqB] at c1
      have hfe : qaM (ansL (k.take (i + 1)) a) = qaM (ansL (k.take i) a) ++ [[.sl 5 (bdDs (fitR 5 [] a u).1)]] := by
        rw [ansL, hfs, if_pos (by simp [fitsB, c1]), List.map_append, ← qcd]; rfl
      refine qb (zM rfl rfl rfl (zM rfl rfl rfl (qC (avs := [_]) false rfl rfl rfl (by decide) en_bind_Own rfl rfl (bindOwnF_ok (fitR 5 [] a u).1 hbo) rfl rfl (qz rfl rfl (by decide) (qS 26 rfl qH qa4 rfl rfl (by decide) (by decide) (by decide) rfl rfl rfl) rfl (qbt rfl rfl (by decide) (qaA 27 qbw rfl rfl rfl rfl rfl rfl rfl rfl (noL hL _) (by omega) rfl) rfl ?_)))))
      refine qar (qaE 27 4 (noL hL _) (noL hL _)) (zN rfl rfl rfl (qc (qP (qa (qb (zA rfl (qM rfl rfl rfl (by omega)) (zM rfl rfl rfl ?_))))))); refine qc (qa ?_); refine ⟨?_, ?_, ?_⟩
      · skip
        omega
      · skip
        omega
      exact qI (SubT.cons (zT rfl) (SubT.cons (zT rfl) (SubT.cons (zT rfl) (SubT.cons (zT rfl) (SubT.cons (zT rfl) (SubT.nil)))))) (SubO.cons (qag rfl (by rfl)) (SubO.cons (qag rfl (by rw [hfe]; try rfl)) (SubO.nil))) rfl rfl (noL' (noL hL) _)
    try simp only [↓cqA, cqB] at c1
    have hfe : qaM (ansL (k.take (i + 1)) a) = qaM (ansL (k.take i) a) := by
      rw [ansL, hfs, if_neg (by simp [fitsB, c1]), List.append_nil]; rfl
    refine qt (qP (qa (qb (zA rfl (qM rfl rfl rfl (by omega)) (zM rfl rfl rfl (qc (qa ?_))))))); refine ⟨?_, ?_, ?_⟩
    · skip
      omega
    · skip
      omega
    exact qI (SubT.cons (zT rfl) (SubT.cons (zT rfl) (SubT.cons (zT rfl) (SubT.cons (zT rfl) (SubT.cons (zT rfl) (SubT.nil)))))) (SubO.cons (qag rfl (by rfl)) (SubO.cons (qag rfl (by rw [hfe]; try rfl)) (SubO.nil))) rfl rfl (noL' (noL hL) _)
  try simp only [↓cqA, cqB] at c0
  refine qQ (qq (qq (q7 ?_))); refine qa (qd (qbb (qam (l := 4) rfl (by decide) (noL hL _) rfl rfl) (qb (zM rfl rfl rfl (zN rfl rfl rfl (qc (qa ?_))))))); refine qm ?_
  -- leaf 0F
  refine ret0 (noL hL) (.inl rfl) (qf rfl (qh)) ?_ ?_
  · rfl
  exact ⟨by rw [List.take_of_length_le (by omega)]; rfl, rfl⟩
abbrev gdA (g : Gd) : AV := .agg (lift false (gdD g))
def cmpdB (l : List Bd) (g : Gd) : Bool := mayT (putT l g.l) && mayT (putT l g.r) && guardC g.kind (putT l g.l) (putT l g.r)
theorem compared_ok (l : List Bd) (hl : BOk l) (g : Gd) (hg : g.wf) (h1 : mayT g.l = true) (h2 : mayT g.r = true) : PF 217 [bdA l, gdA g] (bv (cmpdB l g)) := by
  have w1 := hg.2.1
  have w2 := hg.2.2
  have p1 := qcq hl w1
  have p2 := qcq hl w2
  refine qG Tryz.func217 rfl Tryz.ntmps217 (Nat.le_of_ble_eq_true rfl) fun c hL hQ hDD => (qd (qb (qz rfl rfl (by decide) (qab 3 rfl rfl rfl) rfl (zN rfl rfl rfl (qc (qa (qd ?_))))))); refine q8 10 qbd rfl rfl rfl rfl (qe rfl (by decide) (.run rfl (qk (.inl rfl) rfl)) (qe rfl (by decide) (.run rfl (qg rfl qaO rfl)) ?_))
  refine qe rfl (by decide) (.run rfl (qr rfl qi rfl rfl rfl rfl rfl)) (qe rfl (by decide) (.run rfl (qN (avs := [_, _]) true rfl en_bind_Put rfl rfl (Put_ok l hl g.l (qao h1) w1) (fun _ => rfl) rfl)) (qe rfl (by decide) (.run rfl (qk (.inl rfl) rfl)) (qe rfl (by decide) (.run rfl (qg rfl qa1 rfl)) (qe rfl (by decide) (.run rfl (qr rfl qi rfl rfl rfl rfl rfl)) ?_))))
  refine qe rfl (by decide) (.run rfl (qN (avs := [_, _]) true rfl en_bind_Put rfl rfl (Put_ok l hl g.r (qao h2) w2) (fun _ => rfl) rfl)) (MGo_c1 rfl (by decide) (.run rfl (qaf 5 rfl q6 rfl)) (MGo_c1 rfl (by decide) (.run rfl (qaf 6 rfl q6 rfl)) (qau ⟨rfl, rfl, ?_⟩)))
  refine qO rfl rfl rfl qi rfl rfl rfl rfl rfl rfl rfl rfl rfl (qO rfl rfl rfl qi rfl rfl rfl rfl rfl rfl rfl rfl rfl (qc (qa (qd (qd (qb (zA rfl (qw rfl qi rfl rfl rfl rfl) ?_)))))))
  refine qC (avs := [_]) true rfl rfl rfl (by decide) qa2 rfl rfl (May_ok (putT l g.l) p1) rfl rfl (zA rfl (qU rfl rfl) (zM rfl rfl rfl (qA 20 rfl (fun g20 => ?_) (fun g20 => ?_))))
  · try simp only [↓cqA, cqB] at g20
    refine zS rfl rfl rfl rfl (zS rfl rfl rfl rfl (zS rfl rfl rfl rfl (zA rfl (qj rfl rfl rfl) (qc (qa (qaj rfl (qd ?_))))))); refine qb (zN rfl rfl rfl (qc (qa (qm (ql (?_))))))
    -- leaf g20T
    refine ret0 (noL hL) (.inl rfl) (qf rfl (qh)) ?_ ?_
    · rfl
    refine ⟨qW ?_, rfl⟩
    simp_all [cmpdB]
    try simp_all [guardC]
  try simp only [↓cqA, cqB] at g20
  refine zG rfl rfl rfl rfl (qw rfl qi rfl rfl rfl rfl) (zG rfl rfl rfl rfl (qN (avs := [_]) true rfl qa2 rfl rfl (May_ok (putT l g.r) p2) (fun _ => rfl) rfl) (zG rfl rfl rfl rfl (qU rfl rfl) (zA rfl (qj rfl rfl rfl) (qc (qa (qu rfl (fun c0 => ?_) (fun c0 => ?_)))))))
  · try simp only [↓cqA, cqB] at c0
    refine qd (qb (zN rfl rfl rfl (qc (qa (qm (ql (?_)))))))
    -- leaf g20F0T
    refine ret0 (noL hL) (.inl rfl) (qf rfl (qh)) ?_ ?_
    · rfl
    refine ⟨qW ?_, rfl⟩
    simp_all [cmpdB]
    try simp_all [guardC]
  try simp only [↓cqA, cqB] at c0
  refine qt (qa (qd (qb (zA rfl (qg rfl qaS rfl) (zA rfl (qr rfl qay rfl rfl rfl rfl rfl) (zA rfl (qw rfl qi rfl rfl rfl rfl) (zA rfl (qw rfl qi rfl rfl rfl rfl) ?_)))))))
  refine qC (avs := [_, _, _]) true rfl rfl rfl (by decide) en_guard_Compare rfl rfl (guardCompare_ok g.kind (putT l g.l) (putT l g.r) p1 p2) rfl rfl (zM rfl rfl rfl (zA rfl (qY rfl rfl rfl) (zA rfl (qY rfl rfl rfl) ?_)))
  refine zN rfl rfl rfl (zN rfl rfl rfl (qc (qa (qd (qb (zM rfl rfl rfl (zM rfl rfl rfl ?_))))))); refine qA 34 rfl (fun g34 => ?_) (fun g34 => ?_)
  · try simp only [↓cqA, cqB] at g34
    refine zG rfl rfl rfl rfl (qk (.inl rfl) rfl) (zG rfl rfl rfl rfl (qn rfl rfl rfl rfl) (zA rfl (qj rfl rfl rfl) (zN rfl rfl rfl (qc (qa (qm ?_))))))
    -- leaf g20F0Fg34T
    refine ret0 (noL hL) (.inl rfl) (qf rfl (qh)) ?_ ?_
    · rfl
    refine ⟨qW ?_, rfl⟩
    simp_all [cmpdB]
    try simp_all [guardC]
  try simp only [↓cqA, cqB] at g34
  refine zS rfl rfl rfl rfl (zS rfl rfl rfl rfl (zA rfl (qj rfl rfl rfl) (zN rfl rfl rfl (qc (qa (qm ?_))))))
  -- leaf g20F0Fg34F
  refine ret0 (noL hL) (.inl rfl) (qf rfl (qh)) ?_ ?_
  · rfl
  refine ⟨qW ?_, rfl⟩
  simp_all [cmpdB]
  try simp_all [guardC]
def keyOne (b : Bd) : ByteArray := b.name ++ ⟨#[32]⟩ ++ ⟨(keyL 5 b.t).toArray⟩
def keyB (l : List Bd) : ByteArray := l.foldl (fun s b => s ++ keyOne b) ⟨#[]⟩
theorem keyB_snoc {l : List Bd} {k : Nat} {u : Bd} (hu : l[k]? = some u) : keyB (l.take (k + 1)) = keyB (l.take k) ++ keyOne u := by
  rw [qah hu, keyB, List.foldl_append]; rfl
theorem keyOne_size {b : Bd} (hb : b.wf) (hm : mayT b.t = true) : (keyOne b).size ≤ 140737488352000 := by
  have h1 := keyL_len 5 b.t (qby hm)
  have h2 := ((mayT_iff b.t).1 hm).2.2
  have h3 := hb.1
  have e8 : (ByteArray.mk (keyL 5 b.t).toArray).size = (keyL 5 b.t).length := by simp [ByteArray.size]
  have e9 : (ByteArray.mk #[32]).size = 1 := rfl
  simp only [keyOne, ByteArray.size_append, e8, e9]; omega
theorem keyB_sizeM {l : List Bd} (M : Nat) (hl : ∀ b ∈ l, (keyOne b).size ≤ M) : ∀ k, (keyB (l.take k)).size ≤ k * M
  | 0 => by
    have : (keyB (l.take 0)).size = 0 := by rw [List.take_zero]; rfl
    omega
  | k + 1 => by
    have ih := keyB_sizeM M hl k
    rw [Nat.succ_mul]
    cases hu : l[k]? with
    | none =>
      have : l.take (k + 1) = l.take k := by
        have := List.getElem?_eq_none_iff.1 hu
        rw [List.take_of_length_le (by omega), List.take_of_length_le (by omega)]
      rw [this]; omega
    | some u =>
      have := hl u (List.mem_of_getElem? hu)
      rw [keyB_snoc hu, ByteArray.size_append]; omega
theorem keyB_size {l : List Bd} (hl : ∀ b ∈ l, b.wf ∧ mayT b.t = true) (k : Nat) : (keyB (l.take k)).size ≤ k * 140737488352000 := keyB_sizeM _ (fun b hb => keyOne_size (hl b hb).1 (hl b hb).2) k
theorem key_ok (l : List Bd) (hl : BOk l) : PF 218 [bdA l] (sv (keyB l)) := by
  have hlen := qak l
  have hll := hl.len
  refine qG Tryz.func218 rfl Tryz.ntmps218 (Nat.le_of_ble_eq_true rfl) fun c hL hQ hDD => (qd (qb (zN rfl rfl rfl (qc (qa (qd (qb ?_))))))); refine zN rfl rfl rfl (qc (qa (qd (qd (qb (zM rfl rfl rfl ?_))))))
  refine zA rfl (qy rfl qp rfl) (zM rfl rfl rfl (qc (qa (qB (qV (l.length) (fun k => k ≤ l.length) (fun k => ⟨[(3, sv (keyB (l.take k))), (6, bdA l), (7, iv (bdDs l).length), (8, iv (k : Int))], []⟩) (by omega) ?_ (fun k hk hp => ?_))))))
  · exact qI (SubT.cons (zT rfl) (SubT.cons (zT rfl) (SubT.cons (zT rfl) (SubT.cons (zT rfl) (SubT.nil))))) (SubO.nil) rfl rfl (noL' (noL hL) _)
  have hsz := keyB_size hl.el k
  refine qd (qb (zA rfl (qn rfl rfl rfl rfl) (qc (qa (qd (qu rfl (fun c0 => ?_) (fun c0 => ?_)))))))
  · try simp only [↓cqA, cqB] at c0
    obtain ⟨u, hu⟩ := qK (l := l) (k := k) (by omega)
    have hum := hl.el u (List.mem_of_getElem? hu)
    have hk1 := keyL_len 5 u.t (qby hum.2)
    have hk2 := ((mayT_iff u.t).1 hum.2).2.2
    have hk3 := hum.1.1
    have hk4 := keyOne_size hum.1 hum.2
    have e8 : (ByteArray.mk (keyL 5 u.t).toArray).size = (keyL 5 u.t).length := by simp [ByteArray.size]
    have e9 : (ByteArray.mk #[32]).size = 1 := rfl
    have e10 : (u.name ++ ⟨#[32]⟩).size = u.name.size + 1 := by rw [ByteArray.size_append]; rfl
    refine qt (qa (qd (qB (qd (qb (zA rfl (qo rfl qp rfl rfl (by omega) (qaI hu)) (zA rfl (qD rfl qav rfl rfl) ?_)))))))
    refine qz rfl rfl (by decide) (qaf 5 rfl qaD rfl) rfl (qO rfl rfl rfl qav rfl rfl rfl rfl rfl rfl rfl rfl rfl (qc (qa (q8 8 qbd rfl rfl rfl rfl (qe rfl (by decide) (.run rfl (qk (.inl rfl) rfl)) (qe rfl (by decide) (.run rfl (qg rfl qai rfl)) (qe rfl (by decide) (.run rfl (qr rfl qT rfl rfl rfl rfl rfl)) ?_)))))))
    refine qe rfl (by decide) (.run rfl (qbn (r := .string (u.name ++ ⟨#[32]⟩)) rfl rfl rfl (by simp only [binS]; exact if_pos (by rw [e9]; omega)))) ?_; refine qe rfl (by decide) (.run rfl (qg rfl qan rfl)) ?_; refine qe rfl (by decide) (.run rfl (qr rfl qi rfl rfl rfl rfl rfl)) ?_
    refine qe rfl (by decide) (.run rfl (qN (avs := [_]) true rfl en_term_Key rfl rfl (Key_ok 5 u.t (qao hum.2) (qby hum.2) hum.1.2 (by omega)) (fun _ => rfl) rfl)) ?_; refine qe rfl (by decide) (.run rfl (qbn (r := .string (keyOne u)) rfl rfl rfl (by simp only [binS]; exact if_pos (by rw [e10, e8]; omega)))) ?_; refine qau ⟨rfl, rfl, ?_⟩
    refine zA rfl (qbn (r := .string (keyB (l.take k) ++ keyOne u)) rfl rfl rfl (by simp only [binS]; exact if_pos (by omega))) ?_; refine zN rfl rfl rfl ?_; refine qc ?_; refine qP ?_; refine qa ?_; refine qb ?_; refine zA rfl (qM rfl rfl rfl (by omega)) ?_; refine zM rfl rfl rfl ?_; refine qc ?_; refine qa ?_; refine ⟨?_, ?_, ?_⟩
    · skip
      omega
    · skip
      omega
    exact qI (SubT.cons (qbg rfl (by rw [keyB_snoc hu])) (SubT.cons (zT rfl) (SubT.cons (zT rfl) (SubT.cons (zT rfl) (SubT.nil))))) (SubO.nil) rfl rfl (noL' (noL hL) _)
  try simp only [↓cqA, cqB] at c0
  refine qQ (qq (qq (q7 ?_))); refine qa (qd (qb (zM rfl rfl rfl (zN rfl rfl rfl (qc (qa (qm ?_)))))))
  -- leaf 0F
  refine ret0 (noL hL) (.inl rfl) (qf rfl (qh)) ?_ ?_
  · rfl
  exact ⟨by rw [List.take_of_length_le (by omega)]; rfl, rfl⟩
def onceS (x : List (List Bd)) (y : List Bd) : List (List Bd) := if (x.map keyB).any (fun s => decide (s = keyB y)) = true then x else x ++ [y]
def onceL (l : List (List Bd)) : List (List Bd) := l.foldl onceS []
theorem onceL_snoc {l : List (List Bd)} {k : Nat} {u : List Bd} (hu : l[k]? = some u) : onceL (l.take (k + 1)) = onceS (onceL (l.take k)) u := by
  rw [qah hu, onceL, List.foldl_append]; rfl
theorem onceS_len (x : List (List Bd)) (y : List Bd) : (onceS x y).length ≤ x.length + 1 := by
  unfold onceS; split <;> simp
theorem onceL_len (l : List (List Bd)) : ∀ k, (onceL (l.take k)).length ≤ k
  | 0 => by simp [onceL]
  | k + 1 => by
    have ih := onceL_len l k
    cases hu : l[k]? with
    | none =>
      have : l.take (k + 1) = l.take k := by
        have := List.getElem?_eq_none_iff.1 hu
        rw [List.take_of_length_le (by omega), List.take_of_length_le (by omega)]
      rw [this]; omega
    | some u => rw [onceL_snoc hu]; have := onceS_len (onceL (l.take k)) u; omega
theorem once_ok (l : List (List Bd)) (hn : l.length ≤ 1000000) (hl : ∀ y ∈ l, BOk y) : AC Tryz.prog 171 [.dat false 1 (qaM l)] [] (fun r O => r = .row 2 ∧ O = [(2, .rowd 28 1 false (qaM (onceL l)))]) := by
  have hlen := qaJ l
  have hmx : maxLen = 9223372036854775807 := rfl
  refine qG Tryz.func171 rfl Tryz.ntmps171 (Nat.le_of_ble_eq_true rfl) fun c hL hQ hDD => (qd (qb (zN rfl rfl rfl (qc (qa (qd (qb ?_))))))); refine qz rfl rfl (by decide) (stp_makeMap 7 rfl (Go.Maps.string_keyed qaY)) rfl ?_
  refine zN rfl rfl rfl (qc (qa (qd (qd (qb (zM rfl rfl rfl (zA rfl (qy rfl qH rfl) ?_))))))); refine zM rfl rfl rfl (qc (qa (qB ?_)))
  refine qV (l.length) (fun k => k ≤ l.length) (fun k => ⟨[(2, .row 2), (3, .map 7), (8, .dat false 1 (qaM l)), (9, iv (qaM l).length), (10, iv (k : Int))], [(2, .rowd 28 1 false (qaM (onceL (l.take k)))), (7, mpS (((onceL (l.take k)).map keyB).reverse))]⟩) (by omega) ?_ (fun k hk hp => ?_)
  · exact Sub.trans (qaL (t := 2) (l := 2) 28 1 false rfl rfl) (qI (SubT.cons (zT rfl) (SubT.cons (zT rfl) (SubT.cons (zT rfl) (SubT.cons (zT rfl) (SubT.cons (zT rfl) (SubT.nil)))))) (SubO.cons (qag rfl (by rfl)) (SubO.cons (qag rfl (by rfl)) (SubO.nil))) rfl rfl (noL' (noL hL) _))
  have hol := onceL_len l k
  have hl2 : (qaM (onceL (l.take k))).length ≤ l.length := by rw [qaJ]; omega
  have hl3 : (litS (((onceL (l.take k)).map keyB).reverse)).length ≤ l.length := by rw [litS_length]; simp; omega
  refine qd (qb (zA rfl (qn rfl rfl rfl rfl) (qc (qa (qd (qu rfl (fun c0 => ?_) (fun c0 => ?_)))))))
  · try simp only [↓cqA, cqB] at c0
    obtain ⟨u, hu⟩ := qK (l := l) (k := k) (by omega)
    have hum := hl u (List.mem_of_getElem? hu)
    have hos := onceL_snoc hu
    have hks : (keyB u).size ≤ maxLen := by
      have h1 := keyB_size hum.el u.length
      rw [List.take_length] at h1
      have := hum.len; omega
    have hlk : (((onceL (l.take k)).map keyB).any (fun s => decide (s = keyB u)) = true) ↔ Lit.string (keyB u).data.toList ∈ litS (((onceL (l.take k)).map keyB).reverse) := by
      rw [litS_mem, List.mem_reverse, List.any_eq_true]
      constructor
      · rintro ⟨s, hs, e⟩; rw [← of_decide_eq_true e]; exact hs
      · intro h; exact ⟨_, h, by simp⟩
    refine qt (qa (qd (qB (qd (qb (zA rfl (qo rfl qH rfl rfl (by omega) (qbp hu)) (zA rfl (qR rfl qap rfl) ?_)))))))
    refine zN rfl rfl rfl (qc (qa (qd (qb (zM rfl rfl rfl (qC (avs := [_]) true rfl rfl rfl (by decide) en_guard_key rfl rfl (key_ok u hum) rfl rfl (zN rfl rfl rfl ?_)))))))
    refine qc (qa (qd (qb (zM rfl rfl rfl (zM rfl rfl rfl (zA rfl (stp_mapGet rfl qc2 Tryz.zeroValue4 rfl rfl rfl rfl (Go.WideMaps.keyOf_string_mk qaY hks) (hlk)) (zA rfl (qU rfl rfl) ?_))))))); refine qc (qa (qu rfl (fun c1 => ?_) (fun c1 => ?_)))
    · try simp only [↓cqA, cqB] at c1
      have hoe : onceL (l.take (k + 1)) = onceL (l.take k) ++ [u] := by rw [hos, onceS, if_neg (by simpa using c1)]
      refine qd (qb (zM rfl rfl rfl (zM rfl rfl rfl (awps_mapSet rfl rfl rfl qc2 rfl rfl rfl rfl rfl (Go.WideMaps.keyOf_string_mk qaY (hks)) (by omega) (qc (qa (qb ?_)))))))
      refine zM rfl rfl rfl (zM rfl rfl rfl (qz rfl rfl (by decide) (qS 24 rfl qH qa4 rfl rfl (by decide) (by decide) (by decide) rfl rfl rfl) rfl (qbt rfl rfl (by decide) (qaA 25 qbw rfl rfl rfl rfl rfl rfl rfl rfl (noL hL _) (by omega) rfl) rfl ?_)))
      refine qar (qaE 25 2 (noL hL _) (noL hL _)) (zN rfl rfl rfl (qc (qP (qa (qb (zA rfl (qM rfl rfl rfl (by omega)) (zM rfl rfl rfl ?_))))))); refine qc (qa ?_); refine ⟨?_, ?_, ?_⟩
      · skip
        omega
      · skip
        omega
      exact qI (SubT.cons (zT rfl) (SubT.cons (zT rfl) (SubT.cons (zT rfl) (SubT.cons (zT rfl) (SubT.cons (zT rfl) (SubT.nil)))))) (SubO.cons (qag rfl (by rw [hoe]; try rw [qcd]; try rfl)) (SubO.cons (qag rfl (by rw [hoe]; try (simp [litS, Ob.rn]; done); try rfl)) (SubO.nil))) rfl rfl (noL' (noL hL) _)
    try simp only [↓cqA, cqB] at c1
    have hoe : onceL (l.take (k + 1)) = onceL (l.take k) := by rw [hos, onceS, if_pos (by simpa using c1)]
    refine qt (qP (qa (qb (zA rfl (qM rfl rfl rfl (by omega)) (zM rfl rfl rfl (qc (qa ?_))))))); refine ⟨?_, ?_, ?_⟩
    · skip
      omega
    · skip
      omega
    exact qI (SubT.cons (zT rfl) (SubT.cons (zT rfl) (SubT.cons (zT rfl) (SubT.cons (zT rfl) (SubT.cons (zT rfl) (SubT.nil)))))) (SubO.cons (qag rfl (by rw [hoe]; try rw [qcd]; try rfl)) (SubO.cons (qag rfl (by rw [hoe]; try (simp [litS, Ob.rn]; done); try rfl)) (SubO.nil))) rfl rfl (noL' (noL hL) _)
  try simp only [↓cqA, cqB] at c0
  refine qQ (qq (qq (q7 ?_))); refine qa (qd (qb (zM rfl rfl rfl (zN rfl rfl rfl (qc (qa (qm ?_)))))))
  -- leaf 0F
  change retQ _ _ _ _ _ _ _
  refine retO (O' := [(2, _)]) (.inl rfl) (qf rfl qh) (SubO.cons rfl SubO.nil) ?_ ?_ (noL' (noL hL) _) ?_
  · rfl
  · rfl
  exact ⟨rfl, by rw [List.take_of_length_le (by omega)]⟩
end Go.Proofs.YtdecgkhdbfgldaaGreat

set_option linter.unusedVariables false
set_option linter.unusedSimpArgs false
set_option maxRecDepth 8000
namespace Go.Proofs.YtdecgkhdbfgldaaGreat
open Go
theorem standL_len16 (l : List Bd) (s : ByteArray) (t : Tm) : (qci l s t).length ≤ 16 := by
  unfold qci
  split
  · simp
  · rename_i h
    rw [qa0 _ _ _ (by rw [qco]; exact posB_le l s), qco]
    simp only [not_or] at h; omega
mutual
theorem fitR_len16 : ∀ (d : Nat) (l : List Bd) (a b : Tm), l.length ≤ 16 → (fitR d l a b).1.length ≤ 16
  | 0, l, a, b, _ => by rw [fitR]; simp
  | d + 1, l, a, b, h => by
    rw [fitR]
    split
    · split
      · split
        · exact h
        · simp
      · exact standL_len16 l a.name b
    · split
      · exact fitL_len16 d (a.args.zip b.args) l h
      · simp
theorem fitL_len16 : ∀ (d : Nat) (ps : List (Tm × Tm)) (l : List Bd), l.length ≤ 16 → (fitL d l ps).1.length ≤ 16
  | d, [], l, h => by rw [fitL]; exact h
  | d, p :: ps, l, h => by
    rw [fitL]
    split
    · simp
    · exact fitL_len16 d ps _ (fitR_len16 d l p.1 p.2 h)
end
theorem ansL_len16 (k : List Tm) (a : Tm) : ∀ y ∈ ansL k a, y.length ≤ 16 := fun y hy => by
  obtain ⟨t, _, rfl⟩ := List.mem_map.1 hy
  exact fitR_len16 5 [] a t (by simp)
def behL (k : List Tm) (l : List Bd) (g : Gd) : List (List Bd) :=
  if g.kind = 5 then (if (mayT (putT l g.l) && qda (putT l g.l)) = true then ((ansL k (putT l g.l)).filter fun y => decide (qcc l y = 0)).map fun y => qcf l y else [])
  else if g.kind = 6 then (if (mayT (putT l g.l) && qbh (putT l g.l) && !(qda (putT l g.l) && decide (0 < (ansL k (putT l g.l)).length))) = true then [l] else [])
  else if cmpdB l g = true then [l] else []
theorem behL_bok {k : List Tm} (hk : ∀ t ∈ k, t.wf ∧ mayT t = true) {l : List Bd} (hl : BOk l) {g : Gd} (hg : g.wf) : ∀ y ∈ behL k l g, BOk y := fun y hy => by
  unfold behL at hy
  split at hy
  · split at hy
    · obtain ⟨z, hz, rfl⟩ := List.mem_map.1 hy
      exact bothL_ok hl (ansL_bok hk (qcq hl hg.2.1) z (List.mem_filter.1 hz).1)
    · cases hy
  · split at hy
    · split at hy
      · rw [List.mem_singleton.1 hy]; exact hl
      · cases hy
    · split at hy
      · rw [List.mem_singleton.1 hy]; exact hl
      · cases hy
theorem behL_len (k : List Tm) (l : List Bd) (g : Gd) : (behL k l g).length ≤ k.length + 1 := by
  unfold behL
  split
  · split
    · rw [List.length_map]; have := List.length_filter_le (fun y => decide (qcc l y = 0)) (ansL k (putT l g.l)); have := ansL_len k (putT l g.l); omega
    · simp
  · split <;> split <;> simp
def blPost (X : List (List Bd)) (r : AV) : Prop := (r = .imm (.slice none 0 0) ∧ X = []) ∨ r = .dat false 1 (qaM X)
theorem blPost_ok {f : FuncId} {args : List AV} {X : List (List Bd)} (h : AC Tryz.prog f args [] (fun r O => blPost X r ∧ O = [])) : PF f args (.dat false 1 (qaM X)) :=
  AC_leP h (fun r O' h => by
    obtain ⟨⟨rfl, e1⟩ | rfl, rfl⟩ := h
    · exact ⟨_, .nil (f := false) (k := 1), by rw [e1]; rfl, rfl⟩
    · exact ⟨_, .refl, rfl, rfl⟩)
theorem behind_ok (k : List Tm) (hkl : k.length ≤ 60) (hk : ∀ t ∈ k, t.wf ∧ mayT t = true) (l : List Bd) (hl : BOk l) (hl16 : l.length ≤ 16) (g : Gd) (hg : g.wf) (ho : okG g = true) : PF 170 [.dat false 4 (tmDs k), bdA l, gdA g] (.dat false 1 (qaM (behL k l g))) := by
  refine blPost_ok ?_
  have hlk := qaa k
  have w1 := hg.2.1
  have hml : mayT g.l = true := by
    simp only [okG, cmpsB, Bool.or_eq_true, Bool.and_eq_true] at ho
    rcases ho with h | h
    · exact h.1.2
    · exact h.1.2.1
  have p1 := qcq hl w1
  have hal := ansL_len k (putT l g.l)
  have hab := ansL_bok hk p1
  have hbl := qaJ (ansL k (putT l g.l))
  refine qG Tryz.func170 rfl Tryz.ntmps170 (Nat.le_of_ble_eq_true rfl) fun c hL hQ hDD => (qd (qb (qz rfl rfl (by decide) (qab 5 rfl rfl rfl) rfl (zN rfl rfl rfl (qc (qa (qd ?_))))))); refine qb (zM rfl rfl rfl (zA rfl (qg rfl qaO rfl) (zA rfl (qr rfl qi rfl rfl rfl rfl rfl) ?_)))
  refine qC (avs := [_, _]) true rfl rfl rfl (by decide) en_bind_Put rfl rfl (Put_ok l hl g.l (qao hml) w1) rfl rfl (qz rfl rfl (by decide) (qaf 7 rfl q6 rfl) rfl (qO rfl rfl rfl qi rfl rfl rfl rfl rfl rfl rfl rfl rfl (qc (qa (awp_cut ⟨[(0, .dat false 4 (tmDs k)), (1, bdA l), (5, .ptr 5 0), (6, .imm (.slice none 0 0)), (7, .ptr 7 0), (8, bv (mayT (putT l g.l) && qda (putT l g.l)))], [(5, .box (lift false (gdD g))), (7, .box (lift false (tmD (putT l g.l))))]⟩ ?_ ?_)))))
  · skip
    refine qbb (qcK hQ) (qb (zA rfl (qw rfl qi rfl rfl rfl rfl) (qC (avs := [_]) true rfl rfl rfl (by decide) qa2 rfl rfl (May_ok (putT l g.l) p1) rfl rfl (zM rfl rfl rfl (qA 19 rfl (fun g19 => ?_) (fun g19 => ?_))))))
    · try simp only [↓cqA, cqB] at g19
      refine zG rfl rfl rfl rfl (qw rfl qi rfl rfl rfl rfl) (zG rfl rfl rfl rfl (qN (avs := [_]) true rfl qcY rfl rfl (Flat_ok (putT l g.l) (qa6 g19).1 p1) (fun _ => rfl) rfl) (zA rfl (qj rfl rfl rfl) (zN rfl rfl rfl (qc ?_))))
      exact qcJ (qI (SubT.cons (zT rfl) (SubT.cons (zT rfl) (SubT.cons (zT rfl) (SubT.cons (zT rfl) (SubT.cons (zT rfl) (SubT.cons (qbg rfl (by first | (exact bool_imm (by simp [g19])) | rfl)) (SubT.nil))))))) (SubO.cons (qag rfl (by rfl)) (SubO.cons (qag rfl (by rfl)) (SubO.nil))) rfl rfl (noL' (noL hL) _))
    try simp only [↓cqA, cqB] at g19
    refine zS rfl rfl rfl rfl (zS rfl rfl rfl rfl (zA rfl (qj rfl rfl rfl) (zN rfl rfl rfl (qc ?_))))
    exact qcJ (qI (SubT.cons (zT rfl) (SubT.cons (zT rfl) (SubT.cons (zT rfl) (SubT.cons (zT rfl) (SubT.cons (zT rfl) (SubT.cons (qbg rfl (by first | (exact bool_imm (by simp [g19])) | rfl)) (SubT.nil))))))) (SubO.cons (qag rfl (by rfl)) (SubO.cons (qag rfl (by rfl)) (SubO.nil))) rfl rfl (noL' (noL hL) _))
  refine qd (qd (qb (zA rfl (qg rfl qaS rfl) (zA rfl (qr rfl qay rfl rfl rfl rfl rfl) (qc (qa (qB ?_))))))); refine qd (qb (zA rfl (qn rfl rfl rfl rfl) (zN rfl rfl rfl (qc (qa (qu rfl (fun c0 => ?_) (fun c0 => ?_)))))))
  · try simp only [↓cqA, cqB] at c0
    refine qd (qd (qb (zM rfl rfl rfl (zA rfl (qU rfl rfl) (qc (qa (qu rfl (fun c1 => ?_) (fun c1 => ?_))))))))
    · try simp only [↓cqA, cqB] at c1
      refine qd (qb (zN rfl rfl rfl (qc (qa (qm (ql (qL (ql (?_)))))))))
      -- leaf 0T1T
      refine ret0 (noL hL) (.inl rfl) (qf rfl (qh)) ?_ ?_
      · rfl
      refine ⟨?_, rfl⟩
      unfold behL
      first
        | (rw [if_pos c0, if_neg (by simp [c1])]; exact .inl ⟨rfl, rfl⟩)
        | (have e : (ansL k (putT l g.l)).take i = ansL k (putT l g.l) := List.take_of_length_le (by omega)
           rw [if_pos c0, if_pos c1, e]; exact .inr rfl)
        | (rw [if_neg (by assumption), if_pos (by assumption)]
           first
             | (rw [if_pos (by simp_all)]; exact .inr rfl)
             | (rw [if_neg (by simp_all)]; exact .inl ⟨rfl, rfl⟩))
        | (rw [if_neg (by assumption), if_neg (by assumption)]
           first
             | (rw [if_pos (by simp_all)]; exact .inr rfl)
             | (rw [if_neg (by simp_all)]; exact .inl ⟨rfl, rfl⟩))
        | trace_state
    try simp only [↓cqA, cqB] at c1
    have hf : mayT (putT l g.l) = true ∧ qda (putT l g.l) = true := by simpa using c1
    refine qt (qa (qd (qd (qb (zM rfl rfl rfl (zA rfl (qw rfl qi rfl rfl rfl rfl) (qC (avs := [_, _]) false rfl rfl rfl (by decide) en_known_Answers rfl rfl (Answers_ok k hkl hk (putT l g.l) p1 hf.1) rfl rfl ?_))))))); refine zA rfl (qy rfl qH rfl) ?_
    refine zM rfl rfl rfl (qc (qa (qB (qV ((ansL k (putT l g.l)).length) (fun i => i ≤ (ansL k (putT l g.l)).length) (fun i => ⟨[(1, bdA l), (6, .row 6), (35, .dat false 1 (qaM (ansL k (putT l g.l)))), (36, iv (qaM (ansL k (putT l g.l))).length), (37, iv (i : Int))], [(6, .rowd 28 1 false (qaM ((((ansL k (putT l g.l)).take i).filter fun y => decide (qcc l y = 0)).map fun y => qcf l y)))]⟩) (by omega) ?_ (fun i hi hpi => ?_)))))
    · exact Sub.trans (qaL (t := 6) (l := 6) 28 1 false rfl rfl) (qI (SubT.cons (zT rfl) (SubT.cons (zT rfl) (SubT.cons (zT rfl) (SubT.cons (zT rfl) (SubT.cons (zT rfl) (SubT.nil)))))) (SubO.cons (qag rfl (by rfl)) (SubO.nil)) rfl rfl (noL' (noL hL) _))
    have hl2 : (qaM ((((ansL k (putT l g.l)).take i).filter fun y => decide (qcc l y = 0)).map fun y => qcf l y)).length ≤ k.length := by
      rw [qaJ, List.length_map]; have := filter_take_le (fun y => decide (qcc l y = 0)) (ansL k (putT l g.l)) i; omega
    refine qd (qb (zA rfl (qn rfl rfl rfl rfl) (qc (qa (qd (qu rfl (fun c2 => ?_) (fun c2 => ?_)))))))
    · try simp only [↓cqA, cqB] at c2
      obtain ⟨u, hu⟩ := qK (l := ansL k (putT l g.l)) (k := i) (by omega)
      have hum := hab u (List.mem_of_getElem? hu)
      have hul := ansL_len16 k (putT l g.l) u (List.mem_of_getElem? hu)
      have hfs := filter_snoc (fun y => decide (qcc l y = 0)) hu
      refine qt (qa (qd (qB (qd (qb (zA rfl (qo rfl qH rfl rfl (by omega) (qbp hu)) (zA rfl (qR rfl qap rfl) ?_)))))))
      refine zN rfl rfl rfl (qc (qa (qd (qb (zM rfl rfl rfl (zM rfl rfl rfl ?_))))))
      refine qC (avs := [_, _]) false rfl rfl rfl (by decide) en_bind_Both rfl rfl (Both_ok l u hl hum (by omega)) rfl rfl (zM rfl rfl rfl (zA rfl (qY rfl rfl rfl) (zA rfl (qY rfl rfl rfl) ?_)))
      refine zN rfl rfl rfl (zN rfl rfl rfl (qc (qa (qd (qb (zM rfl rfl rfl (zA rfl (qn rfl rfl rfl rfl) ?_))))))); refine qc (qa (qu rfl (fun c3 => ?_) (fun c3 => ?_)))
      · try simp only [↓cqA, cqB] at c3
        have hfe : qaM ((((ansL k (putT l g.l)).take (i + 1)).filter fun y => decide (qcc l y = 0)).map fun y => qcf l y) = qaM ((((ansL k (putT l g.l)).take i).filter fun y => decide (qcc l y = 0)).map fun y => qcf l y) ++ [[.sl 5 (bdDs (qcf l u))]] := by
          rw [hfs, if_pos (by simp [c3]), List.map_append, ← qcd]; rfl
        refine qb (zM rfl rfl rfl (zM rfl rfl rfl (qz rfl rfl (by decide) (qS 51 rfl qH qa4 rfl rfl (by decide) (by decide) (by decide) rfl rfl rfl) rfl (qbt rfl rfl (by decide) (qaA 52 qbw rfl rfl rfl rfl rfl rfl rfl rfl (noL hL _) (by omega) rfl) rfl ?_))))
        refine qar (qaE 52 6 (noL hL _) (noL hL _)) (zN rfl rfl rfl (qc (qP (qa (qb (zA rfl (qM rfl rfl rfl (by omega)) (zM rfl rfl rfl ?_))))))); refine qc (qa ?_); refine ⟨?_, ?_, ?_⟩
        · skip
          omega
        · skip
          omega
        exact qI (SubT.cons (zT rfl) (SubT.cons (zT rfl) (SubT.cons (zT rfl) (SubT.cons (zT rfl) (SubT.cons (zT rfl) (SubT.nil)))))) (SubO.cons (qag rfl (by rw [hfe]; try rfl)) (SubO.nil)) rfl rfl (noL' (noL hL) _)
      try simp only [↓cqA, cqB] at c3
      have hfe : qaM ((((ansL k (putT l g.l)).take (i + 1)).filter fun y => decide (qcc l y = 0)).map fun y => qcf l y) = qaM ((((ansL k (putT l g.l)).take i).filter fun y => decide (qcc l y = 0)).map fun y => qcf l y) := by
        rw [hfs, if_neg (by simp [c3]), List.append_nil]
      refine qt (qP (qa (qb (zA rfl (qM rfl rfl rfl (by omega)) (zM rfl rfl rfl (qc (qa ?_))))))); refine ⟨?_, ?_, ?_⟩
      · skip
        omega
      · skip
        omega
      exact qI (SubT.cons (zT rfl) (SubT.cons (zT rfl) (SubT.cons (zT rfl) (SubT.cons (zT rfl) (SubT.cons (zT rfl) (SubT.nil)))))) (SubO.cons (qag rfl (by rw [hfe]; try rfl)) (SubO.nil)) rfl rfl (noL' (noL hL) _)
    try simp only [↓cqA, cqB] at c2
    refine qQ (qq (qq (q7 ?_))); refine qa (qd (qbb (qam (l := 6) rfl (by decide) (noL hL _) rfl rfl) (qb (zM rfl rfl rfl (zN rfl rfl rfl (qc (qa ?_))))))); refine qm (qL (ql (?_)))
    -- leaf 0T1F2F
    refine ret0 (noL hL) (.inl rfl) (qf rfl (qh)) ?_ ?_
    · rfl
    refine ⟨?_, rfl⟩
    unfold behL
    first
      | (rw [if_pos c0, if_neg (by simp [c1])]; exact .inl ⟨rfl, rfl⟩)
      | (have e : (ansL k (putT l g.l)).take i = ansL k (putT l g.l) := List.take_of_length_le (by omega)
         rw [if_pos c0, if_pos c1, e]; exact .inr rfl)
      | (rw [if_neg (by assumption), if_pos (by assumption)]
         first
           | (rw [if_pos (by simp_all)]; exact .inr rfl)
           | (rw [if_neg (by simp_all)]; exact .inl ⟨rfl, rfl⟩))
      | (rw [if_neg (by assumption), if_neg (by assumption)]
         first
           | (rw [if_pos (by simp_all)]; exact .inr rfl)
           | (rw [if_neg (by simp_all)]; exact .inl ⟨rfl, rfl⟩))
      | trace_state
  try simp only [↓cqA, cqB] at c0
  refine qd (qb (zA rfl (qn rfl rfl rfl rfl) (zN rfl rfl rfl (qc (qa (qu rfl (fun c4 => ?_) (fun c4 => ?_)))))))
  · try simp only [↓cqA, cqB] at c4
    refine qd (qb (zA rfl (qw rfl qi rfl rfl rfl rfl) (qC (avs := [_]) true rfl rfl rfl (by decide) qa2 rfl rfl (May_ok (putT l g.l) p1) rfl rfl (zA rfl (qU rfl rfl) (zM rfl rfl rfl (qA 60 rfl (fun g60 => ?_) (fun g60 => ?_)))))))
    · try simp only [↓cqA, cqB] at g60
      refine zS rfl rfl rfl rfl (zS rfl rfl rfl rfl (zS rfl rfl rfl rfl (zA rfl (qj rfl rfl rfl) (zM rfl rfl rfl (zS rfl rfl rfl rfl ?_)))))
      refine zS rfl rfl rfl rfl (qaG rfl rfl rfl (by decide) rfl (by decide) (qaG rfl rfl rfl (by decide) rfl (by decide) (qaG rfl rfl rfl (by decide) rfl (by decide) (qaG rfl rfl rfl (by decide) rfl (by decide) (qaG rfl rfl rfl (by decide) rfl (by decide) ?_)))))
      refine zS rfl rfl rfl rfl (zA rfl (qj rfl rfl rfl) (qc (qa (qaj rfl (qd (qb (zN rfl rfl rfl ?_))))))); refine qc (qa (qm (qL (ql (?_)))))
      -- leaf 0F4Tg60T
      refine ret0 (noL hL) (.inl rfl) (qf rfl (qh)) ?_ ?_
      · rfl
      refine ⟨?_, rfl⟩
      unfold behL
      first
        | (rw [if_pos c0, if_neg (by simp [c1])]; exact .inl ⟨rfl, rfl⟩)
        | (have e : (ansL k (putT l g.l)).take i = ansL k (putT l g.l) := List.take_of_length_le (by omega)
           rw [if_pos c0, if_pos c1, e]; exact .inr rfl)
        | (rw [if_neg (by assumption), if_pos (by assumption)]
           first
             | (rw [if_pos (by simp_all)]; exact .inr rfl)
             | (rw [if_neg (by simp_all)]; exact .inl ⟨rfl, rfl⟩))
        | (rw [if_neg (by assumption), if_neg (by assumption)]
           first
             | (rw [if_pos (by simp_all)]; exact .inr rfl)
             | (rw [if_neg (by simp_all)]; exact .inl ⟨rfl, rfl⟩))
        | trace_state
    try simp only [↓cqA, cqB] at g60
    refine zG rfl rfl rfl rfl (qw rfl qi rfl rfl rfl rfl) (zG rfl rfl rfl rfl (qN (avs := [_]) true rfl en_term_Is rfl rfl (Is_ok (putT l g.l) p1 (by assumption)) (fun _ => rfl) rfl) (zG rfl rfl rfl rfl (qU rfl rfl) (zA rfl (qj rfl rfl rfl) (zM rfl rfl rfl (qA 65 rfl (fun g65 => ?_) (fun g65 => ?_))))))
    · try simp only [↓cqA, cqB] at g65
      refine zS rfl rfl rfl rfl (zS rfl rfl rfl rfl (qaG rfl rfl rfl (by decide) rfl (by decide) (qaG rfl rfl rfl (by decide) rfl (by decide) (qaG rfl rfl rfl (by decide) rfl (by decide) (qaG rfl rfl rfl (by decide) rfl (by decide) ?_)))))
      refine qaG rfl rfl rfl (by decide) rfl (by decide) (zS rfl rfl rfl rfl (zA rfl (qj rfl rfl rfl) (qc (qa (qaj rfl (qd (qb ?_))))))); refine zN rfl rfl rfl (qc (qa (qm (qL (ql (?_))))))
      -- leaf 0F4Tg60Fg65T
      refine ret0 (noL hL) (.inl rfl) (qf rfl (qh)) ?_ ?_
      · rfl
      refine ⟨?_, rfl⟩
      unfold behL
      first
        | (rw [if_pos c0, if_neg (by simp [c1])]; exact .inl ⟨rfl, rfl⟩)
        | (have e : (ansL k (putT l g.l)).take i = ansL k (putT l g.l) := List.take_of_length_le (by omega)
           rw [if_pos c0, if_pos c1, e]; exact .inr rfl)
        | (rw [if_neg (by assumption), if_pos (by assumption)]
           first
             | (rw [if_pos (by simp_all)]; exact .inr rfl)
             | (rw [if_neg (by simp_all)]; exact .inl ⟨rfl, rfl⟩))
        | (rw [if_neg (by assumption), if_neg (by assumption)]
           first
             | (rw [if_pos (by simp_all)]; exact .inr rfl)
             | (rw [if_neg (by simp_all)]; exact .inl ⟨rfl, rfl⟩))
        | trace_state
    try simp only [↓cqA, cqB] at g65
    refine zG rfl rfl rfl rfl (qk (.inl rfl) rfl) (zG rfl rfl rfl rfl (qk (.inl rfl) rfl) (qA 67 rfl (fun g67 => ?_) (fun g67 => ?_)))
    · try simp only [↓cqA, cqB] at g67
      refine zG rfl rfl rfl rfl (qk (.inl rfl) rfl) (zG rfl rfl rfl rfl (qw rfl qi rfl rfl rfl rfl) (zG rfl rfl rfl rfl (qN (avs := [_, _]) false rfl en_known_Answers rfl rfl (Answers_ok k hkl hk (putT l g.l) p1 (by assumption)) (fun _ => rfl) rfl) (zG rfl rfl rfl rfl (qy rfl qH rfl) ?_)))
      refine zG rfl rfl rfl rfl (qn rfl rfl rfl rfl) (zG rfl rfl rfl rfl (qj rfl rfl rfl) (zA rfl (qj rfl rfl rfl) (qc (qa (qu rfl (fun c5 => ?_) (fun c5 => ?_))))))
      · try simp only [↓cqA, cqB] at c5
        refine qd (qb (zN rfl rfl rfl (qc (qa (qm (qL (ql (?_))))))))
        -- leaf 0F4Tg60Fg65Fg67T5T
        refine ret0 (noL hL) (.inl rfl) (qf rfl (qh)) ?_ ?_
        · rfl
        refine ⟨?_, rfl⟩
        unfold behL
        first
          | (rw [if_pos c0, if_neg (by simp [c1])]; exact .inl ⟨rfl, rfl⟩)
          | (have e : (ansL k (putT l g.l)).take i = ansL k (putT l g.l) := List.take_of_length_le (by omega)
             rw [if_pos c0, if_pos c1, e]; exact .inr rfl)
          | (rw [if_neg (by assumption), if_pos (by assumption)]
             first
               | (rw [if_pos (by simp_all)]; exact .inr rfl)
               | (rw [if_neg (by simp_all)]; exact .inl ⟨rfl, rfl⟩))
          | (rw [if_neg (by assumption), if_neg (by assumption)]
             first
               | (rw [if_pos (by simp_all)]; exact .inr rfl)
               | (rw [if_neg (by simp_all)]; exact .inl ⟨rfl, rfl⟩))
          | trace_state
      try simp only [↓cqA, cqB] at c5
      refine qt (qP (qa (qd (qb (zM rfl rfl rfl (qz rfl rfl (by decide) (qS 76 rfl qH qa4 rfl rfl (by decide) (by decide) (by decide) rfl rfl rfl) rfl (qbA 76 false 1 rfl rfl rfl rfl ?_))))))); refine qar (qam (l := 76) rfl (by decide) (noL hL _) rfl rfl) (zN rfl rfl rfl (qc (qa (qm ?_))))
      -- leaf 0F4Tg60Fg65Fg67T5F
      refine ret0 (noL hL) (.inl rfl) (qf rfl (qh)) ?_ ?_
      · rfl
      refine ⟨?_, rfl⟩
      unfold behL
      first
        | (rw [if_pos c0, if_neg (by simp [c1])]; exact .inl ⟨rfl, rfl⟩)
        | (have e : (ansL k (putT l g.l)).take i = ansL k (putT l g.l) := List.take_of_length_le (by omega)
           rw [if_pos c0, if_pos c1, e]; exact .inr rfl)
        | (rw [if_neg (by assumption), if_pos (by assumption)]
           first
             | (rw [if_pos (by simp_all)]; exact .inr rfl)
             | (rw [if_neg (by simp_all)]; exact .inl ⟨rfl, rfl⟩))
        | (rw [if_neg (by assumption), if_neg (by assumption)]
           first
             | (rw [if_pos (by simp_all)]; exact .inr rfl)
             | (rw [if_neg (by simp_all)]; exact .inl ⟨rfl, rfl⟩))
        | trace_state
    try simp only [↓cqA, cqB] at g67
    refine zS rfl rfl rfl rfl (zS rfl rfl rfl rfl (zS rfl rfl rfl rfl (zS rfl rfl rfl rfl (zS rfl rfl rfl rfl ?_))))
    refine zG rfl rfl rfl rfl (qj rfl rfl rfl) (zA rfl (qj rfl rfl rfl) (qc (qa (qas rfl (qt (qP (qa ?_))))))); refine qd (qb (zM rfl rfl rfl ?_))
    refine qz rfl rfl (by decide) (qS 76 rfl qH qa4 rfl rfl (by decide) (by decide) (by decide) rfl rfl rfl) rfl (qbA 76 false 1 rfl rfl rfl rfl (qar (qam (l := 76) rfl (by decide) (noL hL _) rfl rfl) (zN rfl rfl rfl (qc (qa (qm ?_))))))
    -- leaf 0F4Tg60Fg65Fg67F
    refine ret0 (noL hL) (.inl rfl) (qf rfl (qh)) ?_ ?_
    · rfl
    refine ⟨?_, rfl⟩
    unfold behL
    first
      | (rw [if_pos c0, if_neg (by simp [c1])]; exact .inl ⟨rfl, rfl⟩)
      | (have e : (ansL k (putT l g.l)).take i = ansL k (putT l g.l) := List.take_of_length_le (by omega)
         rw [if_pos c0, if_pos c1, e]; exact .inr rfl)
      | (rw [if_neg (by assumption), if_pos (by assumption)]
         first
           | (rw [if_pos (by simp_all)]; exact .inr rfl)
           | (rw [if_neg (by simp_all)]; exact .inl ⟨rfl, rfl⟩))
      | (rw [if_neg (by assumption), if_neg (by assumption)]
         first
           | (rw [if_pos (by simp_all)]; exact .inr rfl)
           | (rw [if_neg (by simp_all)]; exact .inl ⟨rfl, rfl⟩))
      | trace_state
  try simp only [↓cqA, cqB] at c4
  refine qd ?_
  have hmr : mayT g.r = true := by
    simp only [okG, cmpsB, Bool.or_eq_true, Bool.and_eq_true, decide_eq_true_eq] at ho
    rcases ho with h | h
    · exact h.2
    · rcases h.1.1 with h | h
      · exact absurd h (by assumption)
      · exact absurd h (by assumption)
  refine qb (zM rfl rfl rfl (zA rfl (qw rfl qaz rfl rfl rfl rfl) (qC (avs := [_, _]) true rfl rfl rfl (by decide) en_guard_compared rfl rfl (compared_ok l hl g hg hml hmr) rfl rfl (zA rfl (qU rfl rfl) (qc (qa (qu rfl (fun c6 => ?_) (fun c6 => ?_))))))))
  · try simp only [↓cqA, cqB] at c6
    refine qd (qb (zN rfl rfl rfl (qc (qa (qm (qL (ql (?_))))))))
    -- leaf 0F4F6T
    refine ret0 (noL hL) (.inl rfl) (qf rfl (qh)) ?_ ?_
    · rfl
    refine ⟨?_, rfl⟩
    unfold behL
    first
      | (rw [if_pos c0, if_neg (by simp [c1])]; exact .inl ⟨rfl, rfl⟩)
      | (have e : (ansL k (putT l g.l)).take i = ansL k (putT l g.l) := List.take_of_length_le (by omega)
         rw [if_pos c0, if_pos c1, e]; exact .inr rfl)
      | (rw [if_neg (by assumption), if_pos (by assumption)]
         first
           | (rw [if_pos (by simp_all)]; exact .inr rfl)
           | (rw [if_neg (by simp_all)]; exact .inl ⟨rfl, rfl⟩))
      | (rw [if_neg (by assumption), if_neg (by assumption)]
         first
           | (rw [if_pos (by simp_all)]; exact .inr rfl)
           | (rw [if_neg (by simp_all)]; exact .inl ⟨rfl, rfl⟩))
      | trace_state
  try simp only [↓cqA, cqB] at c6
  refine qt (qP (qa (qd (qb (zM rfl rfl rfl (qz rfl rfl (by decide) (qS 76 rfl qH qa4 rfl rfl (by decide) (by decide) (by decide) rfl rfl rfl) rfl (qbA 76 false 1 rfl rfl rfl rfl ?_))))))); refine qar (qam (l := 76) rfl (by decide) (noL hL _) rfl rfl) (zN rfl rfl rfl (qc (qa (qm ?_))))
  -- leaf 0F4F6F
  refine ret0 (noL hL) (.inl rfl) (qf rfl (qh)) ?_ ?_
  · rfl
  refine ⟨?_, rfl⟩
  unfold behL
  first
    | (rw [if_pos c0, if_neg (by simp [c1])]; exact .inl ⟨rfl, rfl⟩)
    | (have e : (ansL k (putT l g.l)).take i = ansL k (putT l g.l) := List.take_of_length_le (by omega)
       rw [if_pos c0, if_pos c1, e]; exact .inr rfl)
    | (rw [if_neg (by assumption), if_pos (by assumption)]
       first
         | (rw [if_pos (by simp_all)]; exact .inr rfl)
         | (rw [if_neg (by simp_all)]; exact .inl ⟨rfl, rfl⟩))
    | (rw [if_neg (by assumption), if_neg (by assumption)]
       first
         | (rw [if_pos (by simp_all)]; exact .inr rfl)
         | (rw [if_neg (by simp_all)]; exact .inl ⟨rfl, rfl⟩))
    | trace_state
def allStep (k : List Tm) (X : List (List Bd)) (g : Gd) : List (List Bd) := onceL (X.flatMap fun b => behL k b g)
def allX (k : List Tm) (l : List Bd) (gs : List Gd) : List (List Bd) := gs.foldl (allStep k) [l]
theorem allX_snoc (k : List Tm) (l : List Bd) {gs : List Gd} {i : Nat} {g : Gd} (hg : gs[i]? = some g) : allX k l (gs.take (i + 1)) = allStep k (allX k l (gs.take i)) g := by
  rw [qah hg, allX, List.foldl_append]; rfl
theorem onceL_mem : ∀ (l x : List (List Bd)) (y : List Bd), y ∈ l.foldl onceS x → y ∈ x ∨ y ∈ l
  | [], x, y, h => .inl h
  | a :: l, x, y, h => by
    rcases onceL_mem l (onceS x a) y h with h | h
    · unfold onceS at h
      split at h
      · exact .inl h
      · rcases List.mem_append.1 h with h | h
        · exact .inl h
        · exact .inr (by rw [List.mem_singleton.1 h]; simp)
    · exact .inr (List.mem_cons_of_mem _ h)
theorem bothL_len16 (a b : List Bd) : (qcf a b).length ≤ 16 := by
  unfold qcf
  split
  · rename_i h; exact h.2
  · simp
theorem behL_len16 (k : List Tm) (l : List Bd) (g : Gd) (hl : l.length ≤ 16) : ∀ y ∈ behL k l g, y.length ≤ 16 := fun y hy => by
  unfold behL at hy
  split at hy
  · split at hy
    · obtain ⟨z, _, rfl⟩ := List.mem_map.1 hy; exact bothL_len16 l z
    · cases hy
  · split at hy <;> split at hy <;> first | (rw [List.mem_singleton.1 hy]; exact hl) | cases hy
theorem allX_all {k : List Tm} (hk : ∀ t ∈ k, t.wf ∧ mayT t = true) {l : List Bd} (hl : BOk l) (hl2 : l.length ≤ 16) : ∀ (gs : List Gd) (X : List (List Bd)), (∀ g ∈ gs, g.wf) → (∀ y ∈ X, BOk y ∧ y.length ≤ 16) → ∀ y ∈ gs.foldl (allStep k) X, BOk y ∧ y.length ≤ 16
  | [], X, _, h => h
  | g :: gs, X, hg, h => allX_all hk hl hl2 gs (allStep k X g) (fun g' hg' => hg g' (by simp [hg'])) fun y hy => by
    rcases onceL_mem _ _ y hy with hy | hy
    · cases hy
    · obtain ⟨b, hb, hy⟩ := List.mem_flatMap.1 hy
      exact ⟨behL_bok hk (h b hb).1 (hg g (by simp)) y hy, behL_len16 k b g (h b hb).2 y hy⟩
theorem flatMap_len {α β : Type} (f : α → List β) (m : Nat) : ∀ (l : List α), (∀ a ∈ l, (f a).length ≤ m) → (l.flatMap f).length ≤ l.length * m
  | [], _ => by simp
  | a :: l, h => by
    have := flatMap_len f m l fun b hb => h b (by simp [hb])
    have := h a (by simp)
    rw [List.flatMap_cons, List.length_append, List.length_cons, Nat.succ_mul]; omega
def allOk (k : List Tm) (l : List Bd) (gs : List Gd) : Bool := (List.range gs.length).all fun i => decide ((allX k l (gs.take (i + 1))).length ≤ 1000)
def allL (k : List Tm) (l : List Bd) (gs : List Gd) : List (List Bd) := if allOk k l gs = true then allX k l gs else []
def allE (k : List Tm) (l : List Bd) (gs : List Gd) : Int := if allOk k l gs = true then 0 else 2
end Go.Proofs.YtdecgkhdbfgldaaGreat

set_option linter.unusedVariables false
set_option linter.unusedSimpArgs false
set_option maxRecDepth 8000
namespace Go.Proofs.YtdecgkhdbfgldaaGreat
open Go
theorem All_ok (k : List Tm) (hkl : k.length ≤ 60) (hk : ∀ t ∈ k, t.wf ∧ mayT t = true) (l : List Bd) (hl : BOk l) (hl16 : l.length ≤ 16) (gs : List Gd) (hg : ∀ g ∈ gs, g.wf ∧ okG g = true) (hgl : gs.length ≤ 4) :
    AC Tryz.prog 111 [.dat false 4 (tmDs k), bdA l, .dat false 9 (gdDs gs)] [] (fun r O => r = .tup [.row 8, iv (allE k l gs)] ∧ O = [(8, .rowd 28 1 false (qaM (allL k l gs)))]) := by
  have hlg := qbU gs
  have hlk := qaa k
  have hX0 : ∀ j, j ≤ 0 → (allX k l (gs.take j)).length ≤ 1000 := fun j hj => by
    have : j = 0 := by omega
    subst this; rw [List.take_zero]; simp [allX]
  refine qG Tryz.func111 rfl Tryz.ntmps111 (Nat.le_of_ble_eq_true rfl) fun c hL hQ hDD => (qd (qb (zN rfl rfl rfl (zN rfl rfl rfl (qc (qa (qd ?_))))))); refine qb ?_
  refine zM rfl rfl rfl (qz rfl rfl (by decide) (qS 15 rfl qH qa4 rfl rfl (by decide) (by decide) (by decide) rfl rfl rfl) rfl (qbA 15 false 1 rfl rfl rfl rfl (zN rfl rfl rfl (qc (qa (qd (qd ?_))))))); refine qb (zM rfl rfl rfl (zA rfl (qy rfl qac rfl) ?_))
  refine zM rfl rfl rfl (qc (qa (qB (qV (gs.length) (fun i => i ≤ gs.length ∧ ∀ j, j ≤ i → (allX k l (gs.take j)).length ≤ 1000) (fun i => ⟨[(0, .dat false 4 (tmDs k)), (8, .row 8), (16, .dat false 9 (gdDs gs)), (17, iv (gdDs gs).length), (18, iv (i : Int))], [(8, .rowd 28 1 false (qaM (allX k l (gs.take i))))]⟩) (⟨by omega, hX0⟩) ?_ (fun i hi hpi => ?_)))))
  · exact Sub.trans (qaE 15 8 (noL hL _) (noL hL _)) (qI (SubT.cons (zT rfl) (SubT.cons (zT rfl) (SubT.cons (zT rfl) (SubT.cons (zT rfl) (SubT.cons (zT rfl) (SubT.nil)))))) (SubO.cons (qag rfl (by rfl)) (SubO.nil)) rfl rfl (noL' (noL hL) _))
  have hXl := hpi.2 i (Nat.le_refl _)
  have hXa : ∀ y ∈ allX k l (gs.take i), BOk y ∧ y.length ≤ 16 := allX_all hk hl hl16 (gs.take i) [l] (fun g hgm => (hg g (List.mem_of_mem_take hgm)).1) (fun y hy => by rw [List.mem_singleton.1 hy]; exact ⟨hl, hl16⟩)
  have hXd := qaJ (allX k l (gs.take i))
  generalize hX : allX k l (gs.take i) = X at *
  refine qd (qb (zA rfl (qn rfl rfl rfl rfl) (qc (qa (qd (qu rfl (fun c0 => ?_) (fun c0 => ?_)))))))
  · try simp only [↓cqA, cqB] at c0
    obtain ⟨g, hgi⟩ := qK (l := gs) (k := i) (by omega)
    have hgm := hg g (List.mem_of_getElem? hgi)
    have hXs := allX_snoc k l hgi
    rw [hX] at hXs
    refine qt (qa (qd (qB (qd (qb (zA rfl (qo rfl qac rfl rfl (by omega) (gdDs_get hgi)) (zA rfl (qD rfl qaz rfl rfl) ?_)))))))
    refine qz rfl rfl (by decide) (qaf 10 rfl qcn rfl) rfl (qO rfl rfl rfl qaz rfl rfl rfl rfl rfl rfl rfl rfl rfl (qc (qa (qd (qb (zN rfl rfl rfl (qc ?_))))))); refine qa (qd (qd (qb (zM rfl rfl rfl (zA rfl (qbI rfl qH rfl rfl) ?_)))))
    refine zM rfl rfl rfl (qc (qa (qB (qV (X.length) (fun j => j ≤ X.length) (fun j => ⟨[(0, .dat false 4 (tmDs k)), (10, .ptr 10 0), (11, .row 11), (16, .dat false 9 (gdDs gs)), (17, iv (gdDs gs).length), (18, iv (i : Int)), (22, .row 8), (23, iv (qaM X).length), (24, iv (j : Int))], [(8, .rowd 28 1 false (qaM X)), (10, .box (lift false (gdD g))), (11, .rowd 28 1 false (qaM ((X.take j).flatMap fun b => behL k b g)))]⟩) (by omega) ?_ (fun j hj hpj => ?_)))))
    · exact Sub.trans (qaL (t := 11) (l := 11) 28 1 false rfl rfl) (qI (SubT.cons (zT rfl) (SubT.cons (zT rfl) (SubT.cons (zT rfl) (SubT.cons (zT rfl) (SubT.cons (zT rfl) (SubT.cons (zT rfl) (SubT.cons (zT rfl) (SubT.cons (zT rfl) (SubT.cons (zT rfl) (SubT.nil)))))))))) (SubO.cons (qag rfl (by rfl)) (SubO.cons (qag rfl (by rfl)) (SubO.cons (qag rfl (by rfl)) (SubO.nil)))) rfl rfl (noL' (noL hL) _))
    have hml : ((X.take j).flatMap fun b => behL k b g).length ≤ 62000 := by
      have h1 := flatMap_len (fun b => behL k b g) 61 (X.take j) fun b _ => by have := behL_len k b g; omega
      have h2 : (X.take j).length ≤ 1000 := by simp; omega
      have h3 : (X.take j).length * 61 ≤ 1000 * 61 := Nat.mul_le_mul_right _ h2
      omega
    have hmd := qaJ ((X.take j).flatMap fun b => behL k b g)
    refine qd (qb (zA rfl (qn rfl rfl rfl rfl) (qc (qa (qd (qu rfl (fun c1 => ?_) (fun c1 => ?_)))))))
    · try simp only [↓cqA, cqB] at c1
      obtain ⟨b, hb⟩ := qK (l := X) (k := j) (by omega)
      have hbm := hXa b (List.mem_of_getElem? hb)
      have hbl := behL_len k b g
      have hbd := qaJ (behL k b g)
      refine qt ?_; refine qa ?_; refine qd ?_; refine qB ?_; refine qd ?_; refine qb ?_; refine zA rfl (qch rfl qH rfl rfl rfl (by omega) (by rw [hXd]; omega)) ?_
      refine zA rfl (stp_load_rowdi j 0 rfl qap rfl rfl (by simp) (qbp hb) rfl rfl rfl) (zN rfl rfl rfl (qc (qa (qb (zM rfl rfl rfl (zM rfl rfl rfl (zM rfl rfl rfl ?_))))))); refine zA rfl (qw rfl qaz rfl rfl rfl rfl) ?_
      refine qC (avs := [_, _, _]) false rfl rfl rfl (by decide) en_guard_behind rfl rfl (behind_ok k hkl hk b hbm.1 hbm.2 g hgm.1 hgm.2) rfl rfl ?_; refine qbt rfl rfl (by decide) (qb2 33 qbw rfl rfl rfl rfl rfl (noL hL _) (bdlDs_k _) (by rw [hmd, hbd]; omega) rfl) rfl ?_
      refine zN rfl rfl rfl (qc (qP (qa (qb (zA rfl (qM rfl rfl rfl (by omega)) (zM rfl rfl rfl (qc ?_))))))); refine qa ?_; refine ⟨?_, ?_, ?_⟩
      · skip
        omega
      · skip
        omega
      exact Sub.trans (qaE 33 11 (noL hL _) (noL hL _)) (qI (SubT.cons (zT rfl) (SubT.cons (zT rfl) (SubT.cons (zT rfl) (SubT.cons (zT rfl) (SubT.cons (zT rfl) (SubT.cons (zT rfl) (SubT.cons (zT rfl) (SubT.cons (zT rfl) (SubT.cons (zT rfl) (SubT.nil)))))))))) (SubO.cons (qag rfl (by rfl)) (SubO.cons (qag rfl (by rfl)) (SubO.cons (qag rfl (by rw [qah hb, List.flatMap_append, bdlDs_app]; simp only [List.flatMap_cons, List.flatMap_nil, List.append_nil]; rfl)) (SubO.nil)))) rfl rfl (noL' (noL hL) _))
    try simp only [↓cqA, cqB] at c1
    refine qQ (qq (qq (q7 ?_))); refine qa (qd (qbb (qam (l := 11) rfl (by decide) (noL hL _) rfl rfl) ?_))
    have hjl : X.take j = X := List.take_of_length_le (by omega)
    rw [hjl]
    rw [hjl] at hml
    have hbe := qaJ (onceL (X.flatMap fun b => behL k b g))
    have hbk : ∀ y ∈ X.flatMap fun b => behL k b g, BOk y := fun y hy => by
      obtain ⟨b, hb, hy⟩ := List.mem_flatMap.1 hy; exact behL_bok hk (hXa b hb).1 hgm.1 y hy
    refine qb ?_; refine zM rfl rfl rfl ?_; refine qaN (avs := [_]) false rfl rfl rfl (by decide) en_guard_once rfl rfl (once_ok (X.flatMap fun b => behL k b g) (by omega) hbk) (rfl) (passO .nil) (by rintro r O' ⟨_, rfl⟩; exact frB rfl) (by rintro h; cases h) ?_
    rintro r O' ⟨rfl, rfl⟩
    refine zN rfl rfl rfl (qc (qa (qd (qb (zM rfl rfl rfl (zA rfl (qbI rfl qH rfl rfl) (zA rfl (qn rfl rfl rfl rfl) ?_))))))); refine qc (qa (qu rfl (fun c2 => ?_) (fun c2 => ?_)))
    · try simp only [↓cqA, cqB] at c2
      have hbad : allOk k l gs = false := List.all_eq_false.2 ⟨i, List.mem_range.2 (by omega), by
        rw [hXs]; intro h; have h2 := of_decide_eq_true h; simp only [allStep] at h2; omega⟩
      refine qd (qb (zN rfl rfl rfl (zN rfl rfl rfl (qar (qaL (t := 6) (l := 300) 28 1 false rfl rfl) (qar (qaE 300 8 (noL hL _) (noL hL _)) (qc (qa ?_))))))); refine qm (qL (ql (ql (qL (ql (?_))))))
      change retQ _ _ _ _ _ _ _
      refine retO (O' := [(8, _)]) (.inl rfl) (qf rfl (qf rfl qh)) (SubO.cons rfl SubO.nil) ?_ ?_ (noL' (noL hL) _) ?_
      · rfl
      · rfl
      exact ⟨by rw [allE, if_neg (by simp [hbad])]; rfl, by rw [allL, if_neg (by simp [hbad])]; rfl⟩
    try simp only [↓cqA, cqB] at c2
    refine qt (qP (qa (qb (zA rfl (qM rfl rfl rfl (by omega)) (zM rfl rfl rfl (qc (qa ?_))))))); refine ⟨?_, ?_, ?_⟩
    · skip
      omega
    · skip
      refine ⟨by omega, fun j hj => ?_⟩
      by_cases hji : j ≤ i
      · exact hpi.2 j hji
      · rw [show j = i + 1 by omega, hXs]
        simp only [allStep]; omega
    exact Sub.trans (qaE 2 8 (noL hL _) (noL hL _)) (qI (SubT.cons (zT rfl) (SubT.cons (zT rfl) (SubT.cons (zT rfl) (SubT.cons (zT rfl) (SubT.cons (zT rfl) (SubT.nil)))))) (SubO.cons (qag rfl (by show Ob.rowd _ 1 false (qaM (onceL (X.flatMap fun b => behL k b g))) = _; rw [hXs]; rfl)) (SubO.nil)) rfl rfl (noL' (noL hL) _))
  try simp only [↓cqA, cqB] at c0
  refine qQ (qq (qq (q7 ?_))); refine qa (qd (qb (zM rfl rfl rfl (zN rfl rfl rfl (zN rfl rfl rfl (qc (qa ?_))))))); refine qm ?_
  change retQ _ _ _ _ _ _ _
  have hil : gs.take i = gs := List.take_of_length_le (by omega)
  rw [hil] at hX
  have hgo : allOk k l gs = true := List.all_eq_true.2 fun j hj => by
    have := hpi.2 (j + 1) (by have := List.mem_range.1 hj; omega)
    simpa using this
  refine retO (O' := [(8, _)]) (.inl rfl) (qf rfl (qf rfl qh)) (SubO.cons rfl SubO.nil) ?_ ?_ (noL' (noL hL) _) ?_
  · rfl
  · rfl
  exact ⟨by rw [allE, if_pos hgo]; rfl, by rw [allL, if_pos hgo, hX]⟩
end Go.Proofs.YtdecgkhdbfgldaaGreat

set_option linter.unusedVariables false
set_option linter.unusedSimpArgs false
set_option maxRecDepth 8000
namespace Go.Proofs.YtdecgkhdbfgldaaGreat
open Go
theorem allL_len (k : List Tm) (l : List Bd) (gs : List Gd) : (allL k l gs).length ≤ 1000 := by
  unfold allL
  split
  · rename_i h
    cases gs with
    | nil => simp [allX]
    | cons g gs =>
      have := List.all_eq_true.1 h gs.length (List.mem_range.2 (by simp))
      rw [List.take_of_length_le (by simp)] at this
      exact of_decide_eq_true this
  · simp
def holdC (k : List Tm) (l : List Bd) (gs : List Gd) : Bool := qbq k && mayB l && groundL l && okGs gs
def holdL (k : List Tm) (l : List Bd) (gs : List Gd) : List (List Bd) := if holdC k l gs = true then allL k l gs else []
def holdE (k : List Tm) (l : List Bd) (gs : List Gd) : Int := if holdC k l gs = true then allE k l gs else 1
theorem atoms_of {k : List Tm} (hw : Tm.wfs k) (h : qbq k = true) : k.length ≤ 60 ∧ ∀ t ∈ k, t.wf ∧ mayT t = true := by
  simp only [qbq, Bool.and_eq_true, decide_eq_true_eq] at h
  refine ⟨h.1, fun t ht => ⟨Tm.wfs_mem hw ht, ?_⟩⟩
  obtain ⟨i, hi⟩ := List.getElem?_of_mem ht
  have := List.all_eq_true.1 h.2 i (List.mem_range.2 (List.getElem?_eq_some_iff.1 hi).1)
  simp only [qbi, hi, Bool.and_eq_true] at this
  exact this.1.1.1
end Go.Proofs.YtdecgkhdbfgldaaGreat

set_option linter.unusedVariables false
set_option linter.unusedSimpArgs false
set_option maxRecDepth 8000
namespace Go.Proofs.YtdecgkhdbfgldaaGreat
open Go
theorem bindOwnT_ok (l : List Bd) (hl : BOk l) : PF 102 [bdA l] (.dat true 5 (bdDs l)) := by
  have hlen := qak l
  have hll := hl.len
  refine qG Tryz.func102 rfl Tryz.ntmps102 (Nat.le_of_ble_eq_true rfl) fun c hL hQ hDD => (qd (qb (zN rfl rfl rfl (qc (qa (qd (qd ?_))))))); refine qb (zM rfl rfl rfl (zA rfl (qy rfl qp rfl) ?_))
  refine zM rfl rfl rfl (qc (qa (qB (qV (l.length) (fun k => k ≤ l.length) (fun k => ⟨[(2, .row 2), (5, bdA l), (6, iv (bdDs l).length), (7, iv (k : Int))], [(2, .rowd 40 5 true (bdDs (l.take k)))]⟩) (by omega) ?_ (fun k hk hp => ?_)))))
  · exact Sub.trans (qaL (t := 2) (l := 2) 40 5 true rfl rfl) (qI (SubT.cons (zT rfl) (SubT.cons (zT rfl) (SubT.cons (zT rfl) (SubT.cons (zT rfl) (SubT.nil))))) (SubO.cons (qag rfl (by rfl)) (SubO.nil)) rfl rfl (noL' (noL hL) _))
  have hl2 : (bdDs (l.take k)).length ≤ l.length := by rw [qak, List.length_take]; omega
  refine qd (qb (zA rfl (qn rfl rfl rfl rfl) (qc (qa (qd (qu rfl (fun c0 => ?_) (fun c0 => ?_)))))))
  · try simp only [↓cqA, cqB] at c0
    obtain ⟨u, hu⟩ := qK (l := l) (k := k) (by omega)
    have hum := hl.el u (List.mem_of_getElem? hu)
    have key := Own_ok 5 u.t (qa6 hum.2).1 hum.1.2
    rw [own_may 5 u.t 24 hum.2] at key
    refine qt (qa (qd (qB (qd (qb (zA rfl (qo rfl qp rfl rfl (by omega) (qaI hu)) (zA rfl (qD rfl qav rfl rfl) ?_)))))))
    refine qz rfl rfl (by decide) (qaf 4 rfl qaD rfl) rfl (qO rfl rfl rfl qav rfl rfl rfl rfl rfl rfl rfl rfl rfl (qc (qa (q8 8 qbd rfl rfl rfl rfl (qe rfl (by decide) (.run rfl (qk (.inl rfl) rfl)) (qe rfl (by decide) (.run rfl (qg rfl qai rfl)) (qe rfl (by decide) (.run rfl (qr rfl qT rfl rfl rfl rfl rfl)) ?_))))))); refine qe rfl (by decide) (.run rfl (qg rfl qan rfl)) ?_
    refine qe rfl (by decide) (.run rfl (qr rfl qi rfl rfl rfl rfl rfl)) (qe rfl (by decide) (.run rfl (qN (avs := [_]) true rfl en_term_Own rfl rfl (key) (fun _ => rfl) rfl)) (qe rfl (by decide) (.run rfl (qbx rfl qaD rfl qcU rfl rfl)) (MGo_c1 rfl (by decide) (.run rfl (qS 18 rfl qp qaD rfl rfl (by decide) (by decide) (by decide) rfl rfl rfl)) (qau ⟨rfl, rfl, ?_⟩))))
    refine qbt rfl rfl (by decide) (qaA 19 qaW rfl rfl rfl rfl rfl rfl rfl rfl (noL hL _) (by omega) rfl) rfl (zN rfl rfl rfl (qc (qP (qa (qb (zA rfl (qM rfl rfl rfl (by omega)) (zM rfl rfl rfl ?_))))))); refine qc (qa ?_); refine ⟨?_, ?_, ?_⟩
    · skip
      omega
    · skip
      omega
    exact Sub.trans (qaE 19 2 (noL hL _) (noL hL _)) (qI (SubT.cons (zT rfl) (SubT.cons (zT rfl) (SubT.cons (zT rfl) (SubT.cons (zT rfl) (SubT.nil))))) (SubO.cons (qag rfl (by rw [qah hu, bdDs, bdDs, List.map_append]; rfl)) (SubO.nil)) rfl rfl (noL' (noL hL) _))
  try simp only [↓cqA, cqB] at c0
  refine qQ (qq (qq (q7 ?_))); refine qa (qd (qbb (qam (l := 2) rfl (by decide) (noL hL _) rfl rfl) (qb (zM rfl rfl rfl (zN rfl rfl rfl (qc (qa ?_))))))); refine qm ?_
  -- leaf 0F
  refine ret0 (noL hL) (.inl rfl) (qf rfl (qh)) ?_ ?_
  · rfl
  exact ⟨by rw [List.take_of_length_le (by omega)]; rfl, rfl⟩
section
variable {P : Program} {c : Ctx} {N : Nat} {o : Oper} {σ : St}
theorem sub_rowd_row {T : List (Nat × AV)} {O : List (Nat × Ob)} {l k : Nat} {e : TypeId} {f : Bool} {es : List (List D)} (hl : ok O l = some (.rowd e k f es)) : Sub c N ⟨T, O⟩ ⟨T, (l, .row e k (lift f es.flatten)) :: O⟩ := by
  rintro a w ⟨ρ, S, hc⟩
  obtain ⟨hes, xs, how, h1, hr⟩ := hc.O l _ hl
  refine ⟨ρ, S, hc.modOb hl trivial Far.rfl' ⟨es.length, xs, how, h1, ?_⟩⟩
  exact hr.mono (fun _ _ h => h) (fun _ _ _ => rfl) (fun m hm => by
    simp only [St.U, qaF] at hm ⊢
    split
    · rfl
    · exact hm) (fun _ _ => rfl)
theorem stp_load_cell {x : Operand} {t e : TypeId} {l off : Nat} {cs : List AV} {v : AV} (ho : o.op = .load t x) (ht : tfB P t false 1 = true) (hx : ev σ.T x = some (.ptr l off)) (hl : ok σ.O l = some (.row e 1 cs)) (hv : cs[off]? = some v) : Stp P c N o σ [l] v [] := by
  have hlt := (List.getElem?_eq_some_iff.1 hv).1
  refine qr ho ht hx hl (Nat.ble_eq_true_of_le (by simp only [Ob.cells]; omega)) rfl ?_
  have : (cs.drop off).take 1 = [v] := by
    rw [List.drop_eq_getElem_cons hlt]
    have h2 := (List.getElem?_eq_some_iff.1 hv).2
    simp [h2]
  simp only [Ob.cells, this]; rfl
end
def mixC (X : List (List Bd)) (k : Nat) : List AV := (X.take k).map (fun y => AV.dat true 5 (bdDs y)) ++ (X.drop k).map (fun y => AV.dat false 5 (bdDs y))
theorem mix_zero (X : List (List Bd)) : lift false (qaM X).flatten = mixC X 0 := by
  simp only [mixC, List.take_zero, List.map_nil, List.nil_append, List.drop_zero, qaM]
  induction X with
  | nil => rfl
  | cons a X ih => simp only [List.map_cons, List.flatten_cons, List.singleton_append, lift] at ih ⊢; rw [ih]; rfl
theorem mix_len (X : List (List Bd)) (k : Nat) : (mixC X k).length = X.length := by simp [mixC]; omega
theorem mix_get {X : List (List Bd)} {k : Nat} {y : List Bd} (h : X[k]? = some y) : (mixC X k)[k]? = some (.dat false 5 (bdDs y)) := by
  have hk := (List.getElem?_eq_some_iff.1 h).1
  rw [mixC, List.getElem?_append_right (by simp only [List.length_map, List.length_take]; exact Nat.min_le_left _ _), List.getElem?_map, List.getElem?_drop]
  simp only [List.length_map, List.length_take]
  rw [show k + (k - min k X.length) = k by omega, h]; rfl
theorem mix_set {X : List (List Bd)} {k : Nat} {y : List Bd} (h : X[k]? = some y) : qal (mixC X k) k [.dat true 5 (bdDs y)] = mixC X (k + 1) := by
  have hk := (List.getElem?_eq_some_iff.1 h).1
  have e1 : (X.drop k) = y :: X.drop (k + 1) := drop_get h
  have hl : ((X.take k).map (fun y => AV.dat true 5 (bdDs y))).length = k := by simp; omega
  rw [mixC, e1, mixC, qah h]
  simp only [qal, List.map_append, List.map_cons, List.map_nil]
  rw [List.take_append_of_le_length (by omega), List.take_of_length_le (by omega)]
  rw [List.drop_append, List.drop_eq_nil_of_le (by rw [hl]; exact Nat.le_succ k), List.nil_append]
  simp only [hl, List.length_singleton, Nat.add_sub_cancel_left, List.drop_succ_cons, List.drop_zero]
theorem mix_all (X : List (List Bd)) {k : Nat} (h : X.length ≤ k) : mixC X k = X.map (fun y => AV.dat true 5 (bdDs y)) := by
  rw [mixC, List.take_of_length_le h, List.drop_eq_nil_of_le h]; simp
theorem mix_toDs : ∀ X : List (List Bd), toDs true (X.map (fun y => AV.dat true 5 (bdDs y))) = some (X.map fun y => D.sl 5 (bdDs y))
  | [] => rfl
  | a :: X => by
    simp only [List.map_cons, toDs]
    rw [mix_toDs X]; rfl
theorem mix_chunk : ∀ X : List (List Bd), chunk 1 X.length (X.map fun y => D.sl 5 (bdDs y)) = qaM X
  | [] => rfl
  | a :: X => by
    simp only [List.length_cons, List.map_cons, chunk, List.take_succ_cons, List.take_zero, List.drop_succ_cons, List.drop_zero]
    rw [mix_chunk X]; rfl
theorem mix_all1 (p : Nat → Bool) (f : Bool) : ∀ X : List (List Bd), AV.allLs p (X.map fun y => AV.dat f 5 (bdDs y)) = true
  | [] => rfl
  | a :: X => by simp only [List.map_cons, AV.allLs, AV.allL, mix_all1 p f X]; rfl
theorem allLs_append (p : Nat → Bool) : ∀ xs ys : List AV, AV.allLs p xs = true → AV.allLs p ys = true → AV.allLs p (xs ++ ys) = true
  | [], ys, _, h => h
  | x :: xs, ys, h1, h2 => by
    simp only [AV.allLs, Bool.and_eq_true, List.cons_append] at h1 ⊢
    exact ⟨h1.1, allLs_append p xs ys h1.2 h2⟩
theorem mix_hO (e : TypeId) (X : List (List Bd)) (i : Nat) : allO (inD [(8, Ob.row e 1 (mixC X i))]) [(8, Ob.row e 1 (mixC X i))] = true := by
  simp only [allO, Ob.allL, mixC]
  rw [allLs_append _ _ _ (mix_all1 _ _ _) (mix_all1 _ _ _)]; rfl
theorem HoldsT_ok (k : List Tm) (hkl : qbD k) (hk : Tm.wfs k) (l : List Bd) (hw : ∀ b ∈ l, b.wf) (gs : List Gd) (hgl : qbD gs) (hg : ∀ g ∈ gs, g.wf) :
    PF 39 [.dat false 4 (tmDs k), bdA l, .dat false 9 (gdDs gs)] (.tup [.dat true 1 (qaM (holdL k l gs)), iv (holdE k l gs)]) := by
  refine AC_leP (Post := fun r O => (holdC k l gs = false ∧ r = .tup [.imm (.slice none 0 0), iv 1] ∨ r = .tup [.dat true 1 (qaM (holdL k l gs)), iv (holdE k l gs)]) ∧ O = []) ?_ (fun r O' h => by
    obtain ⟨⟨h1, rfl⟩ | rfl, rfl⟩ := h
    · exact ⟨_, .tup (.cons (.nil (f := true) (k := 1)) (.cons .refl .nil)), by rw [holdL, holdE, if_neg (by simp [h1]), if_neg (by simp [h1])]; rfl, rfl⟩
    · exact ⟨_, .refl, rfl, rfl⟩)
  refine qG Tryz.func39 rfl Tryz.ntmps39 (Nat.le_of_ble_eq_true rfl) fun c hL hQ hDD => (qd (qb (zN rfl rfl rfl (zN rfl rfl rfl (qc (qa (qd ?_))))))); refine qd (qb ?_)
  refine zM rfl rfl rfl (qC (avs := [_]) true rfl rfl rfl (by decide) en_known_Atoms rfl rfl (knownAtoms_ok k hkl hk) rfl rfl (zA rfl (qU rfl rfl) (zM rfl rfl rfl (qA 14 rfl (fun g14 => ?_) (fun g14 => ?_)))))
  · try simp only [↓cqA, cqB] at g14
    refine zS rfl rfl rfl rfl (zS rfl rfl rfl rfl (zS rfl rfl rfl rfl (zA rfl (qj rfl rfl rfl) (zM rfl rfl rfl (zS rfl rfl rfl rfl ?_)))))
    refine zS rfl rfl rfl rfl (zS rfl rfl rfl rfl (zA rfl (qj rfl rfl rfl) (zM rfl rfl rfl (zS rfl rfl rfl rfl (zS rfl rfl rfl rfl ?_)))))
    refine zS rfl rfl rfl rfl (zA rfl (qj rfl rfl rfl) (qc (qa (qaj rfl (qd (qb (zN rfl rfl rfl ?_))))))); refine zN rfl rfl rfl (qc (qa (qm (ql (?_)))))
    -- leaf g14T
    refine ret0 (noL hL) (.inl rfl) (qf rfl (qf rfl (qh))) ?_ ?_
    · rfl
    first
    | exact ⟨.inr (by rw [← hX, ← hE]; rfl), rfl⟩
    | exact ⟨.inl ⟨by simp_all [holdC], rfl⟩, rfl⟩
  try simp only [↓cqA, cqB] at g14
  refine zG rfl rfl rfl rfl (qk (.inl rfl) rfl) (zG rfl rfl rfl rfl (qN (avs := [_]) true rfl en_bind_May rfl rfl (bindMay_ok l hw) (fun _ => rfl) rfl) (zG rfl rfl rfl rfl (qU rfl rfl) (zA rfl (qj rfl rfl rfl) (zM rfl rfl rfl (qA 19 rfl (fun g19 => ?_) (fun g19 => ?_))))))
  · try simp only [↓cqA, cqB] at g19
    refine zS rfl rfl rfl rfl (zS rfl rfl rfl rfl (zS rfl rfl rfl rfl (zA rfl (qj rfl rfl rfl) (zM rfl rfl rfl (zS rfl rfl rfl rfl ?_)))))
    refine zS rfl rfl rfl rfl (zS rfl rfl rfl rfl (zA rfl (qj rfl rfl rfl) (qc (qa (qaj rfl (qd (qb ?_))))))); refine zN rfl rfl rfl (zN rfl rfl rfl (qc (qa (qm (ql (?_))))))
    -- leaf g14Fg19T
    refine ret0 (noL hL) (.inl rfl) (qf rfl (qf rfl (qh))) ?_ ?_
    · rfl
    first
    | exact ⟨.inr (by rw [← hX, ← hE]; rfl), rfl⟩
    | exact ⟨.inl ⟨by simp_all [holdC], rfl⟩, rfl⟩
  try simp only [↓cqA, cqB] at g19
  refine zG rfl rfl rfl rfl (qk (.inl rfl) rfl) (zG rfl rfl rfl rfl (qN (avs := [_]) true rfl en_bind_Ground rfl rfl (bindGround_ok l (mayB_bok (by assumption) hw)) (fun _ => rfl) rfl) (zG rfl rfl rfl rfl (qU rfl rfl) (zA rfl (qj rfl rfl rfl) (zM rfl rfl rfl (qA 24 rfl (fun g24 => ?_) (fun g24 => ?_))))))
  · try simp only [↓cqA, cqB] at g24
    refine zS rfl rfl rfl rfl (zS rfl rfl rfl rfl (zS rfl rfl rfl rfl (zA rfl (qj rfl rfl rfl) (qc (qa (qaj rfl (qd ?_))))))); refine qb (zN rfl rfl rfl (zN rfl rfl rfl (qc (qa (qm (ql (?_)))))))
    -- leaf g14Fg19Fg24T
    refine ret0 (noL hL) (.inl rfl) (qf rfl (qf rfl (qh))) ?_ ?_
    · rfl
    first
    | exact ⟨.inr (by rw [← hX, ← hE]; rfl), rfl⟩
    | exact ⟨.inl ⟨by simp_all [holdC], rfl⟩, rfl⟩
  try simp only [↓cqA, cqB] at g24
  refine zG rfl rfl rfl rfl (qk (.inl rfl) rfl) (zG rfl rfl rfl rfl (qN (avs := [_]) true rfl en_show_Guards rfl rfl (showGuards_ok gs hgl hg) (fun _ => rfl) rfl) (zG rfl rfl rfl rfl (qU rfl rfl) (zA rfl (qj rfl rfl rfl) (qc (qa (qu rfl (fun c0 => ?_) (fun c0 => ?_)))))))
  · try simp only [↓cqA, cqB] at c0
    refine qd (qb (zN rfl rfl rfl (zN rfl rfl rfl (qc (qa (qm (ql (?_))))))))
    -- leaf g14Fg19Fg24F0T
    refine ret0 (noL hL) (.inl rfl) (qf rfl (qf rfl (qh))) ?_ ?_
    · rfl
    first
    | exact ⟨.inr (by rw [← hX, ← hE]; rfl), rfl⟩
    | exact ⟨.inl ⟨by simp_all [holdC], rfl⟩, rfl⟩
  try simp only [↓cqA, cqB] at c0
  have hhc : holdC k l gs = true := by simp_all [holdC]
  have hh := hhc
  simp only [holdC, Bool.and_eq_true] at hh
  obtain ⟨hk1, hk2⟩ := atoms_of hk hh.1.1.1
  have hok := mayB_bok hh.1.1.2 hw
  have hl16 := mayB_len hh.1.1.2
  have hg2 := hh.2
  simp only [okGs, Bool.and_eq_true, decide_eq_true_eq, List.all_eq_true] at hg2
  have hX : allL k l gs = holdL k l gs := by rw [holdL, if_pos hhc]
  have hE : allE k l gs = holdE k l gs := by rw [holdE, if_pos hhc]
  have hXa : ∀ y ∈ allL k l gs, BOk y := fun y hy => by
    unfold allL at hy
    split at hy
    · exact (allX_all hk2 hok hl16 gs [l] hg (fun y hy => by rw [List.mem_singleton.1 hy]; exact ⟨hok, hl16⟩) y hy).1
    · cases hy
  have hXd := qaJ (allL k l gs)
  have hXm := allL_len k l gs
  generalize hEe : allE k l gs = E at *
  generalize hXe : allL k l gs = X at *
  refine qt ?_; refine qa ?_; refine qd ?_; refine qb ?_; refine zM rfl rfl rfl ?_; refine zM rfl rfl rfl ?_; refine zM rfl rfl rfl ?_; refine qaN (avs := [_, _, _]) false rfl rfl rfl (by decide) en_guard_All rfl rfl (All_ok k hk1 hk2 l hok hl16 gs (fun g hgm => ⟨hg g hgm, hg2.2 g hgm⟩) hg2.1) (rfl) (passO .nil) (by rintro r O' ⟨_, rfl⟩; exact frB rfl) (by rintro h; cases h) ?_
  rintro r O' ⟨rfl, rfl⟩
  rw [hXe, hEe]
  refine zM rfl rfl rfl (zA rfl (qY rfl rfl rfl) (zA rfl (qY rfl rfl rfl) (zN rfl rfl rfl (zN rfl rfl rfl (qc (qa (qd ?_))))))); refine qd (qb (zM rfl rfl rfl (zA rfl (qbI rfl qH rfl rfl) ?_)))
  refine zM rfl rfl rfl (qc (qa (qB (qV (X.length) (fun i => i ≤ X.length) (fun i => ⟨[(8, .row 8), (9, iv E), (37, iv (qaM X).length), (38, iv (i : Int))], [(8, .row 28 1 (mixC X i))]⟩) (by omega) ?_ (fun i hi hpi => ?_)))))
  · exact Sub.trans (sub_rowd_row (l := 8) rfl) (qI (SubT.cons (zT rfl) (SubT.cons (zT rfl) (SubT.cons (zT rfl) (SubT.cons (zT rfl) (SubT.nil))))) (SubO.cons (qag rfl (by rw [mix_zero])) (SubO.nil)) rfl (mix_hO _ _ _) (noL' (noL hL) _))
  refine qd (qb (zA rfl (qn rfl rfl rfl rfl) (qc (qa (qd (qu rfl (fun c1 => ?_) (fun c1 => ?_)))))))
  · try simp only [↓cqA, cqB] at c1
    obtain ⟨y, hy⟩ := qK (l := X) (k := i) (by omega)
    have hyb := hXa y (List.mem_of_getElem? hy)
    refine qt (qa (qd (qB (qd (qb (zM rfl rfl rfl (zN rfl rfl rfl ?_))))))); refine qc (qa (qb (zM rfl rfl rfl ?_)))
    refine zM rfl rfl rfl ?_; refine zM rfl rfl rfl ?_; refine zM rfl rfl rfl ?_; refine zA rfl (stp_indexAddr_row rfl qH rfl rfl rfl (by omega) (by rw [mix_len]; omega) (by decide)) ?_
    refine zA rfl (stp_load_cell rfl qap rfl rfl (by simpa using mix_get hy)) ?_; refine qC (avs := [_]) true rfl rfl rfl (by decide) en_bind_Own rfl rfl (bindOwnT_ok y hyb) rfl rfl ?_; refine zA rfl (stp_indexAddr_row rfl qH rfl rfl rfl (by omega) (by rw [mix_len]; omega) (by decide)) ?_
    refine qO rfl rfl rfl qap rfl rfl rfl rfl rfl (Nat.ble_eq_true_of_le (by simp only [Ob.cells, mix_len]; omega)) rfl rfl rfl ?_; refine qc ?_; refine qP ?_; refine qa ?_; refine qb ?_; refine zA rfl (qM rfl rfl rfl (by omega)) ?_; refine zM rfl rfl rfl ?_; refine qc ?_; refine qa ?_; refine ⟨?_, ?_, ?_⟩
    · skip
      omega
    · skip
      omega
    exact qI (SubT.cons (zT rfl) (SubT.cons (zT rfl) (SubT.cons (zT rfl) (SubT.cons (zT rfl) (SubT.nil))))) (SubO.cons (qag rfl (by exact congrArg (Ob.row _ 1) (by simpa [Ob.cells] using mix_set hy))) (SubO.nil)) rfl (mix_hO _ _ _) (noL' (noL hL) _)
  try simp only [↓cqA, cqB] at c1
  refine qQ (qq (qq (q7 ?_))); refine qa (qd ?_)
  have hXi : mixC X i = X.map (fun y => AV.dat true 5 (bdDs y)) := mix_all X (by omega)
  rw [hXi]
  refine qbb (sub_rowd (l := 8) true X.length rfl (mix_toDs X) rfl (by simp)) ?_
  rw [mix_chunk]
  refine qbb (qam (l := 8) rfl (by decide) (noL hL _) rfl rfl) (qb (zM rfl rfl rfl (zM rfl rfl rfl (zN rfl rfl rfl (zN rfl rfl rfl (qc (qa ?_))))))); refine qm ?_
  -- leaf g14Fg19Fg24F0F1F
  refine ret0 (noL hL) (.inl rfl) (qf rfl (qf rfl (qh))) ?_ ?_
  · rfl
  first
  | exact ⟨.inr (by rw [← hX, ← hE]; rfl), rfl⟩
  | exact ⟨.inl ⟨by simp_all [holdC], rfl⟩, rfl⟩
end Go.Proofs.YtdecgkhdbfgldaaGreat

set_option linter.unusedVariables false
set_option linter.unusedSimpArgs false
set_option maxRecDepth 8000
namespace Go.Proofs.YtdecgkhdbfgldaaGreat
open Go
theorem guardE_one {kind : Int} {a b : Tm} (h : ¬ (1 ≤ kind ∧ kind ≤ 4) ∨ mayT a = false ∨ mayT b = false ∨ qbh a = false ∨ qbh b = false) : qcM kind a b = 1 ∧ guardC kind a b = false := by
  have e : qcM kind a b = 1 := by
    rw [qcM, if_pos]
    rcases h with h | h
    · by_cases h1 : kind < 1
      · exact .inl h1
      · exact .inr (.inl (by omega))
    · exact .inr (.inr h)
  exact ⟨e, by rw [guardC, e]; rfl⟩
end Go.Proofs.YtdecgkhdbfgldaaGreat

set_option linter.unusedVariables false
set_option linter.unusedSimpArgs false
namespace Go.Proofs.YtdecgkhdbfgldaaGreat
open Go
def bnd (y : List Bd) (t : Tm) : Prop := ∀ v, t.occ v → hasB y v = true
def Ext (l y : List Bd) : Prop := ∀ v, hasB l v = true → hasB y v = true ∧ gB y v = gB l v
theorem Ext.refl (l : List Bd) : Ext l l := fun v h => ⟨h, rfl⟩
theorem Ext.put {l y : List Bd} (he : Ext l y) {t : Tm} (hb : bnd l t) (hd : dle 5 t) : putT y t = putT l t := by
  rw [qcT hd, qcT hd]; exact sub_congr t fun v hv => (he v (hb v hv)).2
theorem Ext.bnd {l y : List Bd} (he : Ext l y) {t : Tm} (hb : bnd l t) : bnd y t := fun v hv => (he v (hb v hv)).1
theorem bnd_of {l : List Bd} (hr : RisB l) {t : Tm} (hm : mayT t = true) (hg : Gr (putT l t)) : bnd l t := fun v hv => by
  cases hc : hasB l v with
  | true => rfl
  | false =>
    exfalso
    refine hg v ?_
    rw [qcT (qao hm), occ_sub _ _ _ (qby hm)]
    exact ⟨v, hv, by rw [gB_none hr hc, varT_occ]⟩
def Sat (k : List Tm) (y : List Bd) (g : Gd) : Prop := bnd y g.l ∧ (g.kind = 5 → putT y g.l ∈ k) ∧ (g.kind ≠ 5 → g.kind ≠ 6 → bnd y g.r) ∧ (g.kind ≠ 5 → behL k y g = [y])
theorem okG_l {g : Gd} (h : okG g = true) : mayT g.l = true ∧ (g.kind ≠ 5 → g.kind ≠ 6 → mayT g.r = true) := by
  simp only [okG, cmpsB, Bool.or_eq_true, Bool.and_eq_true, decide_eq_true_eq] at h
  rcases h with h | h
  · exact ⟨h.1.2, fun _ _ => h.2⟩
  · exact ⟨h.1.2.1, fun h5 h6 => by rcases h.1.1 with e | e <;> contradiction⟩
theorem Sat.ext {k : List Tm} {l y : List Bd} {g : Gd} (hg : okG g = true) (hs : Sat k l g) (he : Ext l y) : Sat k y g := by
  obtain ⟨h1, h2, h3, h4⟩ := hs
  obtain ⟨m1, m2⟩ := okG_l hg
  have e1 := he.put h1 (qao m1)
  refine ⟨he.bnd h1, fun h5 => by rw [e1]; exact h2 h5, fun h5 h6 => he.bnd (h3 h5 h6), fun h5 => ?_⟩
  have hb := h4 h5
  unfold behL at hb ⊢
  rw [if_neg h5] at hb ⊢
  by_cases h6 : g.kind = 6
  · rw [if_pos h6] at hb ⊢
    rw [e1]
    split at hb
    · rename_i hc; rw [if_pos hc]
    · cases hb
  · rw [if_neg h6] at hb ⊢
    have e2 := he.put (h3 h5 h6) (qao (m2 h5 h6))
    have e3 : cmpdB y g = cmpdB l g := by rw [cmpdB, cmpdB, e1, e2]
    rw [e3]
    split at hb
    · rename_i hc; rw [if_pos hc]
    · cases hb
mutual
theorem fitR_self : ∀ (d : Nat) (l : List Bd) (t : Tm), dle d t → Gr t → fitR d l t t = (l, 0)
  | 0, l, t, h, _ => h.elim
  | d + 1, l, t, h, hg => by
    have hk : ¬ t.kind = 1 := fun hk => hg t.name ((Tm.occ_iff _ _).2 (.inl ⟨hk, rfl⟩))
    rw [fitR, if_neg hk, if_pos (by simp [qcV])]
    exact fitL_self d l t.args (fun u hu => h u hu) (fun u hu => hg.arg hu)
theorem fitL_self : ∀ (d : Nat) (l : List Bd) (x : List Tm), (∀ u ∈ x, dle d u) → (∀ u ∈ x, Gr u) → fitL d l (x.zip x) = (l, 0)
  | d, l, [], _, _ => by rw [List.zip_nil_left, fitL]
  | d, l, u :: x, h, hg => by
    have e := fitR_self d l u (h u (by simp)) (hg u (by simp))
    rw [List.zip_cons_cons, fitL, e]
    exact fitL_self d l x (fun v hv => h v (by simp [hv])) (fun v hv => hg v (by simp [hv]))
end
def KG (k : List Tm) : Prop := ∀ t ∈ k, t.wf ∧ mayT t = true ∧ Gr t ∧ qda t = true
theorem KG_of {k : List Tm} (hw : Tm.wfs k) (h : qbq k = true) : KG k := fun t ht => by
  simp only [qbq, Bool.and_eq_true, decide_eq_true_eq] at h
  obtain ⟨i, hi⟩ := List.getElem?_of_mem ht
  have := List.all_eq_true.1 h.2 i (List.mem_range.2 (List.getElem?_eq_some_iff.1 hi).1)
  simp only [qbi, hi, Bool.and_eq_true] at this
  exact ⟨Tm.wfs_mem hw ht, this.1.1.1, (groundB_iff (qao this.1.1.1)).1 this.1.2, this.1.1.2⟩
theorem guardC_gr {kind : Int} {a b : Tm} (h : guardC kind a b = true) : qbh a = true ∧ qbh b = true := by
  constructor
  · cases hc : qbh a with
    | true => rfl
    | false => have := (guardE_one (kind := kind) (a := a) (b := b) (.inr (.inr (.inr (.inl hc))))).2; rw [h] at this; cases this
  · cases hc : qbh b with
    | true => rfl
    | false => have := (guardE_one (kind := kind) (a := a) (b := b) (.inr (.inr (.inr (.inr hc))))).2; rw [h] at this; cases this
theorem behL_sat {k : List Tm} (hk : KG k) {l : List Bd} (hl : GG l) {g : Gd} (hg : g.wf) (ho : okG g = true) {y : List Bd} (hy : y ∈ behL k l g) : GG y ∧ Ext l y ∧ Sat k y g := by
  obtain ⟨m1, m2⟩ := okG_l ho
  have hy0 := hy
  unfold behL at hy
  by_cases h5 : g.kind = 5
  · rw [if_pos h5] at hy
    split at hy
    · rename_i hc
      simp only [Bool.and_eq_true] at hc
      obtain ⟨m, hm, rfl⟩ := List.mem_map.1 hy
      obtain ⟨hm1, hm2⟩ := List.mem_filter.1 hm
      obtain ⟨u, hu, rfl⟩ := List.mem_map.1 hm1
      obtain ⟨hu1, hu2⟩ := List.mem_filter.1 hu
      obtain ⟨uw, um, ug, _⟩ := hk u hu1
      have tw := qcq hl.gb.bok hg.2.1
      obtain ⟨f1, f2⟩ := fit_spec 5 [] (putT l g.l) u GG_nil (qby hc.1) tw um uw ug (of_decide_eq_true hu2)
      generalize hM : (fitR 5 [] (putT l g.l) u).1 = M at *
      have hb0 : qcc l M = 0 := of_decide_eq_true hm2
      have hmo := f1.gg.gb.bok
      obtain ⟨p1, p2⟩ := bothX_spec M l ⟨hl.gb.ris, hl.gb.bok.el⟩ hmo.ris hmo.el
      have hbo : qcZ l M = true := by
        rw [qcc] at hb0
        split at hb0
        · assumption
        · cases hb0
      have hbl : (qbV l M).length ≤ 16 := by
        rw [qcc, if_pos hbo] at hb0
        split at hb0
        · assumption
        · cases hb0
      have hL : qcf l M = qbV l M := by rw [qcf, if_pos ⟨hbo, hbl⟩]
      obtain ⟨q1, q2⟩ := p2 hbo
      rw [hL]
      have gy : GG (qbV l M) := by
        have gr : ∀ b ∈ qbV l M, Gr b.t := fun b hb => by
          rcases (q2 b).1 hb with h | h
          · exact hl.gr b h
          · exact f1.gg.gr b h
        exact ⟨⟨hbl, q1.ris, fun b hb => by
          rcases (q2 b).1 hb with h | h
          · exact hl.gb.el b h
          · exact f1.gg.gb.el b h, fun b hb v hv => absurd hv (gr b hb v)⟩, gr⟩
      have e1 : Ext l (qbV l M) := fun v hv => by
        obtain ⟨b, hb, rfl⟩ := (qb7 l v).1 hv
        have hby := (q2 b).2 (.inl hb)
        exact ⟨(qb7 _ _).2 ⟨b, hby, rfl⟩, by rw [gB_mem q1.ris hby, gB_mem hl.gb.ris hb]⟩
      have e2 : Ext M (qbV l M) := fun v hv => by
        obtain ⟨b, hb, rfl⟩ := (qb7 M v).1 hv
        have hby := (q2 b).2 (.inr hb)
        exact ⟨(qb7 _ _).2 ⟨b, hby, rfl⟩, by rw [gB_mem q1.ris hby, gB_mem hmo.ris hb]⟩
      have hv2 : ∀ v, g.l.occ v → hasB l v = false → hasB M v = true := fun v hv hc2 => by
        refine (f1.dom v).2 (.inr ?_)
        rw [qcT (qao m1), occ_sub _ _ _ (qby m1)]
        exact ⟨v, hv, by rw [gB_none hl.gb.ris hc2, varT_occ]⟩
      refine ⟨gy, e1, fun v hv => ?_, fun _ => ?_, fun h _ => absurd h5 h, fun h => absurd h5 h⟩
      · cases hc2 : hasB l v with
        | true => exact (e1 v hc2).1
        | false => exact (e2 v (hv2 v hv hc2)).1
      · have e3 : putT (qbV l M) g.l = u := by
          rw [← f2, qcT (qao m1), qcT (qao m1), sub_sub]
          refine sub_congr g.l fun v hv => ?_
          cases hc2 : hasB l v with
          | true =>
            have hgt := hl.get hc2
            rw [hgt.1.sub (qby hgt.2)]
            exact (e1 v hc2).2
          | false =>
            rw [gB_none hl.gb.ris hc2, varT_sub]
            exact (e2 v (hv2 v hv hc2)).2
        rw [e3]; exact hu1
    · cases hy
  · rw [if_neg h5] at hy
    by_cases h6 : g.kind = 6
    · rw [if_pos h6] at hy
      split at hy
      · rename_i hc
        have e := List.mem_singleton.1 hy
        subst e
        simp only [Bool.and_eq_true] at hc
        have hgr := (groundB_iff (qao hc.1.1)).1 hc.1.2
        refine ⟨hl, Ext.refl _, bnd_of hl.gb.ris m1 hgr, fun h => absurd h h5, fun _ h => absurd h6 h, fun _ => ?_⟩
        rw [behL, if_neg h5, if_pos h6, if_pos (by simp only [Bool.and_eq_true]; exact hc)]
      · cases hy
    · rw [if_neg h6] at hy
      split at hy
      · rename_i hc
        have e := List.mem_singleton.1 hy
        subst e
        have hc2 := hc
        simp only [cmpdB, Bool.and_eq_true] at hc2
        obtain ⟨g1, g2⟩ := guardC_gr hc2.2
        refine ⟨hl, Ext.refl _, bnd_of hl.gb.ris m1 ((groundB_iff (qao hc2.1.1)).1 g1), fun h => absurd h h5, fun _ _ => bnd_of hl.gb.ris (m2 h5 h6) ((groundB_iff (qao hc2.1.2)).1 g2), fun _ => ?_⟩
        rw [behL, if_neg h5, if_neg h6, if_pos hc]
      · cases hy
theorem all_sat {k : List Tm} (hk : KG k) : ∀ (gs : List Gd) (D : List Gd) (X : List (List Bd)), (∀ g ∈ gs, g.wf ∧ okG g = true) → (∀ g ∈ D, okG g = true) → (∀ x ∈ X, GG x ∧ ∀ g ∈ D, Sat k x g) → ∀ y ∈ gs.foldl (allStep k) X, GG y ∧ ∀ g ∈ D ++ gs, Sat k y g
  | [], D, X, _, _, h => fun y hy => by rw [List.append_nil]; exact h y hy
  | g :: gs, D, X, hg, hD, h => fun y hy => by
    have := all_sat hk gs (D ++ [g]) (allStep k X g) (fun g' hg' => hg g' (by simp [hg'])) (fun g' hg' => by
      rcases List.mem_append.1 hg' with h1 | h1
      · exact hD g' h1
      · rw [List.mem_singleton.1 h1]; exact (hg g (by simp)).2) (fun x hx => by
      rcases onceL_mem _ _ x hx with hx | hx
      · cases hx
      · obtain ⟨b, hb, hx⟩ := List.mem_flatMap.1 hx
        obtain ⟨gb, sb⟩ := h b hb
        obtain ⟨gx, ex, sx⟩ := behL_sat hk gb (hg g (by simp)).1 (hg g (by simp)).2 hx
        refine ⟨gx, fun g' hg' => ?_⟩
        rcases List.mem_append.1 hg' with h1 | h1
        · exact (sb g' h1).ext (hD g' h1) ex
        · rw [List.mem_singleton.1 h1]; exact sx) y hy
    rwa [List.append_assoc] at this
theorem groundL_iff {l : List Bd} (hm : ∀ b ∈ l, mayT b.t = true) : groundL l = true ↔ ∀ b ∈ l, Gr b.t := by
  have hd : ∀ t ∈ l.map Bd.t, dle 5 t := fun t ht => by
    obtain ⟨b, hb, rfl⟩ := List.mem_map.1 ht; exact qao (hm b hb)
  rw [groundL, List.isEmpty_iff, List.eq_nil_iff_forall_not_mem]
  constructor
  · intro h b hb y hy; exact h y ((noteL5 hd y).2 ⟨b.t, List.mem_map.2 ⟨b, hb, rfl⟩, hy⟩)
  · intro h y hy
    obtain ⟨t, ht, ho⟩ := (noteL5 hd y).1 hy
    obtain ⟨b, hb, rfl⟩ := List.mem_map.1 ht
    exact h b hb y ho
end Go.Proofs.YtdecgkhdbfgldaaGreat

set_option linter.unusedVariables false
set_option linter.unusedSimpArgs false
set_option maxRecDepth 8000
namespace Go.Proofs.YtdecgkhdbfgldaaGreat
open Go
abbrev sa : ByteArray := ⟨#[97]⟩
def f0 : Ft := ⟨nmT sa [], 1, 2⟩
def l0 : List Kp := [⟨7, f0⟩]
end Go.Proofs.YtdecgkhdbfgldaaGreat

set_option linter.unusedVariables false
set_option linter.unusedSimpArgs false
namespace Go.Proofs.YtdecgkhdbfgldaaGreat
open Go
theorem ordL_cmpL (f g : Tm → Tm → Int) : ∀ (l m : List Tm) (n : Int), l.length = m.length → (∀ u ∈ l, ∀ v ∈ m, f u v = g u v) → ordL g n l m = if n = 0 then cmpL f l m else n
  | [], [], n, _, _ => by
    simp only [ordL, cmpL]; split
    · rename_i h; exact h
    · rfl
  | a :: l, b :: m, n, hl, h => by
    have ih := ordL_cmpL f g l m (g a b) (by simpa using hl) (fun u hu v hv => h u (by simp [hu]) v (by simp [hv]))
    have h0 := h a (by simp) b (by simp)
    simp only [ordL, cmpL]
    split
    · rw [ih, h0]
    · rfl
  | [], _ :: _, _, hl, _ => by simp at hl
  | _ :: _, [], _, hl, _ => by simp at hl
theorem cmpI_self (a : Int) : cmpI a a = 0 := (qcP a a).2 rfl
theorem cmpS_self (a : ByteArray) : cmpS a a = 0 := (cmpS_zero a a).2 rfl
theorem cmp_ord : ∀ (d : Nat) (a b : Tm), dle d a → a.shp → b.shp → cmpT d a b = ordT d a b
  | 0, a, b, h, _, _ => h.elim
  | d + 1, a, b, h, sa, sb => by
    have ta := ((Tm.shp_iff a).1 sa).1
    have tb := ((Tm.shp_iff b).1 sb).1
    by_cases hk : a.kind = b.kind
    case neg =>
      have h1 : cmpI a.kind b.kind ≠ 0 := fun e => hk ((qcP _ _).1 e)
      rw [ordT, if_pos hk, cmpT]
      simp [orL, h1]
    have hk' : ¬ a.kind ≠ b.kind := by simpa using hk
    have h1 : cmpI a.kind b.kind = 0 := (qcP _ _).2 hk
    rcases ta with ⟨k1, _, n1, l1⟩ | ⟨k1, _, n1, l1⟩ | ⟨k1, _, n1, l1⟩
    · rw [ordT, if_neg hk', if_pos k1, cmpT]
      have k2 : b.kind = 1 := by omega
      rcases tb with ⟨_, _, n2, l2⟩ | ⟨e, _⟩ | ⟨e, _⟩
      · rw [n1, n2, l1, l2, h1]
        simp only [orL, cmpI_self, List.length_nil, cmpL]
        by_cases hz : cmpS a.name b.name = 0 <;> simp [hz]
      · omega
      · omega
    · rw [ordT, if_neg hk', if_neg (show ¬ a.kind = 1 by omega), if_pos k1, cmpT]
      rcases tb with ⟨e, _⟩ | ⟨_, _, n2, l2⟩ | ⟨e, _⟩
      · omega
      · have e1 : a.name = b.name := by
          have x1 : a.name = ⟨#[]⟩ := ByteArray.ext (Array.eq_empty_of_size_eq_zero n1)
          have x2 : b.name = ⟨#[]⟩ := ByteArray.ext (Array.eq_empty_of_size_eq_zero n2)
          rw [x1, x2]
        rw [l1, l2, h1, e1]
        simp only [orL, cmpI_self, cmpS_self, List.length_nil, cmpL]
        by_cases hz : cmpI a.n b.n = 0 <;> simp [hz]
      · omega
    · rw [ordT, if_neg hk', if_neg (show ¬ a.kind = 1 by omega), if_neg (show ¬ a.kind = 2 by omega), cmpT]
      rcases tb with ⟨e, _⟩ | ⟨e, _⟩ | ⟨_, _, n2, l2⟩
      · omega
      · omega
      · have ih : ∀ u ∈ a.args, ∀ v ∈ b.args, cmpT d u v = ordT d u v := fun u hu v hv => cmp_ord d u v (h u hu) (sa.arg hu) (sb.arg hv)
        rw [n1, n2, h1]
        by_cases hl : cmpI a.args.length b.args.length = 0
        · have hlen : a.args.length = b.args.length := by have := (qcP _ _).1 hl; omega
          rw [if_pos hl, ordL_cmpL (cmpT d) (ordT d) a.args b.args _ hlen ih]
          by_cases hn : cmpS a.name b.name = 0
          · simp [orL, cmpI_self, hl, hn]
          · simp [orL, cmpI_self, hl, hn]
        · rw [if_neg hl]
          have : ordL (ordT d) (cmpI a.args.length b.args.length) a.args b.args = cmpI a.args.length b.args.length := by
            cases ha : a.args <;> cases hb : b.args <;> simp only [ordL]
            rw [ha, hb] at hl
            rw [if_neg hl]
          rw [this]
          simp [orL, cmpI_self, hl]
end Go.Proofs.YtdecgkhdbfgldaaGreat
