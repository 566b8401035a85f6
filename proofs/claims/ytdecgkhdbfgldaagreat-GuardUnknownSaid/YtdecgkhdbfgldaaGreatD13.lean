/- Part 13 of the proof: Hc, He, Hg, Hi. -/
import Derived.Test.YtdecgkhdbfgldaaGreatD12
set_option linter.unusedVariables false
set_option linter.unusedSimpArgs false
set_option maxRecDepth 8000
namespace Go.Proofs.YtdecgkhdbfgldaaGreat
open Go
theorem CopyTermR_ok (d : Nat) (t : Tm) (h : dle d t) (ht : t.wf) : AC Tryz.prog 95 [tmA false t] [] (fun r O => r = .agg [iv t.kind, sv t.name, iv t.n, .row 77] ∧ O = [(77, .rowd 35 4 true (tmDs t.args))]) := by
  cases d with
  | zero => exact h.elim
  | succ d =>
    have key := AC_rnE 3 77 (CopyTerms_of t.args ht.2.2.2.1 (fun u hu => CopyTerm_ok d u (h u hu) (Tm.wfs_mem ht.2.2.2.2 hu)))
    refine qG Tryz.func95 rfl Tryz.ntmps95 (Nat.le_of_ble_eq_true rfl) fun c hL hQ hDD => (qd (qb (qz rfl rfl (by decide) (qab 1 rfl rfl rfl) rfl (qz rfl rfl (by decide) (qaf 2 rfl q6 rfl) rfl (qc (qa (qd ?_))))))); refine qb (zA rfl (qw rfl qi rfl rfl rfl rfl) ?_)
    refine qz rfl rfl (by decide) (qaf 3 rfl q6 rfl) rfl (qO rfl rfl rfl qi rfl rfl rfl rfl rfl rfl rfl rfl rfl (qc (qa (qd (qb (zA rfl (qg rfl qJ rfl) (zA rfl (qr rfl qF rfl rfl rfl rfl rfl) ?_))))))); refine qbt rfl rfl (by decide) (qbC (avs := [_]) true rfl qcO rfl rfl (key) (fun _ => rfl) rfl) rfl ?_
    refine zA rfl (qg rfl qJ rfl) (qO rfl rfl rfl qF rfl rfl rfl rfl rfl rfl rfl rfl rfl (qc (qa (qd (qb (zA rfl (qw rfl qi rfl rfl rfl rfl) (qO rfl rfl rfl qi rfl rfl rfl rfl rfl rfl rfl rfl rfl ?_))))))); refine qc (qa (qm ?_))
    -- leaf 
    change retQ _ _ _ _ _ _ _
    refine retO (O' := [(77, _)]) (.inl rfl) (qaU qi rfl rfl rfl qh) (SubO.cons rfl SubO.nil) ?_ ?_ (noL' (noL hL) _) ?_
    · rfl
    · rfl
    exact ⟨rfl, rfl⟩
theorem prog_set {α : Type} (g : α → α) {l : List α} {k : Nat} {u : α} (hu : l[k]? = some u) : ((l.take k).map g ++ l.drop k).set k (g u) = (l.take (k + 1)).map g ++ l.drop (k + 1) := by
  have hk := List.getElem?_eq_some_iff.1 hu
  have hk1 := hk.1
  have h1 : ((l.take k).map g).length = k := by simp; omega
  rw [List.set_append_right _ _ (by omega), h1, Nat.sub_self, List.drop_eq_getElem_cons hk.1, List.set_cons_zero, qah hu, List.map_append, List.append_assoc]
  rfl
theorem tm_set (g : Tm → Tm) {l : List Tm} {k : Nat} {u : Tm} (hu : l[k]? = some u) : (tmDs ((l.take k).map g ++ l.drop k)).set k (tmD (g u)) = tmDs ((l.take (k + 1)).map g ++ l.drop (k + 1)) := by
  rw [← prog_set g hu, qb3, qb3, List.map_set]
theorem applied_ok (l : List Bd) (hl : BOk l) : ∀ (d : Nat) (t : Tm), dle d t → t.wf → t.shp → PF 99 [bdA l, tmA false t] (.agg (lift true (tmD (qc0 (gB l) d t))))
  | 0, t, h, _, _ => h.elim
  | d + 1, t, h, ht, hs => by
    have hlen := qaa t.args
    have hlb := qak l
    have hll := hl.len
    have hal := ht.2.2.2.1
    have hg := atB_cases t.name l
    refine qG Tryz.func99 rfl Tryz.ntmps99 (Nat.le_of_ble_eq_true rfl) fun c hL hQ hDD => (qd (qb (qz rfl rfl (by decide) (qab 3 rfl rfl rfl) rfl (qz rfl rfl (by decide) (qaf 4 rfl q6 rfl) rfl (qc (qa (qd ?_))))))); refine qb (zA rfl (qw rfl qi rfl rfl rfl rfl) ?_)
    refine qbt rfl rfl (by decide) (qbC (avs := [_]) true rfl qa5 rfl rfl (CopyTermR_ok (d + 1) t h ht) (fun _ => rfl) rfl) rfl (qO rfl rfl rfl qi rfl rfl rfl rfl rfl rfl rfl rfl rfl (qc (qa (qd (qd (qb (zA rfl (qg rfl q9 rfl) ?_))))))); refine zA rfl (qr rfl qay rfl rfl rfl rfl rfl) ?_
    refine zA rfl (qn rfl rfl rfl rfl) (qc (qa (qu rfl (fun c0 => ?_) (fun c0 => ?_))))
    · try simp only [↓cqA, cqB] at c0
      refine qd (qb (zM rfl rfl rfl (zA rfl (qg rfl qad rfl) (zA rfl (qr rfl qT rfl rfl rfl rfl rfl) ?_))))
      refine qC (avs := [_, _]) true rfl rfl rfl (by decide) qcj rfl rfl (At1_ok' _ _ (by omega)) rfl rfl (zN rfl rfl rfl (qc (qa (qd (qd (qb (zM rfl rfl rfl ?_))))))); refine zA rfl (qn rfl rfl rfl rfl) (qc (qa (qu rfl (fun c1 => ?_) (fun c1 => ?_))))
      · try simp only [↓cqA, cqB] at c1
        obtain ⟨x, hx, hxn, hxl⟩ : ∃ x : Bd, l[(atB t.name l).toNat]? = some x ∧ x.name = t.name ∧ lookB l t.name = some x.t := by
          rcases hg with ⟨_, h2⟩ | ⟨_, i, x, h2, h3, h4, h5⟩
          · omega
          · exact ⟨x, by rw [h2]; exact h3, h4, h5⟩
        have hxm := hl.el x (List.mem_of_getElem? hx)
        have hxlt := (List.getElem?_eq_some_iff.1 hx).1
        refine qd (qb (zM rfl rfl rfl (zM rfl rfl rfl (zA rfl (qo rfl qp rfl rfl (by omega) (qaI hx)) (zA rfl (qZ rfl qan rfl) (zA rfl (qD rfl qi rfl rfl) ?_))))))
        refine qC (avs := [_]) true rfl rfl rfl (by decide) qa5 rfl rfl (CopyTerm_ok 5 x.t (qa6 hxm.2).1 hxm.1.2) rfl rfl (qO rfl rfl rfl qi rfl rfl rfl rfl rfl rfl rfl rfl rfl (qc (qa (qm (ql (ql (?_)))))))
        -- leaf 0T1T
        refine ret0 (noL hL) (.inl rfl) (qaU qi rfl rfl rfl (qh)) ?_ ?_
        · rfl
        refine ⟨?_, rfl⟩
        rw [qc0, if_pos c0, gB, hxl]; rfl
      try simp only [↓cqA, cqB] at c1
      have hlk : lookB l t.name = none := by
        rcases hg with ⟨h1, _⟩ | ⟨_, i, x, h2, _⟩
        · exact lookB_none hl.ris h1
        · omega
      refine qt (qa (qd (qb (qar (qam (l := 77) rfl (by decide) (noL hL _) rfl rfl) (zA rfl (qw rfl qi rfl rfl rfl rfl) (qO rfl rfl rfl qi rfl rfl rfl rfl rfl rfl rfl rfl rfl (qc ?_))))))); refine qa (qm (ql (?_)))
      -- leaf 0T1F
      refine ret0 (noL hL) (.inl rfl) (qaU qi rfl rfl rfl (qh)) ?_ ?_
      · rfl
      refine ⟨?_, rfl⟩
      have h1 := ((Tm.shp_iff t).1 hs).1
      rcases h1 with ⟨k1, _, n1, l1⟩ | ⟨k1, _⟩ | ⟨k1, _⟩
      · rw [qc0, if_pos c0, gB, hlk]
        have e : t = ⟨1, t.name, 0, []⟩ := by cases t; simp only at k1 n1 l1; subst k1; subst n1; subst l1; rfl
        rw [e]; rfl
      · omega
      · omega
    try simp only [↓cqA, cqB] at c0
    refine qt (qa (qd (qd (qb (zN rfl rfl rfl (qc (qa ?_))))))); refine qB ?_
    refine qV (t.args.length) (fun k => k ≤ t.args.length) (fun k => ⟨[(0, bdA l), (3, .ptr 3 0), (4, .ptr 4 0), (6, iv (k : Int))], [(3, .box [iv t.kind, sv t.name, iv t.n, .row 77]), (4, .box ([Value.int .i64 0, Value.string ⟨#[]⟩, Value.int .i64 0, Value.slice none 0 0].map .imm)), (77, .rowd 35 4 true (tmDs ((t.args.take k).map (qc0 (gB l) d) ++ t.args.drop k)))]⟩) (by omega) ?_ (fun k hk hp => ?_)
    · exact qI (SubT.cons (zT rfl) (SubT.cons (zT rfl) (SubT.cons (zT rfl) (SubT.cons (zT rfl) (SubT.nil))))) (SubO.cons (qag rfl (by rfl)) (SubO.cons (qag rfl (by rfl)) (SubO.cons (qag rfl (by rfl)) (SubO.nil)))) rfl rfl (noL' (noL hL) _)
    have hl2 : (tmDs ((t.args.take k).map (qc0 (gB l) d) ++ t.args.drop k)).length = t.args.length := by rw [qaa]; simp; omega
    refine qd (qd (qb (zM rfl rfl rfl (zA rfl (qg rfl qJ rfl) (zA rfl (qr rfl qF rfl rfl rfl rfl rfl) (zA rfl (qbI rfl qv rfl rfl) (zA rfl (qn rfl rfl rfl rfl) ?_))))))); refine qc (qa (qu rfl (fun c2 => ?_) (fun c2 => ?_)))
    · try simp only [↓cqA, cqB] at c2
      obtain ⟨u, hu⟩ := qK (l := t.args) (k := k) (by omega)
      have hum := List.mem_of_getElem? hu
      have hue : (tmDs ((t.args.take k).map (qc0 (gB l) d) ++ t.args.drop k))[k]? = some (tmD u) := by
        refine qax ?_
        rw [List.getElem?_append_right (by simp; omega)]
        simp only [List.length_map, List.length_take, List.getElem?_drop]
        rw [show k + (k - min k t.args.length) = k by omega]; exact hu
      refine qt (qa (qd (qB (q8 10 qbd rfl rfl rfl rfl (qe rfl (by decide) (.run rfl (qg rfl qJ rfl)) (qe rfl (by decide) (.run rfl (qr rfl qF rfl rfl rfl rfl rfl)) (qe rfl (by decide) (.run rfl (qk (.inl rfl) rfl)) ?_))))))); refine qe rfl (by decide) (.run rfl (qk (.inl rfl) rfl)) (qe rfl (by decide) (.run rfl (qg rfl qJ rfl)) ?_)
      refine qe rfl (by decide) (.run rfl (qr rfl qF rfl rfl rfl rfl rfl)) ?_; refine qe rfl (by decide) (.run rfl (qk (.inl rfl) rfl)) ?_; refine qe rfl (by decide) (.run rfl (qch rfl qv rfl rfl rfl (by omega) (by simp only [Int.toNat_natCast]; omega))) ?_
      refine qe rfl (by decide) (.run rfl (stp_load_rowdi k 0 rfl qi rfl rfl (by simp) hue rfl rfl rfl)) ?_; refine qe rfl (by decide) (.run rfl (qN (avs := [_, _]) true rfl qdf rfl rfl (applied_ok l hl d u (h u hum) (Tm.wfs_mem ht.2.2.2.2 hum) (hs.arg hum)) (fun _ => rfl) rfl)) ?_; refine qau ⟨rfl, rfl, ?_⟩; refine zA rfl (qch rfl qv rfl rfl rfl (by omega) (by simp only [Int.toNat_natCast]; omega)) ?_
      refine awps_storeRowd k rfl rfl rfl qi rfl rfl (by simp) (by omega) rfl rfl rfl rfl rfl rfl (qc (qP (qa (qb (zM rfl rfl rfl (zA rfl (qM rfl rfl rfl (by omega)) (zN rfl rfl rfl ?_))))))); refine qc (qa ?_); refine ⟨?_, ?_, ?_⟩
      · skip
        omega
      · skip
        omega
      exact qI (SubT.cons (zT rfl) (SubT.cons (zT rfl) (SubT.cons (zT rfl) (SubT.cons (zT rfl) (SubT.nil))))) (SubO.cons (qag rfl (by rfl)) (SubO.cons (qag rfl (by rfl)) (SubO.cons (qag rfl (by exact congrArg (Ob.rowd _ 4 true) (tm_set (qc0 (gB l) d) hu))) (SubO.nil)))) rfl rfl (noL' (noL hL) _)
    try simp only [↓cqA, cqB] at c2
    refine qQ (qq (qq (q7 ?_))); refine qa (qd (qbb (qam (l := 77) rfl (by decide) (noL hL _) rfl rfl) (qb (zA rfl (qw rfl qi rfl rfl rfl rfl) (qO rfl rfl rfl qi rfl rfl rfl rfl rfl rfl rfl rfl rfl (qc (qa ?_))))))); refine qm ?_
    -- leaf 0F2F
    refine ret0 (noL hL) (.inl rfl) (qaU qi rfl rfl rfl (qh)) ?_ ?_
    · rfl
    exact ⟨by rw [qc0, if_neg c0, List.take_of_length_le (by omega), List.drop_of_length_le (by omega), List.append_nil]; rfl, rfl⟩
theorem rApply_ok (l : List Bd) (hl : BOk l) (t : Tm) (ht : t.wf) (hm : mayT t = true) : PF 31 [bdA l, tmA false t] (.tup [.agg (lift true (tmD (intoT l t))), bv (mayT (putT l t))]) := by
  have hd := qao hm
  have hw := qcq hl ht
  refine AC_leP (Post := fun r O => (mayT (putT l t) = true ∧ r = .tup [.agg (lift true (tmD (putT l t))), bv true] ∨ mayT (putT l t) = false ∧ r = .tup [.agg [iv 0, sv ⟨#[]⟩, iv 0, .imm (.slice none 0 0)], bv false]) ∧ O = []) ?_ (fun r O' h => by
    obtain ⟨⟨h1, rfl⟩ | ⟨h1, rfl⟩, rfl⟩ := h
    · exact ⟨_, .refl, by rw [intoT, h1, if_pos rfl], rfl⟩
    · exact ⟨_, .tup (.cons (zero_le true) (.cons .refl .nil)), by rw [intoT, h1, if_neg (by simp)], rfl⟩)
  refine qG Tryz.func31 rfl Tryz.ntmps31 (Nat.le_of_ble_eq_true rfl) fun c hL hQ hDD => (qd (qb (qz rfl rfl (by decide) (qab 3 rfl rfl rfl) rfl (qz rfl rfl (by decide) (qaf 4 rfl q6 rfl) rfl (zN rfl rfl rfl (qc (qa ?_))))))); refine qd (qb (zM rfl rfl rfl (zA rfl (qw rfl qi rfl rfl rfl rfl) ?_)))
  refine qC (avs := [_, _]) true rfl rfl rfl (by decide) qdf rfl rfl (applied_ok l hl 5 t hd ht (qby hm)) rfl rfl (qz rfl rfl (by decide) (qaf 6 rfl q6 rfl) rfl (qO rfl rfl rfl qi rfl rfl rfl rfl rfl rfl rfl rfl rfl (qc (qa (qd (qd (qb ?_))))))); refine zA rfl (qw rfl qi rfl rfl rfl rfl) ?_
  refine qC (avs := [_]) true rfl rfl rfl (by decide) qaK rfl rfl (qc8 (putT l t) hw) rfl rfl (zA rfl (qU rfl rfl) (qc (qa (qu rfl (fun c0 => ?_) (fun c0 => ?_)))))
  · try simp only [↓cqA, cqB] at c0
    refine qd (qb (zA rfl (qbx rfl q6 rfl qbT rfl rfl) (qO rfl rfl rfl qi rfl rfl rfl rfl rfl rfl rfl rfl rfl (zN rfl rfl rfl (qc (qa (qm ?_))))))); refine ql (?_)
    -- leaf 0T
    refine ret0 (noL hL) (.inl rfl) (qaU qi rfl rfl rfl (qf rfl (qh))) ?_ ?_
    · rfl
    refine ⟨?_, rfl⟩
    first
      | exact .inl ⟨by simpa using c0, rfl⟩
      | exact .inr ⟨by simpa using c0, rfl⟩
  try simp only [↓cqA, cqB] at c0
  refine qt (qa (qd (qb (zA rfl (qw rfl qi rfl rfl rfl rfl) (qO rfl rfl rfl qi rfl rfl rfl rfl rfl rfl rfl rfl rfl (zN rfl rfl rfl (qc ?_))))))); refine qa (qm ?_)
  -- leaf 0F
  refine ret0 (noL hL) (.inl rfl) (qaU qi rfl rfl rfl (qf rfl (qh))) ?_ ?_
  · rfl
  refine ⟨?_, rfl⟩
  first
    | exact .inl ⟨by simpa using c0, rfl⟩
    | exact .inr ⟨by simpa using c0, rfl⟩
end Go.Proofs.YtdecgkhdbfgldaaGreat

set_option linter.unusedVariables false
set_option linter.unusedSimpArgs false
set_option maxRecDepth 8000
namespace Go.Proofs.YtdecgkhdbfgldaaGreat
open Go
theorem wgtL_mem {α : Type} (f : α → Int) (m : Int) (hm : m < 1048576) : ∀ (n : Int) (l : List α), (∀ t, t ∈ l → 0 ≤ f t) → 0 ≤ n → wgtL f n l ≤ m → n ≤ m ∧ ∀ u ∈ l, f u ≤ m
  | n, [], _, _, h => ⟨by simpa [wgtL] using h, fun u hu => by cases hu⟩
  | n, a :: l, hf, hn, h => by
    have h1 := qcR f n (a :: l) hf
    simp only [wgtL] at h
    rw [if_pos (by omega)] at h
    have h0 := hf a (by simp)
    obtain ⟨h2, h3⟩ := wgtL_mem f m hm (n + f a) l (fun t ht => hf t (by simp [ht])) (by omega) h
    refine ⟨by omega, fun u hu => ?_⟩
    rcases List.mem_cons.1 hu with rfl | hu
    · omega
    · exact h3 u hu
theorem wgt_dle : ∀ (d : Nat) (t : Tm), wgt d t ≤ 1048575 → dle d t
  | 0, t, h => by
    have h2 : (1048576 : Int) ≤ 1048575 := h
    omega
  | d + 1, t, h => fun u hu => by
    simp only [wgt] at h
    have := (wgtL_mem (wgt d) 1048575 (by omega) _ t.args (fun u _ => wgt_ge d u) (by omega) h).2 u hu
    exact wgt_dle d u this
theorem wBs_dle {l : List Bd} (hw : ∀ b ∈ l, b.wf) (h : wBs l ≤ 1048575) : ∀ b ∈ l, dle 30 b.t := fun b hb => by
  have h1 := (wgtL_mem wB 1048575 (by omega) _ l (fun u hu => (wB_range u (hw u hu)).1) (by omega) h).2 b hb
  have h2 : wgt 30 b.t ≤ 1048575 := by
    simp only [wB, wT] at h1; omega
  exact wgt_dle 30 b.t h2
theorem eqT_selfd {d : Nat} {a : Tm} (h : dle d a) : eqT d a a = true := (eqT_iff d a a h).2 rfl
theorem EqBindSelf_ok (d : Nat) (a : Bd) (hd : dle d a.t) (ha : a.wf) : PF 96 [.agg (lift false (bdD a)), .agg (lift false (bdD a))] (bv true) := by
  have ha2 := ha.2
  have key := qcz d a.t a.t hd ha2 ha2
  rw [eqT_selfd hd] at key
  refine qG Tryz.func96 rfl Tryz.ntmps96 (Nat.le_of_ble_eq_true rfl) fun c hL hQ hDD => (qd (qb (qz rfl rfl (by decide) (qab 2 rfl rfl rfl) rfl (qz rfl rfl (by decide) (qab 3 rfl rfl rfl) rfl (zN rfl rfl rfl (qc (qa ?_))))))); refine qd (qb (zA rfl (qg rfl qai rfl) (zA rfl (qr rfl qT rfl rfl rfl rfl rfl) ?_)))
  refine zA rfl (qg rfl qai rfl) (zA rfl (qr rfl qT rfl rfl rfl rfl rfl) (zA rfl (qbn rfl rfl rfl rfl) (zM rfl rfl rfl (qA 10 rfl (fun g10 => ?_) (fun g10 => ?_)))))
  · try simp only [↓cqA, cqB] at g10
    refine zG rfl rfl rfl rfl (qg rfl qan rfl) (zG rfl rfl rfl rfl (qr rfl qi rfl rfl rfl rfl rfl) (zG rfl rfl rfl rfl (qg rfl qan rfl) (zG rfl rfl rfl rfl (qr rfl qi rfl rfl rfl rfl rfl) ?_)))
    refine zG rfl rfl rfl rfl (qN (avs := [_, _]) true rfl qaC rfl rfl (key) (fun _ => rfl) rfl) (zA rfl (qj rfl rfl rfl) (zN rfl rfl rfl (qc (qa (qm ?_)))))
    -- leaf g10T
    refine ret0 (noL hL) (.inl rfl) (qf rfl (qh)) ?_ ?_
    · rfl
    refine ⟨qW ?_, rfl⟩
    first | rfl | simp_all
  try simp only [↓cqA, cqB] at g10
  refine zS rfl rfl rfl rfl (zS rfl rfl rfl rfl (zS rfl rfl rfl rfl (zS rfl rfl rfl rfl (zS rfl rfl rfl rfl (zA rfl (qj rfl rfl rfl) (zN rfl rfl rfl (qc ?_))))))); refine qa (qm ?_)
  -- leaf g10F
  refine ret0 (noL hL) (.inl rfl) (qf rfl (qh)) ?_ ?_
  · rfl
  refine ⟨qW ?_, rfl⟩
  first | rfl | simp_all
theorem EqBindsSelf_ok (d : Nat) (x : List Bd) (hd : ∀ u ∈ x, dle d u.t) (wx : ∀ u ∈ x, u.wf) (lx : x.length ≤ 140737488351232) : PF 28 [bdA x, bdA x] (bv true) := by
  have hlx := qak x
  refine qG Tryz.func28 rfl Tryz.ntmps28 (Nat.le_of_ble_eq_true rfl) fun c hL hQ hDD => (qd (qb (zN rfl rfl rfl (qc (qa (qd (qd ?_))))))); refine qb (zM rfl rfl rfl (zA rfl (qy rfl qp rfl) (zM rfl rfl rfl (zA rfl (qy rfl qp rfl) ?_))))
  refine zA rfl (qn rfl rfl rfl rfl) (qc (qa (qu rfl (fun c0 => ?_) (fun c0 => ?_))))
  · try simp only [↓cqA, cqB] at c0
    refine qd (qb (zN rfl rfl rfl (qc (qa (qm (ql (?_)))))))
    -- leaf 0T
    refine ret0 (noL hL) (.inl rfl) (qf rfl (qh)) ?_ ?_
    · rfl
    first
    | exact ⟨rfl, rfl⟩
    | exact absurd trivial c0
    | exact absurd rfl c0
    | exact absurd c2 (by simp)
    | exact absurd c2 Bool.noConfusion
    | (trace_state; fail)
  try simp only [↓cqA, cqB] at c0
  refine qt (qa (qd (qd (qb (zN rfl rfl rfl (qc (qa ?_))))))); refine qB (qV (x.length) (fun k => k ≤ x.length) (fun k => ⟨[(0, bdA x), (1, bdA x), (5, iv (k : Int))], []⟩) (by omega) ?_ (fun k hk hp => ?_))
  · exact qI (SubT.cons (zT rfl) (SubT.cons (zT rfl) (SubT.cons (zT rfl) (SubT.nil)))) (SubO.nil) rfl rfl (noL' (noL hL) _)
  refine qd (qd (qb (zM rfl rfl rfl (zM rfl rfl rfl (zA rfl (qy rfl qp rfl) (zA rfl (qn rfl rfl rfl rfl) (qc ?_))))))); refine qa (qu rfl (fun c1 => ?_) (fun c1 => ?_))
  · try simp only [↓cqA, cqB] at c1
    obtain ⟨u, hu⟩ := qK (l := x) (k := k) (by omega)
    refine qt (qa (qd (qB (qd (q8 8 qbd rfl rfl rfl rfl (qe rfl (by decide) (.run rfl (qk (.inl rfl) rfl)) (qe rfl (by decide) (.run rfl (qk (.inl rfl) rfl)) ?_))))))); refine qe rfl (by decide) (.run rfl (qo rfl qp rfl rfl (by omega) (qaI hu))) (qe rfl (by decide) (.run rfl (qD rfl qav rfl rfl)) ?_)
    refine qe rfl (by decide) (.run rfl (qk (.inl rfl) rfl)) (qe rfl (by decide) (.run rfl (qk (.inl rfl) rfl)) (qe rfl (by decide) (.run rfl (qo rfl qp rfl rfl (by omega) (qaI hu))) (qe rfl (by decide) (.run rfl (qD rfl qav rfl rfl)) ?_)))
    refine qau ⟨rfl, rfl, ?_⟩; refine qC (avs := [_, _]) true rfl rfl rfl (by decide) en_almagestref0_EqBind rfl rfl (EqBindSelf_ok d u (hd u (List.mem_of_getElem? hu)) (wx u (List.mem_of_getElem? hu))) rfl rfl (zA rfl (qU rfl rfl) (qc (qa (qu rfl (fun c2 => ?_) (fun c2 => ?_)))))
    · try simp only [↓cqA, cqB] at c2
      refine qd (qb (zN rfl rfl rfl (qc (qa (qm (qL (ql (ql (qL (ql (?_)))))))))))
      -- leaf 0F1T2T
      refine ret0 (noL hL) (.inl rfl) (qf rfl (qh)) ?_ ?_
      · rfl
      first
      | exact ⟨rfl, rfl⟩
      | exact absurd trivial c0
      | exact absurd rfl c0
      | exact absurd c2 (by simp)
      | exact absurd c2 Bool.noConfusion
      | (trace_state; fail)
    try simp only [↓cqA, cqB] at c2
    refine qt (qP (qa (qb (zM rfl rfl rfl (zA rfl (qM rfl rfl rfl (by omega)) (zN rfl rfl rfl (qc ?_))))))); refine qa ?_; refine ⟨?_, ?_, ?_⟩
    · skip
      omega
    · skip
      omega
    exact qI (SubT.cons (zT rfl) (SubT.cons (zT rfl) (SubT.cons (zT rfl) (SubT.nil)))) (SubO.nil) rfl rfl (noL' (noL hL) _)
  try simp only [↓cqA, cqB] at c1
  refine qQ (qq (qq (q7 ?_))); refine qa (qd (qb (zN rfl rfl rfl (qc (qa (qm ?_))))))
  -- leaf 0F1F
  refine ret0 (noL hL) (.inl rfl) (qf rfl (qh)) ?_ ?_
  · rfl
  first
  | exact ⟨rfl, rfl⟩
  | exact absurd trivial c0
  | exact absurd rfl c0
  | exact absurd c2 (by simp)
  | exact absurd c2 Bool.noConfusion
  | (trace_state; fail)
end Go.Proofs.YtdecgkhdbfgldaaGreat

set_option linter.unusedVariables false
set_option linter.unusedSimpArgs false
set_option maxRecDepth 8000
namespace Go.Proofs.YtdecgkhdbfgldaaGreat
open Go
theorem filter_snoc {α : Type} (p : α → Bool) {l : List α} {k : Nat} {u : α} (hu : l[k]? = some u) : (l.take (k + 1)).filter p = (l.take k).filter p ++ (if p u = true then [u] else []) := by
  rw [qah hu, List.filter_append]
  congr 1
  by_cases h : p u = true <;> simp [h]
theorem filter_take_le {α : Type} (p : α → Bool) (l : List α) (k : Nat) : ((l.take k).filter p).length ≤ k := Nat.le_trans (List.length_filter_le _ _) (by simp; omega)
end Go.Proofs.YtdecgkhdbfgldaaGreat

set_option linter.unusedVariables false
set_option linter.unusedSimpArgs false
set_option maxRecDepth 8000
namespace Go.Proofs.YtdecgkhdbfgldaaGreat
open Go
theorem stp_eq {P : Program} {c : Ctx} {N : Nat} {o : Oper} {σ : St} {need : List Nat} {v v' : AV} {new : List (Nat × Ob)} (h : Stp P c N o σ need v new) (e : v = v') : Stp P c N o σ need v' new := e ▸ h
theorem rJoin_ok (a b : List Bd) (ha : BOk a) (hb : BOk b) : PF 35 [bdA a, bdA b] (.tup [.dat true 5 (bdDs (qcf a b)), iv (qcc a b)]) := by
  have hlen := qak b
  have hla := qak a
  have hla2 := ha.len
  have hlb2 := hb.len
  refine AC_leP (Post := fun r O => (qcf a b = [] ∧ r = .tup [.imm (.slice none 0 0), iv (qcc a b)] ∨ r = .tup [.dat true 5 (bdDs (qcf a b)), iv (qcc a b)]) ∧ O = []) ?_ (fun r O' h => by
    obtain ⟨⟨h1, rfl⟩ | rfl, rfl⟩ := h
    · exact ⟨_, .tup (.cons (.nil (f := true) (k := 5)) (.cons .refl .nil)), by rw [h1]; rfl, rfl⟩
    · exact ⟨_, .refl, rfl, rfl⟩)
  refine qG Tryz.func35 rfl Tryz.ntmps35 (Nat.le_of_ble_eq_true rfl) fun c hL hQ hDD => (qd (qb (zN rfl rfl rfl (zN rfl rfl rfl (qc (qa (qd ?_))))))); refine qb ?_
  refine zM rfl rfl rfl (qbt rfl rfl (by decide) (qbC (avs := [_]) true rfl qaP rfl rfl (AC_rnE 3 77 (qcA 5 a (by omega) (fun x hx => qao (ha.el x hx).2) (fun x hx => (ha.el x hx).1))) (fun _ => rfl) rfl) rfl (zN rfl rfl rfl (qc ?_)))
  refine qa (qd (qd (qbb (qam (l := 77) rfl (by decide) (noL hL _) rfl rfl) (qb (zN rfl rfl rfl (qc (qa ?_))))))); refine qB (qV (b.length) (fun k => k ≤ b.length ∧ ∀ (j : Nat) (u : Bd), j < k → b[j]? = some u → qbO (qbV a (b.take j)) u = false) (fun k => ⟨[(1, bdA b), (6, .dat true 5 (bdDs (qbV a (b.take k)))), (7, iv (k : Int))], []⟩) (⟨by omega, fun j u hj => absurd hj (by omega)⟩) ?_ (fun k hk hp => ?_))
  · exact qI (SubT.cons (zT rfl) (SubT.cons (zT rfl) (SubT.cons (zT rfl) (SubT.nil)))) (SubO.nil) rfl rfl (noL' (noL hL) _)
  obtain ⟨⟨hr, hel⟩, hln⟩ := bothX_ok ⟨ha.ris, ha.el⟩ (b.take k) (fun u hu => hb.el u (List.mem_of_mem_take hu))
  have hln2 : (b.take k).length ≤ b.length := by simp; omega
  have hlx := qak (qbV a (b.take k))
  generalize hX : qbV a (b.take k) = X at *
  refine qd (qd (qb (zM rfl rfl rfl (zM rfl rfl rfl (zA rfl (qy rfl qp rfl) (zA rfl (qn rfl rfl rfl rfl) (qc ?_))))))); refine qa (qu rfl (fun c0 => ?_) (fun c0 => ?_))
  · try simp only [↓cqA, cqB] at c0
    obtain ⟨u, hu⟩ := qK (l := b) (k := k) (by omega)
    have hum := hb.el u (List.mem_of_getElem? hu)
    have hpl := posB_le X u.name
    have hpos := posB_spec u.name X
    have hXs : qbV a (b.take (k + 1)) = qbc X u := by rw [qah hu, bothX_snoc, hX]
    have hat := atB_has u.name X
    refine qt (qa (qd (qB (qd (qb (zM rfl rfl rfl (zM rfl rfl rfl ?_))))))); refine zM rfl rfl rfl (zA rfl (qo rfl qp rfl rfl (by omega) (qaI hu)) (zA rfl (qZ rfl qai rfl) (zA rfl (qR rfl qT rfl) ?_)))
    refine qC (avs := [_, _]) true rfl rfl rfl (by decide) qcj rfl rfl (At1_ok' X u.name (by omega)) rfl rfl (zN rfl rfl rfl (qc (qa (qd (qd (qb (zM rfl rfl rfl ?_))))))); refine zA rfl (qn rfl rfl rfl rfl) (qc (qa (qu rfl (fun c1 => ?_) (fun c1 => ?_))))
    · try simp only [↓cqA, cqB] at c1
      have hh : hasB X u.name = true := hat.1 (by omega)
      obtain ⟨v, hv, hvn, hlk⟩ : ∃ x : Bd, X[(atB u.name X).toNat]? = some x ∧ x.name = u.name ∧ lookB X u.name = some x.t := by
        rcases atB_cases u.name X with ⟨h1, _⟩ | ⟨_, i, x, h2, h3, h4, h5⟩
        · rw [h1] at hh; cases hh
        · exact ⟨x, by rw [h2]; exact h3, h4, h5⟩
      have hvt : lookT X u.name = v.t := by rw [lookT, hlk]; rfl
      have hvm := hel v (List.mem_of_getElem? hv)
      have hlt := (List.getElem?_eq_some_iff.1 hv).1
      have hst : qbc X u = X := by rw [qbc, if_pos hh]
      have hcz := cmpT_zero 5 v.t u.t (qao hvm.2)
      refine qd (qd (q8 10 qbd rfl rfl rfl rfl (qe rfl (by decide) (.run rfl (qk (.inl rfl) rfl)) (qe rfl (by decide) (.run rfl (qk (.inl rfl) rfl)) (qe rfl (by decide) (.run rfl (qo rfl qp rfl rfl (by omega) (qaI hv))) (qe rfl (by decide) (.run rfl (qZ rfl qan rfl)) (qe rfl (by decide) (.run rfl (qD rfl qi rfl rfl)) ?_)))))))
      refine qe rfl (by decide) (.run rfl (qk (.inl rfl) rfl)) (qe rfl (by decide) (.run rfl (qk (.inl rfl) rfl)) (qe rfl (by decide) (.run rfl (qo rfl qp rfl rfl (by omega) (qaI hu))) (qe rfl (by decide) (.run rfl (qZ rfl qan rfl)) (qe rfl (by decide) (.run rfl (qD rfl qi rfl rfl)) ?_))))
      refine qau ⟨rfl, rfl, ?_⟩; refine qC (avs := [_, _]) true rfl rfl rfl (by decide) qaC rfl rfl (qcz 5 v.t u.t (qao hvm.2) hvm.1.2 hum.1.2) rfl rfl (zA rfl (qU rfl rfl) (qc (qa (qu rfl (fun c2 => ?_) (fun c2 => ?_)))))
      · try simp only [↓cqA, cqB] at c2
        refine qd (qb (zN rfl rfl rfl (zN rfl rfl rfl (qc (qa (qm (ql (ql (qL (ql (ql (qL (ql (?_))))))))))))))
        -- leaf 0T1T2T
        refine ret0 (noL hL) (.inl rfl) (qf rfl (qf rfl (qh))) ?_ ?_
        · rfl
        have hbk : qcZ a b = false := by
          have hne : ¬ cmpT 5 v.t u.t = 0 := fun h => by have := hcz.1 h; simp [this] at c2
          rw [bothOk_take b a k hp.2, hX, drop_get hu, qcZ]
          have : qbO X u = true := by simp [qbO, hvt, hh, hne]
          rw [this]; rfl
        exact ⟨.inl ⟨by rw [qcf, if_neg (by simp [hbk])], by rw [qcc, if_neg (by simp [hbk])]; rfl⟩, rfl⟩
      try simp only [↓cqA, cqB] at c2
      have hbad : qbO X u = false := by
        have h1 : eqT 5 v.t u.t = true := by simpa using c2
        simp [qbO, hvt, hcz.2 h1]
      refine qt (qa (qQ (qq (q7 ?_)))); refine qa (qb (zM rfl rfl rfl (zA rfl (qM rfl rfl rfl (by omega)) (zN rfl rfl rfl (qc (qa ?_)))))); refine ⟨?_, ?_, ?_⟩
      · skip
        omega
      · skip
        refine ⟨by omega, fun j w hj hw => ?_⟩
        by_cases hjk : j < k
        · exact hp.2 j w hjk hw
        · rw [show j = k by omega] at hw ⊢
          rw [hu] at hw; cases hw
          rw [hX]; exact hbad
      exact qI (SubT.cons (zT rfl) (SubT.cons (qbg rfl (by rw [hXs, hst]; try (rw [← hsp]; exact congrArg (AV.dat true 5) (show bdDs (X.take s) ++ [bdD u] ++ bdDs (X.drop s) = bdDs (ins X s u) by simp [ins, bdDs])))) (SubT.cons (zT rfl) (SubT.nil)))) (SubO.nil) rfl rfl (noL' (noL hL) _)
    try simp only [↓cqA, cqB] at c1
    have hh : hasB X u.name = false := by
      cases hc : hasB X u.name with
      | false => rfl
      | true => have := hat.2 hc; omega
    have hbad : qbO X u = false := by simp [qbO, hh]
    have hst : qbc X u = ins X (posB X u.name) u := by rw [qbc, if_neg (by simp [hh])]
    refine qt (qa (qd (qb (zN rfl rfl rfl (qc (qa (qd ?_))))))); refine qB (qV (posB X u.name) (fun s => s ≤ posB X u.name) (fun s => ⟨[(1, bdA b), (6, .dat true 5 (bdDs X)), (7, iv (k : Int)), (8, iv (s : Int))], []⟩) (by omega) ?_ (fun s hs hps => ?_))
    · exact qI (SubT.cons (zT rfl) (SubT.cons (zT rfl) (SubT.cons (zT rfl) (SubT.cons (zT rfl) (SubT.nil))))) (SubO.nil) rfl rfl (noL' (noL hL) _)
    refine qd (qd ?_)
    rcases Bool.eq_false_or_eq_true (decide ((s : Int) < ((bdDs X).length : Int))) with l41 | l41
    · have m41 := l41
      try simp only [↓cqA, cqB] at m41
      obtain ⟨v, hv⟩ := qK (l := X) (k := s) (by omega)
      have hpt := fun h => hpos.1 s v h hv
      refine q8 15 qbd rfl rfl rfl rfl (qe rfl (by decide) (.run rfl (qk (.inl rfl) rfl)) (qe rfl (by decide) (.run rfl (qk (.inl rfl) rfl)) (qe rfl (by decide) (.run rfl (qy rfl qp rfl)) ?_)))
      refine qe rfl (by decide) (.run rfl (qn (r := .bool true) rfl rfl rfl (congrArg (fun b => some (Value.bool b)) l41))) (qe rfl (by decide) (.run rfl (qk (.inl rfl) rfl)) (qe rfl (by decide) (.want rfl rfl rfl (by decide) (qk (.inl rfl) rfl)) (qe rfl (by decide) (.want rfl rfl rfl (by decide) (qk (.inl rfl) rfl)) (qe rfl (by decide) (.want rfl rfl rfl (by decide) (qo rfl qp rfl rfl (by omega) (qaI hv))) ?_))))
      refine qe rfl (by decide) (.want rfl rfl rfl (by decide) (qZ rfl qai rfl)) (qe rfl (by decide) (.want rfl rfl rfl (by decide) (qR rfl qT rfl)) (qe rfl (by decide) (.want rfl rfl rfl (by decide) (qk (.inl rfl) rfl)) (qe rfl (by decide) (.want rfl rfl rfl (by decide) (qk (.inl rfl) rfl)) (qe rfl (by decide) (.want rfl rfl rfl (by decide) (qo rfl qp rfl rfl (by omega) (qaI hu))) ?_))))
      refine qe rfl (by decide) (.want rfl rfl rfl (by decide) (qZ rfl qai rfl)) (qe rfl (by decide) (.want rfl rfl rfl (by decide) (qR rfl qT rfl)) (qau ⟨rfl, rfl, ?_⟩)); refine zG rfl rfl rfl rfl (qbn rfl rfl rfl rfl) (zA rfl (qj rfl rfl rfl) (qc (qa (qu rfl (fun c3 => ?_) (fun c3 => ?_)))))
      · try simp only [↓cqA, cqB] at c3
        have hsp : s < posB X u.name := by
          rcases Nat.lt_or_ge s (posB X u.name) with h | h
          · exact h
          · have h2 : posB X u.name = s := by omega
            have h3 := hpos.2 v (by rw [h2]; exact hv)
            rw [show ltS v.name u.name = true from c3] at h3; cases h3
        refine qt (qa (qB (qb (zM rfl rfl rfl (zA rfl (qM rfl rfl rfl (by omega)) (zN rfl rfl rfl (qc ?_))))))); refine qP (qa ?_); refine ⟨?_, ?_, ?_⟩
        · skip
          omega
        · skip
          omega
        exact qI (SubT.cons (zT rfl) (SubT.cons (zT rfl) (SubT.cons (zT rfl) (SubT.cons (zT rfl) (SubT.nil))))) (SubO.nil) rfl rfl (noL' (noL hL) _)
      try simp only [↓cqA, cqB] at c3
      have hsp : s = posB X u.name := by
        rcases Nat.lt_or_ge s (posB X u.name) with h | h
        · have h3 := hpt h
          rw [show ltS v.name u.name = false from c3] at h3; cases h3
        · omega
      refine qQ (qq (qq (q7 ?_))); refine qa ?_
      have htl : (bdDs (X.take s)).length = s := by rw [qak]; simp; omega
      have hdl : (bdDs (X.drop s)).length ≤ X.length := by rw [qak]; simp
      refine q8 14 qbd rfl rfl rfl rfl (qe rfl (by decide) (.run rfl (qk (.inl rfl) rfl)) (qe rfl (by decide) (.run rfl (qk (.inl rfl) rfl)) (qe rfl (by decide) (.run rfl (stp_eq (v' := .dat true 5 (bdDs (X.take s))) (stp_sldH rfl qp rfl rfl (by omega) (by omega)) (by simp [bdDs]))) ?_)))
      refine MGo_u rfl rfl (by decide) (qbC (avs := [_]) true rfl qaP rfl rfl (AC_rnE 3 77 (qcA 5 (X.take s) (by simp; omega) (fun x hx => qao (hel x (List.mem_of_mem_take hx)).2) (fun x hx => (hel x (List.mem_of_mem_take hx)).1))) (fun _ => rfl) rfl) ?_; refine qe rfl (by decide) (.run rfl (qk (.inl rfl) rfl)) ?_; refine qe rfl (by decide) (.run rfl (qk (.inl rfl) rfl)) ?_; refine qe rfl (by decide) (.run rfl (qo rfl qp rfl rfl (by omega) (qaI hu))) ?_
      refine qe rfl (by decide) (.run rfl (qD rfl qav rfl rfl)) ?_; refine qe rfl (by decide) (.run rfl (qN (avs := [_]) true rfl qb0 rfl rfl (CopyBind_ok 5 u (qao hum.2) hum.1) (fun _ => rfl) rfl)) ?_; refine MGo_c1 rfl (by decide) (.run rfl (qS 66 rfl qp qaD rfl rfl (by decide) (by decide) (by decide) rfl rfl rfl)) ?_; refine MGo_u rfl rfl (by decide) (qaA 67 qaW rfl rfl rfl rfl rfl rfl rfl rfl (noL hL _) (by rw [htl]; omega) rfl) ?_
      refine qe rfl (by decide) (.run rfl (qk (.inl rfl) rfl)) ?_; refine qe rfl (by decide) (.run rfl (qk (.inl rfl) rfl)) ?_; refine qe rfl (by decide) (.run rfl (stp_eq (v' := .dat true 5 (bdDs (X.drop s))) (stp_sldL rfl qp rfl rfl (by omega) (by omega)) (by simp [bdDs]))) ?_; refine qau ⟨rfl, rfl, ?_⟩; refine qbt rfl rfl (by decide) (qb2 71 qaW rfl rfl rfl rfl rfl (noL hL _) (fun d hd => by obtain ⟨x, _, rfl⟩ := List.mem_map.1 hd; rfl) (by simp only [List.length_append, List.length_singleton, htl]; omega) rfl) rfl ?_
      refine qar (qam (l := 71) rfl (by decide) (noL hL _) rfl rfl) (zN rfl rfl rfl (qc (qP (qa (qb (zM rfl rfl rfl (zA rfl (qM rfl rfl rfl (by omega)) ?_))))))); refine zN rfl rfl rfl (qc (qa ?_)); refine ⟨?_, ?_, ?_⟩
      · skip
        omega
      · skip
        refine ⟨by omega, fun j w hj hw => ?_⟩
        by_cases hjk : j < k
        · exact hp.2 j w hjk hw
        · rw [show j = k by omega] at hw ⊢
          rw [hu] at hw; cases hw
          rw [hX]; exact hbad
      exact qI (SubT.cons (zT rfl) (SubT.cons (qbg rfl (by rw [hXs, hst]; try (rw [← hsp]; exact congrArg (AV.dat true 5) (show bdDs (X.take s) ++ [bdD u] ++ bdDs (X.drop s) = bdDs (ins X s u) by simp [ins, bdDs])))) (SubT.cons (zT rfl) (SubT.nil)))) (SubO.nil) rfl rfl (noL' (noL hL) _)
    have m41 := l41
    try simp only [↓cqA, cqB] at m41
    have hsp : s = posB X u.name := by omega
    refine q8 15 qbd rfl rfl rfl rfl (qe rfl (by decide) (.run rfl (qk (.inl rfl) rfl)) (qe rfl (by decide) (.run rfl (qk (.inl rfl) rfl)) (qe rfl (by decide) (.run rfl (qy rfl qp rfl)) ?_)))
    refine qe rfl (by decide) (.run rfl (qn (r := .bool false) rfl rfl rfl (congrArg (fun b => some (Value.bool b)) l41))) (qe rfl (by decide) (.run rfl (qk (.inl rfl) rfl)) (qe rfl (by decide) (.skip rfl rfl rfl (by decide) (by decide)) (qe rfl (by decide) (.skip rfl rfl rfl (by decide) (by decide)) ?_)))
    refine qe rfl (by decide) (.skip rfl rfl rfl (by decide) (by decide)) (qe rfl (by decide) (.skip rfl rfl rfl (by decide) (by decide)) (qe rfl (by decide) (.skip rfl rfl rfl (by decide) (by decide)) (qe rfl (by decide) (.skip rfl rfl rfl (by decide) (by decide)) (qe rfl (by decide) (.skip rfl rfl rfl (by decide) (by decide)) ?_))))
    refine qe rfl (by decide) (.skip rfl rfl rfl (by decide) (by decide)) (qe rfl (by decide) (.skip rfl rfl rfl (by decide) (by decide)) (qe rfl (by decide) (.skip rfl rfl rfl (by decide) (by decide)) (qau ⟨rfl, rfl, ?_⟩))); refine zS rfl rfl rfl rfl (zA rfl (qj rfl rfl rfl) (qc (qa (qas rfl (qQ (qq (qq (q7 ?_)))))))); refine qa ?_
    have htl : (bdDs (X.take s)).length = s := by rw [qak]; simp; omega
    have hdl : (bdDs (X.drop s)).length ≤ X.length := by rw [qak]; simp
    refine q8 14 qbd rfl rfl rfl rfl (qe rfl (by decide) (.run rfl (qk (.inl rfl) rfl)) (qe rfl (by decide) (.run rfl (qk (.inl rfl) rfl)) (qe rfl (by decide) (.run rfl (stp_eq (v' := .dat true 5 (bdDs (X.take s))) (stp_sldH rfl qp rfl rfl (by omega) (by omega)) (by simp [bdDs]))) ?_)))
    refine MGo_u rfl rfl (by decide) (qbC (avs := [_]) true rfl qaP rfl rfl (AC_rnE 3 77 (qcA 5 (X.take s) (by simp; omega) (fun x hx => qao (hel x (List.mem_of_mem_take hx)).2) (fun x hx => (hel x (List.mem_of_mem_take hx)).1))) (fun _ => rfl) rfl) ?_; refine qe rfl (by decide) (.run rfl (qk (.inl rfl) rfl)) ?_; refine qe rfl (by decide) (.run rfl (qk (.inl rfl) rfl)) ?_; refine qe rfl (by decide) (.run rfl (qo rfl qp rfl rfl (by omega) (qaI hu))) ?_
    refine qe rfl (by decide) (.run rfl (qD rfl qav rfl rfl)) ?_; refine qe rfl (by decide) (.run rfl (qN (avs := [_]) true rfl qb0 rfl rfl (CopyBind_ok 5 u (qao hum.2) hum.1) (fun _ => rfl) rfl)) ?_; refine MGo_c1 rfl (by decide) (.run rfl (qS 66 rfl qp qaD rfl rfl (by decide) (by decide) (by decide) rfl rfl rfl)) ?_; refine MGo_u rfl rfl (by decide) (qaA 67 qaW rfl rfl rfl rfl rfl rfl rfl rfl (noL hL _) (by rw [htl]; omega) rfl) ?_
    refine qe rfl (by decide) (.run rfl (qk (.inl rfl) rfl)) ?_; refine qe rfl (by decide) (.run rfl (qk (.inl rfl) rfl)) ?_; refine qe rfl (by decide) (.run rfl (stp_eq (v' := .dat true 5 (bdDs (X.drop s))) (stp_sldL rfl qp rfl rfl (by omega) (by omega)) (by simp [bdDs]))) ?_; refine qau ⟨rfl, rfl, ?_⟩; refine qbt rfl rfl (by decide) (qb2 71 qaW rfl rfl rfl rfl rfl (noL hL _) (fun d hd => by obtain ⟨x, _, rfl⟩ := List.mem_map.1 hd; rfl) (by simp only [List.length_append, List.length_singleton, htl]; omega) rfl) rfl ?_
    refine qar (qam (l := 71) rfl (by decide) (noL hL _) rfl rfl) (zN rfl rfl rfl (qc (qP (qa (qb (zM rfl rfl rfl (zA rfl (qM rfl rfl rfl (by omega)) ?_))))))); refine zN rfl rfl rfl (qc (qa ?_)); refine ⟨?_, ?_, ?_⟩
    · skip
      omega
    · skip
      refine ⟨by omega, fun j w hj hw => ?_⟩
      by_cases hjk : j < k
      · exact hp.2 j w hjk hw
      · rw [show j = k by omega] at hw ⊢
        rw [hu] at hw; cases hw
        rw [hX]; exact hbad
    exact qI (SubT.cons (zT rfl) (SubT.cons (qbg rfl (by rw [hXs, hst]; try (rw [← hsp]; exact congrArg (AV.dat true 5) (show bdDs (X.take s) ++ [bdD u] ++ bdDs (X.drop s) = bdDs (ins X s u) by simp [ins, bdDs])))) (SubT.cons (zT rfl) (SubT.nil)))) (SubO.nil) rfl rfl (noL' (noL hL) _)
  try simp only [↓cqA, cqB] at c0
  have hk2 : b.take k = b := List.take_of_length_le (by omega)
  rw [hk2] at hX
  have hgo : qcZ a b = true := by rw [bothOk_take b a k hp.2, List.drop_eq_nil_of_le (by omega)]; rfl
  refine qQ (qq (qq (q7 ?_))); refine qa (qd (qd (qb (zM rfl rfl rfl (zA rfl (qy rfl qp rfl) (zA rfl (qn rfl rfl rfl rfl) (qc ?_))))))); refine qa (qu rfl (fun c4 => ?_) (fun c4 => ?_))
  · try simp only [↓cqA, cqB] at c4
    refine qd (qb (zN rfl rfl rfl (zN rfl rfl rfl (qc (qa (qm (ql (?_))))))))
    -- leaf 0F4T
    refine ret0 (noL hL) (.inl rfl) (qf rfl (qf rfl (qh))) ?_ ?_
    · rfl
    exact ⟨.inl ⟨by rw [qcf, if_neg (by rw [hX]; omega)], by rw [qcc, if_pos hgo, if_neg (by rw [hX]; omega)]; rfl⟩, rfl⟩
  try simp only [↓cqA, cqB] at c4
  refine qt (qa (qd (qb (zM rfl rfl rfl (zN rfl rfl rfl (zN rfl rfl rfl (qc ?_))))))); refine qa (qm ?_)
  -- leaf 0F4F
  refine ret0 (noL hL) (.inl rfl) (qf rfl (qf rfl (qh))) ?_ ?_
  · rfl
  exact ⟨.inr (by rw [qcf, qcc, if_pos ⟨hgo, by rw [hX]; omega⟩, if_pos hgo, if_pos (by rw [hX]; omega), hX]; rfl), rfl⟩
end Go.Proofs.YtdecgkhdbfgldaaGreat
