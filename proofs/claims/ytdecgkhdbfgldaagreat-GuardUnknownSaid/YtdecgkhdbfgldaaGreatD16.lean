/- Part 16 of the proof: Ii, Ij, Ik. -/
import Derived.Test.YtdecgkhdbfgldaaGreatD15
set_option linter.unusedVariables false
set_option linter.unusedSimpArgs false
set_option maxRecDepth 8000
namespace Go.Proofs.YtdecgkhdbfgldaaGreat
open Go
theorem putT_ground {one : List Bd} {t : Tm} (hm : mayT t = true) (hg : Gr t) : putT one t = t := by rw [qcT (qao hm), hg.sub (qby hm)]
theorem subB_ground {one l : List Bd} (hl : GG l) : subB one l = l := by
  have : ∀ b ∈ l, (⟨b.name, putT one b.t⟩ : Bd) = b := fun b hb => by rw [putT_ground (hl.gb.el b hb).2.2 (hl.gr b hb)]
  unfold subB
  conv => rhs; rw [← List.map_id l]
  exact List.map_congr_left this
theorem both_one {l : List Bd} (hl : GG l) {s : ByteArray} {t : Tm} (hh : hasB l s = false) : qcf l [⟨s, t⟩] = qci l s t ∧ qcc l [⟨s, t⟩] = standE l s t := by
  have e1 : qbV l [⟨s, t⟩] = ins l (posB l s) ⟨s, t⟩ := by simp [qbV, qbc, hh]
  have e2 : qcZ l [⟨s, t⟩] = true := by simp [qcZ, qbO, hh]
  have e3 : (ins l (posB l s) ⟨s, t⟩).length = l.length + 1 := qa0 _ _ _ (posB_le l s)
  have e4 : goodB [⟨s, t⟩] l = true := List.all_eq_true.2 fun b hb => by
    have hb2 := (hl.gb.el b hb).2.2
    simp [intoE, putT_ground hb2 (hl.gr b hb), hb2]
  rw [qcf, qcc, qci, standE, e1, e2, e3, e4, subB_ground hl]
  by_cases h : 16 ≤ l.length
  · have h1 : ¬ (l.length + 1 ≤ 16) := by omega
    simp [h, h1]
  · have h1 : l.length + 1 ≤ 16 := by omega
    simp [h, h1]
def rmPost (q : List Bd × Int) (r : AV) : Prop := (∃ e, r = .tup [.imm (.slice none 0 0), iv e] ∧ q = ([], e)) ∨ r = .tup [.dat true 5 (bdDs q.1), iv q.2]
theorem rmPost_ok {f : FuncId} {args : List AV} {q : List Bd × Int} (h : AC Tryz.prog f args [] (fun r O => rmPost q r ∧ O = [])) : PF f args (.tup [.dat true 5 (bdDs q.1), iv q.2]) :=
  AC_leP h (fun r O' h => by
    obtain ⟨⟨e, rfl, rfl⟩ | rfl, rfl⟩ := h
    · exact ⟨_, .tup (.cons (.nil (f := true) (k := 5)) (.cons .refl .nil)), rfl, rfl⟩
    · exact ⟨_, .refl, rfl, rfl⟩)
theorem rMatch_ok : ∀ (d : Nat) (l : List Bd) (a b : Tm), dle d a → a.shp → a.wf → GG l → b.wf → mayT b = true → Gr b → PF 284 [bdA l, tmA false a, tmA false b] (.tup [.dat true 5 (bdDs (fitR d l a b).1), iv (fitR d l a b).2])
  | 0, l, a, b, h, _, _, _, _, _, _ => h.elim
  | d + 1, l, a, b, h, hs, ha, hl, hb, hm, hg => by
    refine rmPost_ok ?_
    have hln := hl.gb.len
    have hbl := qak l
    have hla := qaa a.args
    have hlb := qaa b.args
    have hal : a.args.length ≤ 4 := by
      rcases ((Tm.shp_iff a).1 hs).1 with ⟨_, _, _, e⟩ | ⟨_, _, _, e⟩ | ⟨_, _, _, e⟩ <;> simp_all
    have hat := atB_has a.name l
    have hle : ∀ x ∈ l, dle 5 x.t := fun x hx => qao (hl.gb.el x hx).2.2
    have hlw : ∀ x ∈ l, x.wf := fun x hx => (hl.gb.el x hx).1
    refine qG Tryz.func284 rfl Tryz.ntmps284 (Nat.le_of_ble_eq_true rfl) fun c hL hQ hDD => (qd (qb (qz rfl rfl (by decide) (qab 4 rfl rfl rfl) rfl (qz rfl rfl (by decide) (qab 5 rfl rfl rfl) rfl (zN rfl rfl rfl (zN rfl rfl rfl (qc ?_))))))); refine qa (qd (qd (qb (zA rfl (qg rfl q9 rfl) ?_))))
    refine zA rfl (qr rfl qay rfl rfl rfl rfl rfl) (zA rfl (qn rfl rfl rfl rfl) (qc (qa (qu rfl (fun c0 => ?_) (fun c0 => ?_)))))
    · try simp only [↓cqA, cqB] at c0
      refine qd (qb (zM rfl rfl rfl (zA rfl (qg rfl qad rfl) (zA rfl (qr rfl qT rfl rfl rfl rfl rfl) ?_))))
      refine qC (avs := [_, _]) true rfl rfl rfl (by decide) qcj rfl rfl (At1_ok' l a.name (by omega)) rfl rfl (zN rfl rfl rfl (qc (qa (qd (qd (qb (zM rfl rfl rfl ?_))))))); refine zA rfl (qn rfl rfl rfl rfl) (qc (qa (qu rfl (fun c1 => ?_) (fun c1 => ?_))))
      · try simp only [↓cqA, cqB] at c1
        have hh : hasB l a.name = true := hat.1 (by omega)
        obtain ⟨v, hv, hvn, hlk⟩ : ∃ x : Bd, l[(atB a.name l).toNat]? = some x ∧ x.name = a.name ∧ lookB l a.name = some x.t := by
          rcases atB_cases a.name l with ⟨h1, _⟩ | ⟨_, i, x, h2, h3, h4, h5⟩
          · rw [h1] at hh; cases hh
          · exact ⟨x, by rw [h2]; exact h3, h4, h5⟩
        have hvt : lookT l a.name = v.t := by rw [lookT, hlk]; rfl
        have hvm := hl.gb.el v (List.mem_of_getElem? hv)
        have hvl := (List.getElem?_eq_some_iff.1 hv).1
        have hcz := cmpT_zero 5 v.t b (qao hvm.2.2)
        refine qd (qd (q8 6 qbd rfl rfl rfl rfl (qe rfl (by decide) (.run rfl (qk (.inl rfl) rfl)) (qe rfl (by decide) (.run rfl (qk (.inl rfl) rfl)) (qe rfl (by decide) (.run rfl (qo rfl qp rfl rfl (by omega) (qaI hv))) (qe rfl (by decide) (.run rfl (qZ rfl qan rfl)) (qe rfl (by decide) (.run rfl (qD rfl qi rfl rfl)) ?_)))))))
        refine qe rfl (by decide) (.run rfl (qw rfl qi rfl rfl rfl rfl)) (qau ⟨rfl, rfl, ?_⟩); refine qC (avs := [_, _]) true rfl rfl rfl (by decide) qaC rfl rfl (qcz 5 v.t b (qao hvm.2.2) hvm.1.2 hb) rfl rfl (qc (qa (qu rfl (fun c2 => ?_) (fun c2 => ?_))))
        · try simp only [↓cqA, cqB] at c2
          refine qd (qb (zM rfl rfl rfl (qbt rfl rfl (by decide) (qbC (avs := [_]) true rfl qaP rfl rfl (AC_rnE 3 77 (qcA 5 l (by omega) hle hlw)) (fun _ => rfl) rfl) rfl (qar (qam (l := 77) rfl (by decide) (noL hL _) rfl rfl) ?_))))
          refine zN rfl rfl rfl (zN rfl rfl rfl (qc (qa (qm (ql (ql (ql (?_))))))))
          -- leaf 0T1T2T
          refine ret0 (noL hL) (.inl rfl) (qf rfl (qf rfl (qh))) ?_ ?_
          · rfl
          refine ⟨?_, rfl⟩
          rw [fitR]
          first
            | (rw [if_pos c0, if_pos hh, hvt, if_pos (hcz.2 c2)]; exact .inr rfl)
            | (rw [if_pos c0, if_pos hh, hvt, if_neg (fun hx => by have := hcz.1 hx; rw [this] at c2; cases c2)]; exact .inl ⟨_, rfl, rfl⟩)
            | (rw [if_pos c0, if_neg (by simp [hh]), ← hb1, ← hb2]; exact .inr rfl)
            | (rw [if_neg c0, if_pos hab]
               rw [htk] at hp ⊢
               refine .inr ?_
               rw [hp.2]; rfl)
            | (rw [if_neg c0, if_pos hab]
               have e : fitL d l (a.args.zip b.args) = ([], (fitR d (fitL d l ((a.args.zip b.args).take k)).1 q.1 q.2).2) := by
                 rw [if_pos c5] at hsn
                 have := qcr d ((a.args.zip b.args).take (k + 1)) ((a.args.zip b.args).drop (k + 1)) l (by rw [hsn]; exact c5)
                 rw [List.take_append_drop] at this
                 rw [this, hsn]
               rw [e]; exact .inl ⟨_, rfl, rfl⟩)
            | (rw [if_neg c0, if_neg (fun hx => by simp only [qcV, Bool.and_eq_true, decide_eq_true_eq] at hx; obtain ⟨⟨⟨_, _⟩, _⟩, _⟩ := hx; first | (simp_all; done) | omega)]; exact .inl ⟨_, rfl, rfl⟩)
            | trace_state
        try simp only [↓cqA, cqB] at c2
        refine qt (qa (qd (qb (zN rfl rfl rfl (zN rfl rfl rfl (qc (qa ?_))))))); refine qm (ql (ql (?_)))
        -- leaf 0T1T2F
        refine ret0 (noL hL) (.inl rfl) (qf rfl (qf rfl (qh))) ?_ ?_
        · rfl
        refine ⟨?_, rfl⟩
        rw [fitR]
        first
          | (rw [if_pos c0, if_pos hh, hvt, if_pos (hcz.2 c2)]; exact .inr rfl)
          | (rw [if_pos c0, if_pos hh, hvt, if_neg (fun hx => by have := hcz.1 hx; rw [this] at c2; cases c2)]; exact .inl ⟨_, rfl, rfl⟩)
          | (rw [if_pos c0, if_neg (by simp [hh]), ← hb1, ← hb2]; exact .inr rfl)
          | (rw [if_neg c0, if_pos hab]
             rw [htk] at hp ⊢
             refine .inr ?_
             rw [hp.2]; rfl)
          | (rw [if_neg c0, if_pos hab]
             have e : fitL d l (a.args.zip b.args) = ([], (fitR d (fitL d l ((a.args.zip b.args).take k)).1 q.1 q.2).2) := by
               rw [if_pos c5] at hsn
               have := qcr d ((a.args.zip b.args).take (k + 1)) ((a.args.zip b.args).drop (k + 1)) l (by rw [hsn]; exact c5)
               rw [List.take_append_drop] at this
               rw [this, hsn]
             rw [e]; exact .inl ⟨_, rfl, rfl⟩)
          | (rw [if_neg c0, if_neg (fun hx => by simp only [qcV, Bool.and_eq_true, decide_eq_true_eq] at hx; obtain ⟨⟨⟨_, _⟩, _⟩, _⟩ := hx; first | (simp_all; done) | omega)]; exact .inl ⟨_, rfl, rfl⟩)
          | trace_state
      try simp only [↓cqA, cqB] at c1
      have hh : hasB l a.name = false := by
        cases hc : hasB l a.name with
        | false => rfl
        | true => have := hat.2 hc; omega
      obtain ⟨hb1, hb2⟩ := both_one (t := b) hl hh
      refine qt (qa (qd (qb (zM rfl rfl rfl (zA rfl (qg rfl qad rfl) (zA rfl (qr rfl qT rfl rfl rfl rfl rfl) (zA rfl (qw rfl qi rfl rfl rfl rfl) ?_)))))))
      refine zA rfl (qbx rfl qaD rfl qcU rfl rfl) (qz rfl rfl (by decide) (qS 35 rfl qp qaD rfl rfl (by decide) (by decide) (by decide) rfl rfl rfl) rfl (qbA 35 false 1 rfl rfl rfl rfl ?_))
      refine qC (avs := [_, _]) true rfl rfl rfl (by decide) en_almagestref1_Join rfl rfl (rJoin_ok l [⟨a.name, b⟩] hl.gb.bok (one_bok ha.2.1 hb hm)) rfl rfl (zA rfl (qY rfl rfl rfl) (zA rfl (qY rfl rfl rfl) (zN rfl rfl rfl (zN rfl rfl rfl (qc (qa (qm ?_))))))); refine ql (?_)
      -- leaf 0T1F
      refine ret0 (noL hL) (.inl rfl) (qf rfl (qf rfl (qh))) ?_ ?_
      · rfl
      refine ⟨?_, rfl⟩
      rw [fitR]
      first
        | (rw [if_pos c0, if_pos hh, hvt, if_pos (hcz.2 c2)]; exact .inr rfl)
        | (rw [if_pos c0, if_pos hh, hvt, if_neg (fun hx => by have := hcz.1 hx; rw [this] at c2; cases c2)]; exact .inl ⟨_, rfl, rfl⟩)
        | (rw [if_pos c0, if_neg (by simp [hh]), ← hb1, ← hb2]; exact .inr rfl)
        | (rw [if_neg c0, if_pos hab]
           rw [htk] at hp ⊢
           refine .inr ?_
           rw [hp.2]; rfl)
        | (rw [if_neg c0, if_pos hab]
           have e : fitL d l (a.args.zip b.args) = ([], (fitR d (fitL d l ((a.args.zip b.args).take k)).1 q.1 q.2).2) := by
             rw [if_pos c5] at hsn
             have := qcr d ((a.args.zip b.args).take (k + 1)) ((a.args.zip b.args).drop (k + 1)) l (by rw [hsn]; exact c5)
             rw [List.take_append_drop] at this
             rw [this, hsn]
           rw [e]; exact .inl ⟨_, rfl, rfl⟩)
        | (rw [if_neg c0, if_neg (fun hx => by simp only [qcV, Bool.and_eq_true, decide_eq_true_eq] at hx; obtain ⟨⟨⟨_, _⟩, _⟩, _⟩ := hx; first | (simp_all; done) | omega)]; exact .inl ⟨_, rfl, rfl⟩)
        | trace_state
    try simp only [↓cqA, cqB] at c0
    refine qt (qa (qd (qd (qb (zA rfl (qg rfl q9 rfl) (zA rfl (qr rfl qay rfl rfl rfl rfl rfl) (zA rfl (qg rfl q9 rfl) ?_))))))); refine zA rfl (qr rfl qay rfl rfl rfl rfl rfl) ?_
    refine zA rfl (qn rfl rfl rfl rfl) (zM rfl rfl rfl (qA 44 rfl (fun g44 => ?_) (fun g44 => ?_)))
    · try simp only [↓cqA, cqB] at g44
      refine zS rfl rfl rfl rfl (zS rfl rfl rfl rfl (zS rfl rfl rfl rfl (zS rfl rfl rfl rfl (zS rfl rfl rfl rfl (zA rfl (qj rfl rfl rfl) ?_)))))
      refine zM rfl rfl rfl (zS rfl rfl rfl rfl (zS rfl rfl rfl rfl (zS rfl rfl rfl rfl (zS rfl rfl rfl rfl (zS rfl rfl rfl rfl ?_)))))
      refine zA rfl (qj rfl rfl rfl) (zM rfl rfl rfl (zS rfl rfl rfl rfl (zS rfl rfl rfl rfl (zS rfl rfl rfl rfl (zS rfl rfl rfl rfl ?_)))))
      refine zS rfl rfl rfl rfl (zS rfl rfl rfl rfl (zS rfl rfl rfl rfl (zA rfl (qj rfl rfl rfl) (qc (qa (qaj rfl (qd ?_))))))); refine qb (zN rfl rfl rfl (zN rfl rfl rfl (qc (qa (qm (ql (?_)))))))
      -- leaf 0Fg44T
      refine ret0 (noL hL) (.inl rfl) (qf rfl (qf rfl (qh))) ?_ ?_
      · rfl
      refine ⟨?_, rfl⟩
      rw [fitR]
      first
        | (rw [if_pos c0, if_pos hh, hvt, if_pos (hcz.2 c2)]; exact .inr rfl)
        | (rw [if_pos c0, if_pos hh, hvt, if_neg (fun hx => by have := hcz.1 hx; rw [this] at c2; cases c2)]; exact .inl ⟨_, rfl, rfl⟩)
        | (rw [if_pos c0, if_neg (by simp [hh]), ← hb1, ← hb2]; exact .inr rfl)
        | (rw [if_neg c0, if_pos hab]
           rw [htk] at hp ⊢
           refine .inr ?_
           rw [hp.2]; rfl)
        | (rw [if_neg c0, if_pos hab]
           have e : fitL d l (a.args.zip b.args) = ([], (fitR d (fitL d l ((a.args.zip b.args).take k)).1 q.1 q.2).2) := by
             rw [if_pos c5] at hsn
             have := qcr d ((a.args.zip b.args).take (k + 1)) ((a.args.zip b.args).drop (k + 1)) l (by rw [hsn]; exact c5)
             rw [List.take_append_drop] at this
             rw [this, hsn]
           rw [e]; exact .inl ⟨_, rfl, rfl⟩)
        | (rw [if_neg c0, if_neg (fun hx => by simp only [qcV, Bool.and_eq_true, decide_eq_true_eq] at hx; obtain ⟨⟨⟨_, _⟩, _⟩, _⟩ := hx; first | (simp_all; done) | omega)]; exact .inl ⟨_, rfl, rfl⟩)
        | trace_state
    try simp only [↓cqA, cqB] at g44
    refine zG rfl rfl rfl rfl (qg rfl qaB rfl) (zG rfl rfl rfl rfl (qr rfl qay rfl rfl rfl rfl rfl) (zG rfl rfl rfl rfl (qg rfl qaB rfl) (zG rfl rfl rfl rfl (qr rfl qay rfl rfl rfl rfl rfl) ?_)))
    refine zG rfl rfl rfl rfl (qn rfl rfl rfl rfl) (zA rfl (qj rfl rfl rfl) (zM rfl rfl rfl (qA 51 rfl (fun g51 => ?_) (fun g51 => ?_))))
    · try simp only [↓cqA, cqB] at g51
      refine zS rfl rfl rfl rfl (zS rfl rfl rfl rfl (zS rfl rfl rfl rfl (zS rfl rfl rfl rfl (zS rfl rfl rfl rfl (zA rfl (qj rfl rfl rfl) ?_)))))
      refine zM rfl rfl rfl (zS rfl rfl rfl rfl (zS rfl rfl rfl rfl (zS rfl rfl rfl rfl (zS rfl rfl rfl rfl (zS rfl rfl rfl rfl ?_)))))
      refine zS rfl rfl rfl rfl (zS rfl rfl rfl rfl (zA rfl (qj rfl rfl rfl) (qc (qa (qaj rfl (qd (qb ?_))))))); refine zN rfl rfl rfl (zN rfl rfl rfl (qc (qa (qm (ql (?_))))))
      -- leaf 0Fg44Fg51T
      refine ret0 (noL hL) (.inl rfl) (qf rfl (qf rfl (qh))) ?_ ?_
      · rfl
      refine ⟨?_, rfl⟩
      rw [fitR]
      first
        | (rw [if_pos c0, if_pos hh, hvt, if_pos (hcz.2 c2)]; exact .inr rfl)
        | (rw [if_pos c0, if_pos hh, hvt, if_neg (fun hx => by have := hcz.1 hx; rw [this] at c2; cases c2)]; exact .inl ⟨_, rfl, rfl⟩)
        | (rw [if_pos c0, if_neg (by simp [hh]), ← hb1, ← hb2]; exact .inr rfl)
        | (rw [if_neg c0, if_pos hab]
           rw [htk] at hp ⊢
           refine .inr ?_
           rw [hp.2]; rfl)
        | (rw [if_neg c0, if_pos hab]
           have e : fitL d l (a.args.zip b.args) = ([], (fitR d (fitL d l ((a.args.zip b.args).take k)).1 q.1 q.2).2) := by
             rw [if_pos c5] at hsn
             have := qcr d ((a.args.zip b.args).take (k + 1)) ((a.args.zip b.args).drop (k + 1)) l (by rw [hsn]; exact c5)
             rw [List.take_append_drop] at this
             rw [this, hsn]
           rw [e]; exact .inl ⟨_, rfl, rfl⟩)
        | (rw [if_neg c0, if_neg (fun hx => by simp only [qcV, Bool.and_eq_true, decide_eq_true_eq] at hx; obtain ⟨⟨⟨_, _⟩, _⟩, _⟩ := hx; first | (simp_all; done) | omega)]; exact .inl ⟨_, rfl, rfl⟩)
        | trace_state
    try simp only [↓cqA, cqB] at g51
    refine zG rfl rfl rfl rfl (qg rfl qad rfl) (zG rfl rfl rfl rfl (qr rfl qT rfl rfl rfl rfl rfl) (zG rfl rfl rfl rfl (qg rfl qad rfl) (zG rfl rfl rfl rfl (qr rfl qT rfl rfl rfl rfl rfl) ?_)))
    refine zG rfl rfl rfl rfl (qbn rfl rfl rfl rfl) (zA rfl (qj rfl rfl rfl) (zM rfl rfl rfl (qA 58 rfl (fun g58 => ?_) (fun g58 => ?_))))
    · try simp only [↓cqA, cqB] at g58
      refine zS rfl rfl rfl rfl (zS rfl rfl rfl rfl (zS rfl rfl rfl rfl (zS rfl rfl rfl rfl (zS rfl rfl rfl rfl (zS rfl rfl rfl rfl ?_)))))
      refine zS rfl rfl rfl rfl (zA rfl (qj rfl rfl rfl) (qc (qa (qaj rfl (qd (qb (zN rfl rfl rfl ?_))))))); refine zN rfl rfl rfl (qc (qa (qm (ql (?_)))))
      -- leaf 0Fg44Fg51Fg58T
      refine ret0 (noL hL) (.inl rfl) (qf rfl (qf rfl (qh))) ?_ ?_
      · rfl
      refine ⟨?_, rfl⟩
      rw [fitR]
      first
        | (rw [if_pos c0, if_pos hh, hvt, if_pos (hcz.2 c2)]; exact .inr rfl)
        | (rw [if_pos c0, if_pos hh, hvt, if_neg (fun hx => by have := hcz.1 hx; rw [this] at c2; cases c2)]; exact .inl ⟨_, rfl, rfl⟩)
        | (rw [if_pos c0, if_neg (by simp [hh]), ← hb1, ← hb2]; exact .inr rfl)
        | (rw [if_neg c0, if_pos hab]
           rw [htk] at hp ⊢
           refine .inr ?_
           rw [hp.2]; rfl)
        | (rw [if_neg c0, if_pos hab]
           have e : fitL d l (a.args.zip b.args) = ([], (fitR d (fitL d l ((a.args.zip b.args).take k)).1 q.1 q.2).2) := by
             rw [if_pos c5] at hsn
             have := qcr d ((a.args.zip b.args).take (k + 1)) ((a.args.zip b.args).drop (k + 1)) l (by rw [hsn]; exact c5)
             rw [List.take_append_drop] at this
             rw [this, hsn]
           rw [e]; exact .inl ⟨_, rfl, rfl⟩)
        | (rw [if_neg c0, if_neg (fun hx => by simp only [qcV, Bool.and_eq_true, decide_eq_true_eq] at hx; obtain ⟨⟨⟨_, _⟩, _⟩, _⟩ := hx; first | (simp_all; done) | omega)]; exact .inl ⟨_, rfl, rfl⟩)
        | trace_state
    try simp only [↓cqA, cqB] at g58
    refine zG rfl rfl rfl rfl (qg rfl qJ rfl) (zG rfl rfl rfl rfl (qr rfl qF rfl rfl rfl rfl rfl) (zG rfl rfl rfl rfl (qy rfl qv rfl) (zG rfl rfl rfl rfl (qg rfl qJ rfl) (zG rfl rfl rfl rfl (qr rfl qF rfl rfl rfl rfl rfl) ?_))))
    refine zG rfl rfl rfl rfl (qy rfl qv rfl) (zG rfl rfl rfl rfl (qn rfl rfl rfl rfl) (zA rfl (qj rfl rfl rfl) (qc (qa (qu rfl (fun c3 => ?_) (fun c3 => ?_))))))
    · try simp only [↓cqA, cqB] at c3
      refine qd (qb (zN rfl rfl rfl (zN rfl rfl rfl (qc (qa (qm (ql (?_))))))))
      -- leaf 0Fg44Fg51Fg58F3T
      refine ret0 (noL hL) (.inl rfl) (qf rfl (qf rfl (qh))) ?_ ?_
      · rfl
      refine ⟨?_, rfl⟩
      rw [fitR]
      first
        | (rw [if_pos c0, if_pos hh, hvt, if_pos (hcz.2 c2)]; exact .inr rfl)
        | (rw [if_pos c0, if_pos hh, hvt, if_neg (fun hx => by have := hcz.1 hx; rw [this] at c2; cases c2)]; exact .inl ⟨_, rfl, rfl⟩)
        | (rw [if_pos c0, if_neg (by simp [hh]), ← hb1, ← hb2]; exact .inr rfl)
        | (rw [if_neg c0, if_pos hab]
           rw [htk] at hp ⊢
           refine .inr ?_
           rw [hp.2]; rfl)
        | (rw [if_neg c0, if_pos hab]
           have e : fitL d l (a.args.zip b.args) = ([], (fitR d (fitL d l ((a.args.zip b.args).take k)).1 q.1 q.2).2) := by
             rw [if_pos c5] at hsn
             have := qcr d ((a.args.zip b.args).take (k + 1)) ((a.args.zip b.args).drop (k + 1)) l (by rw [hsn]; exact c5)
             rw [List.take_append_drop] at this
             rw [this, hsn]
           rw [e]; exact .inl ⟨_, rfl, rfl⟩)
        | (rw [if_neg c0, if_neg (fun hx => by simp only [qcV, Bool.and_eq_true, decide_eq_true_eq] at hx; obtain ⟨⟨⟨_, _⟩, _⟩, _⟩ := hx; first | (simp_all; done) | omega)]; exact .inl ⟨_, rfl, rfl⟩)
        | trace_state
    try simp only [↓cqA, cqB] at c3
    have hab : qcV a b = true := by
      simp only [qcV, Bool.and_eq_true, decide_eq_true_eq]
      refine ⟨⟨⟨?_, ?_⟩, ?_⟩, ?_⟩ <;> first | assumption | omega
    have hzl : (a.args.zip b.args).length = a.args.length := by
      have : a.args.length = b.args.length := by omega
      rw [List.length_zip]; omega
    have hzp : ∀ p ∈ a.args.zip b.args, p.1.shp ∧ p.1.wf ∧ mayT p.2 = true ∧ p.2.wf ∧ Gr p.2 := fun p hp => by
      have := List.of_mem_zip hp
      exact ⟨hs.arg this.1, Tm.wfs_mem ha.2.2.2.2 this.1, may_arg hm this.2, Tm.wfs_mem hb.2.2.2.2 this.2, hg.arg this.2⟩
    refine qt (qa (qd (qd (qb (zN rfl rfl rfl (qc (qa ?_))))))); refine qB (qV (a.args.length) (fun k => k ≤ a.args.length ∧ (fitL d l ((a.args.zip b.args).take k)).2 = 0) (fun k => ⟨[(0, bdA (fitL d l ((a.args.zip b.args).take k)).1), (4, .ptr 4 0), (5, .ptr 5 0), (9, iv (k : Int))], [(4, .box (lift false (tmD a))), (5, .box (lift false (tmD b)))]⟩) (⟨by omega, by rw [List.take_zero, fitL]⟩) ?_ (fun k hk hp => ?_))
    · exact qI (SubT.cons (qbg rfl (by rw [List.take_zero, fitL])) (SubT.cons (zT rfl) (SubT.cons (zT rfl) (SubT.cons (zT rfl) (SubT.nil))))) (SubO.cons (qag rfl (by rfl)) (SubO.cons (qag rfl (by rfl)) (SubO.nil))) rfl rfl (noL' (noL hL) _)
    have hgg : GG (fitL d l ((a.args.zip b.args).take k)).1 := (fits_spec d _ l hl (fun p hp => hzp p (List.mem_of_mem_take hp)) hp.2).1.gg
    refine qd (qd (qb (zM rfl rfl rfl (zA rfl (qg rfl qJ rfl) (zA rfl (qr rfl qF rfl rfl rfl rfl rfl) (zA rfl (qy rfl qv rfl) (zA rfl (qn rfl rfl rfl rfl) ?_))))))); refine qc (qa (qu rfl (fun c4 => ?_) (fun c4 => ?_)))
    · try simp only [↓cqA, cqB] at c4
      obtain ⟨q, hq⟩ := qK (l := a.args.zip b.args) (k := k) (by omega)
      have hqm := hzp q (List.mem_of_getElem? hq)
      have hqz := List.of_mem_zip (List.mem_of_getElem? hq)
      have hqg := List.getElem?_zip_eq_some.1 hq
      have hsn := fitL_snoc d q ((a.args.zip b.args).take k) l hp.2
      rw [← qah hq] at hsn
      refine qt (qa (qd (qB (qd (q8 16 qbd rfl rfl rfl rfl (qe rfl (by decide) (.run rfl (qk (.inl rfl) rfl)) (qe rfl (by decide) (.run rfl (qg rfl qJ rfl)) ?_))))))); refine qe rfl (by decide) (.run rfl (qr rfl qF rfl rfl rfl rfl rfl)) (qe rfl (by decide) (.run rfl (qk (.inl rfl) rfl)) (qe rfl (by decide) (.run rfl (qo rfl qv rfl rfl (by omega) (qax hqg.1))) ?_))
      refine qe rfl (by decide) (.run rfl (qD rfl qi rfl rfl)) (qe rfl (by decide) (.run rfl (qg rfl qJ rfl)) (qe rfl (by decide) (.run rfl (qr rfl qF rfl rfl rfl rfl rfl)) (qe rfl (by decide) (.run rfl (qk (.inl rfl) rfl)) (qe rfl (by decide) (.run rfl (qo rfl qv rfl rfl (by omega) (qax hqg.2))) (qe rfl (by decide) (.run rfl (qD rfl qi rfl rfl)) ?_)))))
      refine qe rfl (by decide) (.run rfl (qN (avs := [_, _, _]) true rfl en_almagestref1_Match rfl rfl (rMatch_ok d (fitL d l ((a.args.zip b.args).take k)).1 q.1 q.2 (h q.1 hqz.1) hqm.1 hqm.2.1 hgg hqm.2.2.2.1 hqm.2.2.1 hqm.2.2.2.2) (fun _ => rfl) rfl)) (qe rfl (by decide) (.run rfl (qk (.inl rfl) rfl)) ?_)
      refine qe rfl (by decide) (.run rfl (qY rfl rfl rfl)) (qe rfl (by decide) (.run rfl (qY rfl rfl rfl)) (qe rfl (by decide) (.run rfl (qk (.inr rfl) rfl)) (qau ⟨rfl, rfl, ?_⟩))); refine zN rfl rfl rfl (qc (qa (qd (qd ?_))))
      refine qb (zM rfl rfl rfl (zA rfl (qn rfl rfl rfl rfl) (qc (qa (qu rfl (fun c5 => ?_) (fun c5 => ?_))))))
      · try simp only [↓cqA, cqB] at c5
        refine qd (qb (zM rfl rfl rfl (zN rfl rfl rfl (zN rfl rfl rfl (qc (qa (qm ?_))))))); refine ql (qL (ql (ql (qL (ql (?_))))))
        -- leaf 0Fg44Fg51Fg58F3F4T5T
        refine ret0 (noL hL) (.inl rfl) (qf rfl (qf rfl (qh))) ?_ ?_
        · rfl
        refine ⟨?_, rfl⟩
        rw [fitR]
        first
          | (rw [if_pos c0, if_pos hh, hvt, if_pos (hcz.2 c2)]; exact .inr rfl)
          | (rw [if_pos c0, if_pos hh, hvt, if_neg (fun hx => by have := hcz.1 hx; rw [this] at c2; cases c2)]; exact .inl ⟨_, rfl, rfl⟩)
          | (rw [if_pos c0, if_neg (by simp [hh]), ← hb1, ← hb2]; exact .inr rfl)
          | (rw [if_neg c0, if_pos hab]
             rw [htk] at hp ⊢
             refine .inr ?_
             rw [hp.2]; rfl)
          | (rw [if_neg c0, if_pos hab]
             have e : fitL d l (a.args.zip b.args) = ([], (fitR d (fitL d l ((a.args.zip b.args).take k)).1 q.1 q.2).2) := by
               rw [if_pos c5] at hsn
               have := qcr d ((a.args.zip b.args).take (k + 1)) ((a.args.zip b.args).drop (k + 1)) l (by rw [hsn]; exact c5)
               rw [List.take_append_drop] at this
               rw [this, hsn]
             rw [e]; exact .inl ⟨_, rfl, rfl⟩)
          | (rw [if_neg c0, if_neg (fun hx => by simp only [qcV, Bool.and_eq_true, decide_eq_true_eq] at hx; obtain ⟨⟨⟨_, _⟩, _⟩, _⟩ := hx; first | (simp_all; done) | omega)]; exact .inl ⟨_, rfl, rfl⟩)
          | trace_state
      try simp only [↓cqA, cqB] at c5
      rw [if_neg (by simp [c5])] at hsn
      refine qt (qa (qbb (qcK hQ) (qb (zM rfl rfl rfl (zN rfl rfl rfl (qc (qP ?_))))))); refine qa (qb (zM rfl rfl rfl (zA rfl (qM rfl rfl rfl (by omega)) (zN rfl rfl rfl (qc (qa ?_)))))); refine ⟨?_, ?_, ?_⟩
      · skip
        omega
      · skip
        exact ⟨by omega, by rw [hsn]⟩
      exact qI (SubT.cons (qbg rfl (by rw [hsn]; rfl)) (SubT.cons (zT rfl) (SubT.cons (zT rfl) (SubT.cons (zT rfl) (SubT.nil))))) (SubO.cons (qag rfl (by rfl)) (SubO.cons (qag rfl (by rfl)) (SubO.nil))) rfl rfl (noL' (noL hL) _)
    try simp only [↓cqA, cqB] at c4
    refine qQ (qq (qq (q7 ?_))); refine qa (qd ?_)
    have hgb := hgg.gb
    have htk : (a.args.zip b.args).take k = a.args.zip b.args := List.take_of_length_le (by omega)
    refine qb ?_; refine zM rfl rfl rfl ?_; refine qbt rfl rfl (by decide) (qbC (avs := [_]) true rfl qaP rfl rfl (AC_rnE 3 77 (qcA 5 _ (by have := hgb.len; omega) (fun x hx => qao (hgb.el x hx).2.2) (fun x hx => (hgb.el x hx).1))) (fun _ => rfl) rfl) rfl ?_
    refine qar (qam (l := 77) rfl (by decide) (noL hL _) rfl rfl) (zN rfl rfl rfl (zN rfl rfl rfl (qc (qa (qm ?_)))))
    -- leaf 0Fg44Fg51Fg58F3F4F
    refine ret0 (noL hL) (.inl rfl) (qf rfl (qf rfl (qh))) ?_ ?_
    · rfl
    refine ⟨?_, rfl⟩
    rw [fitR]
    first
      | (rw [if_pos c0, if_pos hh, hvt, if_pos (hcz.2 c2)]; exact .inr rfl)
      | (rw [if_pos c0, if_pos hh, hvt, if_neg (fun hx => by have := hcz.1 hx; rw [this] at c2; cases c2)]; exact .inl ⟨_, rfl, rfl⟩)
      | (rw [if_pos c0, if_neg (by simp [hh]), ← hb1, ← hb2]; exact .inr rfl)
      | (rw [if_neg c0, if_pos hab]
         rw [htk] at hp ⊢
         refine .inr ?_
         rw [hp.2]; rfl)
      | (rw [if_neg c0, if_pos hab]
         have e : fitL d l (a.args.zip b.args) = ([], (fitR d (fitL d l ((a.args.zip b.args).take k)).1 q.1 q.2).2) := by
           rw [if_pos c5] at hsn
           have := qcr d ((a.args.zip b.args).take (k + 1)) ((a.args.zip b.args).drop (k + 1)) l (by rw [hsn]; exact c5)
           rw [List.take_append_drop] at this
           rw [this, hsn]
         rw [e]; exact .inl ⟨_, rfl, rfl⟩)
      | (rw [if_neg c0, if_neg (fun hx => by simp only [qcV, Bool.and_eq_true, decide_eq_true_eq] at hx; obtain ⟨⟨⟨_, _⟩, _⟩, _⟩ := hx; first | (simp_all; done) | omega)]; exact .inl ⟨_, rfl, rfl⟩)
      | trace_state
end Go.Proofs.YtdecgkhdbfgldaaGreat

set_option linter.unusedVariables false
set_option linter.unusedSimpArgs false
set_option maxRecDepth 8000
namespace Go.Proofs.YtdecgkhdbfgldaaGreat
open Go
theorem rAtoms_ok (l : List Tm) (hl : qbD l) (hw : Tm.wfs l) : PF 174 [.dat false 4 (tmDs l)] (bv (qbq l)) := by
  have hlen := qaa l
  simp only [qbD] at hl
  refine qG Tryz.func174 rfl Tryz.ntmps174 (Nat.le_of_ble_eq_true rfl) fun c hL hQ hDD => (qd (qb (zN rfl rfl rfl (qc (qa (qd (qd ?_))))))); refine qb (zN rfl rfl rfl (qc ?_))
  refine qa (qB (qV (61) (fun k => k ≤ l.length ∧ k ≤ 61 ∧ ∀ j, j < k → qbi l j = true) (fun k => ⟨[(0, .dat false 4 (tmDs l)), (3, iv (k : Int))], []⟩) (⟨by omega, by omega, fun j hj => absurd hj (by omega)⟩) ?_ (fun k hk hp => ?_)))
  · exact qI (SubT.cons (zT rfl) (SubT.cons (zT rfl) (SubT.nil))) (SubO.nil) rfl rfl (noL' (noL hL) _)
  refine qd (qd (qb (zM rfl rfl rfl (zM rfl rfl rfl (zA rfl (qy rfl qv rfl) (zA rfl (qn rfl rfl rfl rfl) (zM rfl rfl rfl ?_))))))); refine qA 8 rfl (fun g8 => ?_) (fun g8 => ?_)
  · try simp only [↓cqA, cqB] at g8
    refine zG rfl rfl rfl rfl (qk (.inl rfl) rfl) (zG rfl rfl rfl rfl (qn rfl rfl rfl rfl) (zA rfl (qj rfl rfl rfl) (qc (qa (qu rfl (fun c0 => ?_) (fun c0 => ?_))))))
    · try simp only [↓cqA, cqB] at c0
      obtain ⟨u, hu⟩ := qK (l := l) (k := k) (by omega)
      have huw := Tm.wfs_get hw hu
      refine qt (qa (qd (qB (qd ?_))))
      rcases Bool.eq_false_or_eq_true (mayT u) with l18 | l18
      · have m18 := l18
        try simp only [↓cqA, cqB] at m18
        rcases Bool.eq_false_or_eq_true (qda u) with l25 | l25
        · have m25 := l25
          try simp only [↓cqA, cqB] at m25
          rcases Bool.eq_false_or_eq_true (qbh u) with l33 | l33
          · have m33 := l33
            try simp only [↓cqA, cqB] at m33
            rcases Bool.eq_false_or_eq_true (decide ((k : Int) > 0)) with l38 | l38
            · have m38 := l38
              try simp only [↓cqA, cqB] at m38
              obtain ⟨v, hv⟩ := qK (l := l) (k := ((k : Int) - 1).toNat) (by omega)
              have hv2 : l[k - 1]? = some v := by rw [show k - 1 = ((k : Int) - 1).toNat by omega]; exact hv
              have hvw := Tm.wfs_get hw hv
              have hvk := hp.2.2 (k - 1) (by omega)
              have hvm : mayT v = true := by
                simp only [qbi, hv2, Bool.and_eq_true] at hvk
                exact hvk.1.1.1
              have hke : qbi l k = decide (ordT 5 v u < 0) := by
                simp only [qbi, hu, hv2]
                rw [cmp_ord 5 v u (qao hvm) (qby hvm) (qby m18)]
                simp [m18, m25, m33, show ¬ k = 0 by omega]
              refine q8 35 qbd rfl rfl rfl rfl (qe rfl (by decide) (.run rfl (qk (.inl rfl) rfl)) (qe rfl (by decide) (.run rfl (qk (.inl rfl) rfl)) (qe rfl (by decide) (.run rfl (qo rfl qv rfl rfl (by omega) (qax hu))) (qe rfl (by decide) (.run rfl (qD rfl qi rfl rfl)) ?_))))
              refine qe rfl (by decide) (.run rfl (qN (avs := [_]) true rfl qaK rfl rfl (by have hh := qc8 u huw; rw [l18] at hh; exact hh) (fun _ => rfl) rfl)) ?_; refine qe rfl (by decide) (.run rfl (qU rfl rfl)) ?_; refine qe rfl (by decide) (.run rfl (qk (.inl rfl) rfl)) ?_; refine qe rfl (by decide) (.want rfl rfl rfl (by decide) (qk (.inl rfl) rfl)) ?_; refine qe rfl (by decide) (.want rfl rfl rfl (by decide) (qk (.inl rfl) rfl)) ?_
              refine qe rfl (by decide) (.want rfl rfl rfl (by decide) (qo rfl qv rfl rfl (by omega) (qax hu))) (qe rfl (by decide) (.want rfl rfl rfl (by decide) (qD rfl qi rfl rfl)) ?_)
              refine qe rfl (by decide) (.want rfl rfl rfl (by decide) (qN (avs := [_]) true rfl qbm rfl rfl (by have hh := rAtom_ok u (qa6 m18).1 huw; rw [l25] at hh; exact hh) (fun _ => rfl) rfl)) ?_; refine qe rfl (by decide) (.want rfl rfl rfl (by decide) (qU rfl rfl)) ?_; refine qe rfl (by decide) (.run rfl (qj rfl rfl rfl)) ?_
              refine qe rfl (by decide) (.run rfl (qk (.inl rfl) rfl)) (qe rfl (by decide) (.want rfl rfl rfl (by decide) (qk (.inl rfl) rfl)) (qe rfl (by decide) (.want rfl rfl rfl (by decide) (qk (.inl rfl) rfl)) (qe rfl (by decide) (.want rfl rfl rfl (by decide) (qo rfl qv rfl rfl (by omega) (qax hu))) (qe rfl (by decide) (.want rfl rfl rfl (by decide) (qD rfl qi rfl rfl)) ?_))))
              refine qe rfl (by decide) (.want rfl rfl rfl (by decide) (qN (avs := [_]) true rfl qa3 rfl rfl (by have hh := rGround_ok u huw m18; rw [l33] at hh; exact hh) (fun _ => rfl) rfl)) ?_; refine qe rfl (by decide) (.want rfl rfl rfl (by decide) (qU rfl rfl)) ?_; refine qe rfl (by decide) (.run rfl (qj rfl rfl rfl)) ?_
              refine qe rfl (by decide) (.run rfl (qk (.inl rfl) rfl)) (qe rfl (by decide) (.want rfl rfl rfl (by decide) (qk (.inl rfl) rfl)) (qe rfl (by decide) (.want rfl rfl rfl (by decide) (qn (r := .bool true) rfl rfl rfl (congrArg (fun b => some (Value.bool b)) l38))) ?_))
              refine qe rfl (by decide) (.want rfl rfl rfl (by decide) (qk (.inl rfl) rfl)) (qe rfl (by decide) (.want rfl rfl rfl (by decide) (qk (.inl rfl) rfl)) (qe rfl (by decide) (.want rfl rfl rfl (by decide) (qk (.inl rfl) rfl)) (qe rfl (by decide) (.want rfl rfl rfl (by decide) (stp_sub rfl rfl rfl (by omega))) (qe rfl (by decide) (.want rfl rfl rfl (by decide) (qo rfl qv rfl rfl (by omega) (qax hv))) ?_))))
              refine qe rfl (by decide) (.want rfl rfl rfl (by decide) (qD rfl qi rfl rfl)) (qe rfl (by decide) (.want rfl rfl rfl (by decide) (qk (.inl rfl) rfl)) (qe rfl (by decide) (.want rfl rfl rfl (by decide) (qk (.inl rfl) rfl)) (qe rfl (by decide) (.want rfl rfl rfl (by decide) (qo rfl qv rfl rfl (by omega) (qax hu))) (qe rfl (by decide) (.want rfl rfl rfl (by decide) (qD rfl qi rfl rfl)) ?_))))
              refine qau ⟨rfl, rfl, ?_⟩; refine zG rfl rfl rfl rfl (qN (avs := [_, _]) true rfl qcu rfl rfl (Order_ok 5 v u (qa6 hvm).1 hvw huw) (fun _ => rfl) rfl) (zG rfl rfl rfl rfl (qn rfl rfl rfl rfl) (zG rfl rfl rfl rfl (qj rfl rfl rfl) (zA rfl (qj rfl rfl rfl) (qc (qa (qu rfl (fun c1 => ?_) (fun c1 => ?_)))))))
              · try simp only [↓cqA, cqB] at c1
                refine qd (qb (zN rfl rfl rfl (qc (qa (qm (qL (ql (ql (qL (ql (?_)))))))))))
                -- leaf g8T0Tl18Tl25Tl33Tl38T1T
                refine ret0 (noL hL) (.inl rfl) (qf rfl (qh)) ?_ ?_
                · rfl
                refine ⟨qW ?_, rfl⟩
                first
                  | (have hno : qbi l k = false := by
                       first
                         | exact hbad
                         | (rw [hke]; simp; omega)
                     have : (List.range l.length).all (qbi l) = false := List.all_eq_false.2 ⟨k, List.mem_range.2 (by omega), by simp [hno]⟩
                     rw [qbq, this, Bool.and_false])
                  | (rw [qbq]
                     by_cases h60 : l.length ≤ 60
                     · have : (List.range l.length).all (qbi l) = true := List.all_eq_true.2 fun j hj => hp.2.2 j (by have := List.mem_range.1 hj; omega)
                       rw [this, decide_eq_true h60, decide_eq_true (by omega)]; rfl
                     · rw [decide_eq_false h60, decide_eq_false (by omega)]; rfl)
              try simp only [↓cqA, cqB] at c1
              refine qt (qP (qa (qb (zM rfl rfl rfl (zA rfl (qM rfl rfl rfl (by omega)) (zN rfl rfl rfl (qc ?_))))))); refine qa ?_; refine ⟨?_, ?_, ?_⟩
              · skip
                omega
              · skip
                refine ⟨by omega, by omega, fun j hj => ?_⟩
                by_cases hjk : j < k
                · exact hp.2.2 j hjk
                · rw [show j = k by omega]
                  first
                    | exact hgood
                    | (rw [hke]; simp; omega)
              exact qI (SubT.cons (zT rfl) (SubT.cons (zT rfl) (SubT.nil))) (SubO.nil) rfl rfl (noL' (noL hL) _)
            have m38 := l38
            try simp only [↓cqA, cqB] at m38
            have hgood : qbi l k = true := by
              have h0 : k = 0 := by omega
              simp only [qbi, hu]; simp [m18, m25, m33, h0]
            refine q8 35 qbd rfl rfl rfl rfl (qe rfl (by decide) (.run rfl (qk (.inl rfl) rfl)) (qe rfl (by decide) (.run rfl (qk (.inl rfl) rfl)) (qe rfl (by decide) (.run rfl (qo rfl qv rfl rfl (by omega) (qax hu))) (qe rfl (by decide) (.run rfl (qD rfl qi rfl rfl)) ?_))))
            refine qe rfl (by decide) (.run rfl (qN (avs := [_]) true rfl qaK rfl rfl (by have hh := qc8 u huw; rw [l18] at hh; exact hh) (fun _ => rfl) rfl)) ?_; refine qe rfl (by decide) (.run rfl (qU rfl rfl)) ?_; refine qe rfl (by decide) (.run rfl (qk (.inl rfl) rfl)) ?_; refine qe rfl (by decide) (.want rfl rfl rfl (by decide) (qk (.inl rfl) rfl)) ?_; refine qe rfl (by decide) (.want rfl rfl rfl (by decide) (qk (.inl rfl) rfl)) ?_
            refine qe rfl (by decide) (.want rfl rfl rfl (by decide) (qo rfl qv rfl rfl (by omega) (qax hu))) (qe rfl (by decide) (.want rfl rfl rfl (by decide) (qD rfl qi rfl rfl)) ?_)
            refine qe rfl (by decide) (.want rfl rfl rfl (by decide) (qN (avs := [_]) true rfl qbm rfl rfl (by have hh := rAtom_ok u (qa6 m18).1 huw; rw [l25] at hh; exact hh) (fun _ => rfl) rfl)) ?_; refine qe rfl (by decide) (.want rfl rfl rfl (by decide) (qU rfl rfl)) ?_; refine qe rfl (by decide) (.run rfl (qj rfl rfl rfl)) ?_
            refine qe rfl (by decide) (.run rfl (qk (.inl rfl) rfl)) (qe rfl (by decide) (.want rfl rfl rfl (by decide) (qk (.inl rfl) rfl)) (qe rfl (by decide) (.want rfl rfl rfl (by decide) (qk (.inl rfl) rfl)) (qe rfl (by decide) (.want rfl rfl rfl (by decide) (qo rfl qv rfl rfl (by omega) (qax hu))) (qe rfl (by decide) (.want rfl rfl rfl (by decide) (qD rfl qi rfl rfl)) ?_))))
            refine qe rfl (by decide) (.want rfl rfl rfl (by decide) (qN (avs := [_]) true rfl qa3 rfl rfl (by have hh := rGround_ok u huw m18; rw [l33] at hh; exact hh) (fun _ => rfl) rfl)) ?_; refine qe rfl (by decide) (.want rfl rfl rfl (by decide) (qU rfl rfl)) ?_; refine qe rfl (by decide) (.run rfl (qj rfl rfl rfl)) ?_
            refine qe rfl (by decide) (.run rfl (qk (.inl rfl) rfl)) (qe rfl (by decide) (.want rfl rfl rfl (by decide) (qk (.inl rfl) rfl)) (qe rfl (by decide) (.want rfl rfl rfl (by decide) (qn (r := .bool false) rfl rfl rfl (congrArg (fun b => some (Value.bool b)) l38))) ?_))
            refine qe rfl (by decide) (.want rfl rfl rfl (by decide) (qk (.inl rfl) rfl)) (qe rfl (by decide) (.skip rfl rfl rfl (by decide) (by decide)) (qe rfl (by decide) (.skip rfl rfl rfl (by decide) (by decide)) (qe rfl (by decide) (.skip rfl rfl rfl (by decide) (by decide)) ?_)))
            refine qe rfl (by decide) (.skip rfl rfl rfl (by decide) (by decide)) (qe rfl (by decide) (.skip rfl rfl rfl (by decide) (by decide)) (qe rfl (by decide) (.skip rfl rfl rfl (by decide) (by decide)) (qe rfl (by decide) (.skip rfl rfl rfl (by decide) (by decide)) ?_)))
            refine qe rfl (by decide) (.skip rfl rfl rfl (by decide) (by decide)) (qe rfl (by decide) (.skip rfl rfl rfl (by decide) (by decide)) (qau ⟨rfl, rfl, ?_⟩)); refine zS rfl rfl rfl rfl (zS rfl rfl rfl rfl ?_)
            refine zG rfl rfl rfl rfl (qj rfl rfl rfl) (zA rfl (qj rfl rfl rfl) (qc (qa (qas rfl (qt (qP (qa ?_))))))); refine qb (zM rfl rfl rfl (zA rfl (qM rfl rfl rfl (by omega)) (zN rfl rfl rfl (qc (qa ?_))))); refine ⟨?_, ?_, ?_⟩
            · skip
              omega
            · skip
              refine ⟨by omega, by omega, fun j hj => ?_⟩
              by_cases hjk : j < k
              · exact hp.2.2 j hjk
              · rw [show j = k by omega]
                first
                  | exact hgood
                  | (rw [hke]; simp; omega)
            exact qI (SubT.cons (zT rfl) (SubT.cons (zT rfl) (SubT.nil))) (SubO.nil) rfl rfl (noL' (noL hL) _)
          have m33 := l33
          try simp only [↓cqA, cqB] at m33
          have hbad : qbi l k = false := by simp only [qbi, hu]; simp [m33]
          refine q8 35 qbd rfl rfl rfl rfl (qe rfl (by decide) (.run rfl (qk (.inl rfl) rfl)) (qe rfl (by decide) (.run rfl (qk (.inl rfl) rfl)) (qe rfl (by decide) (.run rfl (qo rfl qv rfl rfl (by omega) (qax hu))) (qe rfl (by decide) (.run rfl (qD rfl qi rfl rfl)) ?_))))
          refine qe rfl (by decide) (.run rfl (qN (avs := [_]) true rfl qaK rfl rfl (by have hh := qc8 u huw; rw [l18] at hh; exact hh) (fun _ => rfl) rfl)) ?_; refine qe rfl (by decide) (.run rfl (qU rfl rfl)) ?_; refine qe rfl (by decide) (.run rfl (qk (.inl rfl) rfl)) ?_; refine qe rfl (by decide) (.want rfl rfl rfl (by decide) (qk (.inl rfl) rfl)) ?_; refine qe rfl (by decide) (.want rfl rfl rfl (by decide) (qk (.inl rfl) rfl)) ?_
          refine qe rfl (by decide) (.want rfl rfl rfl (by decide) (qo rfl qv rfl rfl (by omega) (qax hu))) (qe rfl (by decide) (.want rfl rfl rfl (by decide) (qD rfl qi rfl rfl)) ?_)
          refine qe rfl (by decide) (.want rfl rfl rfl (by decide) (qN (avs := [_]) true rfl qbm rfl rfl (by have hh := rAtom_ok u (qa6 m18).1 huw; rw [l25] at hh; exact hh) (fun _ => rfl) rfl)) ?_; refine qe rfl (by decide) (.want rfl rfl rfl (by decide) (qU rfl rfl)) ?_; refine qe rfl (by decide) (.run rfl (qj rfl rfl rfl)) ?_
          refine qe rfl (by decide) (.run rfl (qk (.inl rfl) rfl)) (qe rfl (by decide) (.want rfl rfl rfl (by decide) (qk (.inl rfl) rfl)) (qe rfl (by decide) (.want rfl rfl rfl (by decide) (qk (.inl rfl) rfl)) (qe rfl (by decide) (.want rfl rfl rfl (by decide) (qo rfl qv rfl rfl (by omega) (qax hu))) (qe rfl (by decide) (.want rfl rfl rfl (by decide) (qD rfl qi rfl rfl)) ?_))))
          refine qe rfl (by decide) (.want rfl rfl rfl (by decide) (qN (avs := [_]) true rfl qa3 rfl rfl (by have hh := rGround_ok u huw m18; rw [l33] at hh; exact hh) (fun _ => rfl) rfl)) ?_; refine qe rfl (by decide) (.want rfl rfl rfl (by decide) (qU rfl rfl)) ?_; refine qe rfl (by decide) (.run rfl (qj rfl rfl rfl)) ?_
          refine qe rfl (by decide) (.run rfl (qk (.inl rfl) rfl)) (qe rfl (by decide) (.skip rfl rfl rfl (by decide) (by decide)) (qe rfl (by decide) (.skip rfl rfl rfl (by decide) (by decide)) (qe rfl (by decide) (.skip rfl rfl rfl (by decide) (by decide)) (qe rfl (by decide) (.skipu rfl rfl rfl (by decide)) ?_))))
          refine qe rfl (by decide) (.skipu rfl rfl rfl (by decide)) (qe rfl (by decide) (.skipu rfl rfl rfl (by decide)) (qe rfl (by decide) (.skipu rfl rfl rfl (by decide)) (qe rfl (by decide) (.skipu rfl rfl rfl (by decide)) (qe rfl (by decide) (.skipu rfl rfl rfl (by decide)) ?_))))
          refine qe rfl (by decide) (.skipu rfl rfl rfl (by decide)) (qe rfl (by decide) (.skipu rfl rfl rfl (by decide)) (qe rfl (by decide) (.skipu rfl rfl rfl (by decide)) (qau ⟨rfl, rfl, ?_⟩))); refine qaG rfl rfl rfl (by decide) rfl (by decide) (qaG rfl rfl rfl (by decide) rfl (by decide) ?_)
          refine zS rfl rfl rfl rfl (zA rfl (qj rfl rfl rfl) (qc (qa (qaj rfl (qd (qb (zN rfl rfl rfl ?_))))))); refine qc (qa (qm (qL (ql (ql (qL (ql (?_))))))))
          -- leaf g8T0Tl18Tl25Tl33F
          refine ret0 (noL hL) (.inl rfl) (qf rfl (qh)) ?_ ?_
          · rfl
          refine ⟨qW ?_, rfl⟩
          first
            | (have hno : qbi l k = false := by
                 first
                   | exact hbad
                   | (rw [hke]; simp; omega)
               have : (List.range l.length).all (qbi l) = false := List.all_eq_false.2 ⟨k, List.mem_range.2 (by omega), by simp [hno]⟩
               rw [qbq, this, Bool.and_false])
            | (rw [qbq]
               by_cases h60 : l.length ≤ 60
               · have : (List.range l.length).all (qbi l) = true := List.all_eq_true.2 fun j hj => hp.2.2 j (by have := List.mem_range.1 hj; omega)
                 rw [this, decide_eq_true h60, decide_eq_true (by omega)]; rfl
               · rw [decide_eq_false h60, decide_eq_false (by omega)]; rfl)
        have m25 := l25
        try simp only [↓cqA, cqB] at m25
        have hbad : qbi l k = false := by simp only [qbi, hu]; simp [m25]
        refine q8 35 qbd rfl rfl rfl rfl (qe rfl (by decide) (.run rfl (qk (.inl rfl) rfl)) (qe rfl (by decide) (.run rfl (qk (.inl rfl) rfl)) (qe rfl (by decide) (.run rfl (qo rfl qv rfl rfl (by omega) (qax hu))) (qe rfl (by decide) (.run rfl (qD rfl qi rfl rfl)) ?_))))
        refine qe rfl (by decide) (.run rfl (qN (avs := [_]) true rfl qaK rfl rfl (by have hh := qc8 u huw; rw [l18] at hh; exact hh) (fun _ => rfl) rfl)) ?_; refine qe rfl (by decide) (.run rfl (qU rfl rfl)) ?_; refine qe rfl (by decide) (.run rfl (qk (.inl rfl) rfl)) ?_; refine qe rfl (by decide) (.want rfl rfl rfl (by decide) (qk (.inl rfl) rfl)) ?_; refine qe rfl (by decide) (.want rfl rfl rfl (by decide) (qk (.inl rfl) rfl)) ?_
        refine qe rfl (by decide) (.want rfl rfl rfl (by decide) (qo rfl qv rfl rfl (by omega) (qax hu))) (qe rfl (by decide) (.want rfl rfl rfl (by decide) (qD rfl qi rfl rfl)) ?_)
        refine qe rfl (by decide) (.want rfl rfl rfl (by decide) (qN (avs := [_]) true rfl qbm rfl rfl (by have hh := rAtom_ok u (qa6 m18).1 huw; rw [l25] at hh; exact hh) (fun _ => rfl) rfl)) ?_; refine qe rfl (by decide) (.want rfl rfl rfl (by decide) (qU rfl rfl)) ?_; refine qe rfl (by decide) (.run rfl (qj rfl rfl rfl)) ?_
        refine qe rfl (by decide) (.run rfl (qk (.inl rfl) rfl)) (qe rfl (by decide) (.skip rfl rfl rfl (by decide) (by decide)) (qe rfl (by decide) (.skip rfl rfl rfl (by decide) (by decide)) (qe rfl (by decide) (.skip rfl rfl rfl (by decide) (by decide)) (qe rfl (by decide) (.skip rfl rfl rfl (by decide) (by decide)) ?_))))
        refine qe rfl (by decide) (.skip rfl rfl rfl (by decide) (by decide)) (qe rfl (by decide) (.skip rfl rfl rfl (by decide) (by decide)) (qe rfl (by decide) (.run rfl (qj rfl rfl rfl)) (qe rfl (by decide) (.run rfl (qk (.inl rfl) rfl)) (qe rfl (by decide) (.skip rfl rfl rfl (by decide) (by decide)) ?_))))
        refine qe rfl (by decide) (.skip rfl rfl rfl (by decide) (by decide)) (qe rfl (by decide) (.skip rfl rfl rfl (by decide) (by decide)) (qe rfl (by decide) (.skipu rfl rfl rfl (by decide)) (qe rfl (by decide) (.skipu rfl rfl rfl (by decide)) (qe rfl (by decide) (.skipu rfl rfl rfl (by decide)) ?_))))
        refine qe rfl (by decide) (.skipu rfl rfl rfl (by decide)) (qe rfl (by decide) (.skipu rfl rfl rfl (by decide)) (qe rfl (by decide) (.skipu rfl rfl rfl (by decide)) (qe rfl (by decide) (.skipu rfl rfl rfl (by decide)) (qe rfl (by decide) (.skipu rfl rfl rfl (by decide)) ?_))))
        refine qe rfl (by decide) (.skipu rfl rfl rfl (by decide)) (qau ⟨rfl, rfl, ?_⟩); refine qaG rfl rfl rfl (by decide) rfl (by decide) (qaG rfl rfl rfl (by decide) rfl (by decide) (zS rfl rfl rfl rfl (zA rfl (qj rfl rfl rfl) (qc (qa ?_)))))
        refine qaj rfl (qd (qb (zN rfl rfl rfl (qc (qa (qm (qL (ql (ql (qL (ql (?_))))))))))))
        -- leaf g8T0Tl18Tl25F
        refine ret0 (noL hL) (.inl rfl) (qf rfl (qh)) ?_ ?_
        · rfl
        refine ⟨qW ?_, rfl⟩
        first
          | (have hno : qbi l k = false := by
               first
                 | exact hbad
                 | (rw [hke]; simp; omega)
             have : (List.range l.length).all (qbi l) = false := List.all_eq_false.2 ⟨k, List.mem_range.2 (by omega), by simp [hno]⟩
             rw [qbq, this, Bool.and_false])
          | (rw [qbq]
             by_cases h60 : l.length ≤ 60
             · have : (List.range l.length).all (qbi l) = true := List.all_eq_true.2 fun j hj => hp.2.2 j (by have := List.mem_range.1 hj; omega)
               rw [this, decide_eq_true h60, decide_eq_true (by omega)]; rfl
             · rw [decide_eq_false h60, decide_eq_false (by omega)]; rfl)
      have m18 := l18
      try simp only [↓cqA, cqB] at m18
      have hbad : qbi l k = false := by simp only [qbi, hu]; simp [m18]
      refine q8 35 qbd rfl rfl rfl rfl (qe rfl (by decide) (.run rfl (qk (.inl rfl) rfl)) (qe rfl (by decide) (.run rfl (qk (.inl rfl) rfl)) (qe rfl (by decide) (.run rfl (qo rfl qv rfl rfl (by omega) (qax hu))) (qe rfl (by decide) (.run rfl (qD rfl qi rfl rfl)) ?_))))
      refine qe rfl (by decide) (.run rfl (qN (avs := [_]) true rfl qaK rfl rfl (by have hh := qc8 u huw; rw [l18] at hh; exact hh) (fun _ => rfl) rfl)) ?_; refine qe rfl (by decide) (.run rfl (qU rfl rfl)) ?_; refine qe rfl (by decide) (.run rfl (qk (.inl rfl) rfl)) ?_
      refine qe rfl (by decide) (.skip rfl rfl rfl (by decide) (by decide)) (qe rfl (by decide) (.skip rfl rfl rfl (by decide) (by decide)) (qe rfl (by decide) (.skip rfl rfl rfl (by decide) (by decide)) (qe rfl (by decide) (.skip rfl rfl rfl (by decide) (by decide)) (qe rfl (by decide) (.skip rfl rfl rfl (by decide) (by decide)) ?_))))
      refine qe rfl (by decide) (.skip rfl rfl rfl (by decide) (by decide)) (qe rfl (by decide) (.run rfl (qj rfl rfl rfl)) (qe rfl (by decide) (.run rfl (qk (.inl rfl) rfl)) (qe rfl (by decide) (.skip rfl rfl rfl (by decide) (by decide)) (qe rfl (by decide) (.skip rfl rfl rfl (by decide) (by decide)) ?_))))
      refine qe rfl (by decide) (.skip rfl rfl rfl (by decide) (by decide)) (qe rfl (by decide) (.skip rfl rfl rfl (by decide) (by decide)) (qe rfl (by decide) (.skip rfl rfl rfl (by decide) (by decide)) (qe rfl (by decide) (.skip rfl rfl rfl (by decide) (by decide)) (qe rfl (by decide) (.run rfl (qj rfl rfl rfl)) ?_))))
      refine qe rfl (by decide) (.run rfl (qk (.inl rfl) rfl)) (qe rfl (by decide) (.skip rfl rfl rfl (by decide) (by decide)) (qe rfl (by decide) (.skip rfl rfl rfl (by decide) (by decide)) (qe rfl (by decide) (.skip rfl rfl rfl (by decide) (by decide)) (qe rfl (by decide) (.skipu rfl rfl rfl (by decide)) ?_))))
      refine qe rfl (by decide) (.skipu rfl rfl rfl (by decide)) (qe rfl (by decide) (.skipu rfl rfl rfl (by decide)) (qe rfl (by decide) (.skipu rfl rfl rfl (by decide)) (qe rfl (by decide) (.skipu rfl rfl rfl (by decide)) (qe rfl (by decide) (.skipu rfl rfl rfl (by decide)) ?_))))
      refine qe rfl (by decide) (.skipu rfl rfl rfl (by decide)) (qe rfl (by decide) (.skipu rfl rfl rfl (by decide)) (qe rfl (by decide) (.skipu rfl rfl rfl (by decide)) (qau ⟨rfl, rfl, ?_⟩))); refine qaG rfl rfl rfl (by decide) rfl (by decide) (qaG rfl rfl rfl (by decide) rfl (by decide) ?_)
      refine zS rfl rfl rfl rfl (zA rfl (qj rfl rfl rfl) (qc (qa (qaj rfl (qd (qb (zN rfl rfl rfl ?_))))))); refine qc (qa (qm (qL (ql (ql (qL (ql (?_))))))))
      -- leaf g8T0Tl18F
      refine ret0 (noL hL) (.inl rfl) (qf rfl (qh)) ?_ ?_
      · rfl
      refine ⟨qW ?_, rfl⟩
      first
        | (have hno : qbi l k = false := by
             first
               | exact hbad
               | (rw [hke]; simp; omega)
           have : (List.range l.length).all (qbi l) = false := List.all_eq_false.2 ⟨k, List.mem_range.2 (by omega), by simp [hno]⟩
           rw [qbq, this, Bool.and_false])
        | (rw [qbq]
           by_cases h60 : l.length ≤ 60
           · have : (List.range l.length).all (qbi l) = true := List.all_eq_true.2 fun j hj => hp.2.2 j (by have := List.mem_range.1 hj; omega)
             rw [this, decide_eq_true h60, decide_eq_true (by omega)]; rfl
           · rw [decide_eq_false h60, decide_eq_false (by omega)]; rfl)
    try simp only [↓cqA, cqB] at c0
    refine qQ (qq (qq (q7 ?_))); refine qa (qd (qb (zM rfl rfl rfl (zA rfl (qy rfl qv rfl) (zA rfl (qn rfl rfl rfl rfl) (zN rfl rfl rfl (qc ?_))))))); refine qa (qm ?_)
    -- leaf g8T0F
    refine ret0 (noL hL) (.inl rfl) (qf rfl (qh)) ?_ ?_
    · rfl
    refine ⟨qW ?_, rfl⟩
    first
      | (have hno : qbi l k = false := by
           first
             | exact hbad
             | (rw [hke]; simp; omega)
         have : (List.range l.length).all (qbi l) = false := List.all_eq_false.2 ⟨k, List.mem_range.2 (by omega), by simp [hno]⟩
         rw [qbq, this, Bool.and_false])
      | (rw [qbq]
         by_cases h60 : l.length ≤ 60
         · have : (List.range l.length).all (qbi l) = true := List.all_eq_true.2 fun j hj => hp.2.2 j (by have := List.mem_range.1 hj; omega)
           rw [this, decide_eq_true h60, decide_eq_true (by omega)]; rfl
         · rw [decide_eq_false h60, decide_eq_false (by omega)]; rfl)
  try simp only [↓cqA, cqB] at g8
  refine zS rfl rfl rfl rfl (zS rfl rfl rfl rfl (zA rfl (qj rfl rfl rfl) (qc (qa (qas rfl (qQ (qq (qq (q7 ?_))))))))); refine qa (qd (qb (zM rfl rfl rfl (zA rfl (qy rfl qv rfl) ?_))))
  refine zA rfl (qn rfl rfl rfl rfl) (zN rfl rfl rfl (qc (qa (qm ?_))))
  -- leaf g8F
  refine ret0 (noL hL) (.inl rfl) (qf rfl (qh)) ?_ ?_
  · rfl
  refine ⟨qW ?_, rfl⟩
  first
    | (have hno : qbi l k = false := by
         first
           | exact hbad
           | (rw [hke]; simp; omega)
       have : (List.range l.length).all (qbi l) = false := List.all_eq_false.2 ⟨k, List.mem_range.2 (by omega), by simp [hno]⟩
       rw [qbq, this, Bool.and_false])
    | (rw [qbq]
       by_cases h60 : l.length ≤ 60
       · have : (List.range l.length).all (qbi l) = true := List.all_eq_true.2 fun j hj => hp.2.2 j (by have := List.mem_range.1 hj; omega)
         rw [this, decide_eq_true h60, decide_eq_true (by omega)]; rfl
       · rw [decide_eq_false h60, decide_eq_false (by omega)]; rfl)
def thereB (k : List Tm) (t : Tm) : Bool := k.any fun u => eqT 5 u t
theorem there_ok (k : List Tm) (hkl : k.length ≤ 60) (hk : ∀ t ∈ k, t.wf ∧ mayT t = true) (t : Tm) (ht : t.wf) : PF 260 [.dat false 4 (tmDs k), tmA false t] (bv (thereB k t)) := by
  have hlen := qaa k
  refine qG Tryz.func260 rfl Tryz.ntmps260 (Nat.le_of_ble_eq_true rfl) fun c hL hQ hDD => (qd (qb (qz rfl rfl (by decide) (qab 3 rfl rfl rfl) rfl (zN rfl rfl rfl (qc (qa (qd ?_))))))); refine qd (qb (zN rfl rfl rfl (qc (qa (qB ?_)))))
  refine qV (k.length) (fun i => i ≤ k.length ∧ ∀ (j : Nat) (u : Tm), j < i → k[j]? = some u → eqT 5 u t = false) (fun i => ⟨[(0, .dat false 4 (tmDs k)), (3, .ptr 3 0), (5, iv (i : Int))], [(3, .box (lift false (tmD t)))]⟩) (⟨by omega, fun j u hj => absurd hj (by omega)⟩) ?_ (fun i hi hpi => ?_)
  · exact qI (SubT.cons (zT rfl) (SubT.cons (zT rfl) (SubT.cons (zT rfl) (SubT.nil)))) (SubO.cons (qag rfl (by rfl)) (SubO.nil)) rfl rfl (noL' (noL hL) _)
  refine qd (qd (qb (zM rfl rfl rfl (zM rfl rfl rfl (zA rfl (qy rfl qv rfl) (zA rfl (qn rfl rfl rfl rfl) (qc ?_))))))); refine qa (qu rfl (fun c0 => ?_) (fun c0 => ?_))
  · try simp only [↓cqA, cqB] at c0
    obtain ⟨u, hu⟩ := qK (l := k) (k := i) (by omega)
    have hum := hk u (List.mem_of_getElem? hu)
    refine qt (qa (qd (qB (qd (q8 5 qbd rfl rfl rfl rfl (qe rfl (by decide) (.run rfl (qk (.inl rfl) rfl)) (qe rfl (by decide) (.run rfl (qk (.inl rfl) rfl)) ?_))))))); refine qe rfl (by decide) (.run rfl (qo rfl qv rfl rfl (by omega) (qax hu))) (qe rfl (by decide) (.run rfl (qD rfl qi rfl rfl)) (qe rfl (by decide) (.run rfl (qw rfl qi rfl rfl rfl rfl)) ?_))
    refine qau ⟨rfl, rfl, ?_⟩; refine qC (avs := [_, _]) true rfl rfl rfl (by decide) qaC rfl rfl (qcz 5 u t (qao hum.2) hum.1 ht) rfl rfl (qc (qa (qu rfl (fun c1 => ?_) (fun c1 => ?_))))
    · try simp only [↓cqA, cqB] at c1
      refine qd (qb (zN rfl rfl rfl (qc (qa (qm (qL (ql (ql (qL (ql (?_)))))))))))
      -- leaf 0T1T
      refine ret0 (noL hL) (.inl rfl) (qf rfl (qh)) ?_ ?_
      · rfl
      refine ⟨qW ?_, rfl⟩
      first
        | exact (List.any_eq_true.2 ⟨u, List.mem_of_getElem? hu, c1⟩).symm
        | (refine (List.any_eq_false.2 fun x hx => ?_).symm
           obtain ⟨j, hj⟩ := List.getElem?_of_mem hx
           have := hpi.2 j x (by have := (List.getElem?_eq_some_iff.1 hj).1; omega) hj
           simp [this])
    try simp only [↓cqA, cqB] at c1
    refine qt (qP (qa (qb (zM rfl rfl rfl (zA rfl (qM rfl rfl rfl (by omega)) (zN rfl rfl rfl (qc ?_))))))); refine qa ?_; refine ⟨?_, ?_, ?_⟩
    · skip
      omega
    · skip
      refine ⟨by omega, fun j y hj hy => ?_⟩
      by_cases hjk : j < i
      · exact hpi.2 j y hjk hy
      · rw [show j = i by omega, hu] at hy; cases hy; simpa using c1
    exact qI (SubT.cons (zT rfl) (SubT.cons (zT rfl) (SubT.cons (zT rfl) (SubT.nil)))) (SubO.cons (qag rfl (by rfl)) (SubO.nil)) rfl rfl (noL' (noL hL) _)
  try simp only [↓cqA, cqB] at c0
  refine qQ (qq (qq (q7 ?_))); refine qa (qd (qb (zN rfl rfl rfl (qc (qa (qm ?_))))))
  -- leaf 0F
  refine ret0 (noL hL) (.inl rfl) (qf rfl (qh)) ?_ ?_
  · rfl
  refine ⟨qW ?_, rfl⟩
  first
    | exact (List.any_eq_true.2 ⟨u, List.mem_of_getElem? hu, c1⟩).symm
    | (refine (List.any_eq_false.2 fun x hx => ?_).symm
       obtain ⟨j, hj⟩ := List.getElem?_of_mem hx
       have := hpi.2 j x (by have := (List.getElem?_eq_some_iff.1 hj).1; omega) hj
       simp [this])
def amongB (X : List (List Bd)) (b : List Bd) : Bool := X.any fun x => eqBds x b
theorem among_ok (X : List (List Bd)) (hX : X.length ≤ 1000000) (hb : ∀ x ∈ X, BOk x) (b : List Bd) (hbb : BOk b) : PF 223 [.dat false 1 (qaM X), bdA b] (bv (amongB X b)) := by
  have hlen := qaJ X
  have hbl := hbb.len
  refine qG Tryz.func223 rfl Tryz.ntmps223 (Nat.le_of_ble_eq_true rfl) fun c hL hQ hDD => (qd (qb (zN rfl rfl rfl (qc (qa (qd (qd ?_))))))); refine qb (zN rfl rfl rfl (qc ?_))
  refine qa (qB (qV (X.length) (fun i => i ≤ X.length ∧ ∀ (j : Nat) (u : List Bd), j < i → X[j]? = some u → eqBds u b = false) (fun i => ⟨[(0, .dat false 1 (qaM X)), (1, bdA b), (5, iv (i : Int))], []⟩) (⟨by omega, fun j u hj => absurd hj (by omega)⟩) ?_ (fun i hi hpi => ?_)))
  · exact qI (SubT.cons (zT rfl) (SubT.cons (zT rfl) (SubT.cons (zT rfl) (SubT.nil)))) (SubO.nil) rfl rfl (noL' (noL hL) _)
  refine qd (qd (qb (zM rfl rfl rfl (zM rfl rfl rfl (zA rfl (qy rfl qH rfl) (zA rfl (qn rfl rfl rfl rfl) (qc ?_))))))); refine qa (qu rfl (fun c0 => ?_) (fun c0 => ?_))
  · try simp only [↓cqA, cqB] at c0
    obtain ⟨u, hu⟩ := qK (l := X) (k := i) (by omega)
    have hum := hb u (List.mem_of_getElem? hu)
    have hul := hum.len
    refine qt (qa (qd (qB (qd (qb (zM rfl rfl rfl (zM rfl rfl rfl ?_))))))); refine zA rfl (qo rfl qH rfl rfl (by omega) (qbp hu)) (zA rfl (qR rfl qap rfl) ?_)
    refine zM rfl rfl rfl (qC (avs := [_, _]) true rfl rfl rfl (by decide) qbH rfl rfl (EqBinds_ok u b (fun x hx => qao (hum.el x hx).2) (fun x hx => (hum.el x hx).1) (fun x hx => (hbb.el x hx).1) (by omega) (by omega)) rfl rfl (qc (qa (qu rfl (fun c1 => ?_) (fun c1 => ?_)))))
    · try simp only [↓cqA, cqB] at c1
      refine qd (qb (zN rfl rfl rfl (qc (qa (qm (qL (ql (ql (qL (ql (?_)))))))))))
      -- leaf 0T1T
      refine ret0 (noL hL) (.inl rfl) (qf rfl (qh)) ?_ ?_
      · rfl
      refine ⟨qW ?_, rfl⟩
      first
        | exact (List.any_eq_true.2 ⟨u, List.mem_of_getElem? hu, c1⟩).symm
        | (refine (List.any_eq_false.2 fun x hx => ?_).symm
           obtain ⟨j, hj⟩ := List.getElem?_of_mem hx
           have := hpi.2 j x (by have := (List.getElem?_eq_some_iff.1 hj).1; omega) hj
           simp [this])
    try simp only [↓cqA, cqB] at c1
    refine qt (qP (qa (qb (zM rfl rfl rfl (zA rfl (qM rfl rfl rfl (by omega)) (zN rfl rfl rfl (qc ?_))))))); refine qa ?_; refine ⟨?_, ?_, ?_⟩
    · skip
      omega
    · skip
      refine ⟨by omega, fun j y hj hy => ?_⟩
      by_cases hjk : j < i
      · exact hpi.2 j y hjk hy
      · rw [show j = i by omega, hu] at hy; cases hy; simpa using c1
    exact qI (SubT.cons (zT rfl) (SubT.cons (zT rfl) (SubT.cons (zT rfl) (SubT.nil)))) (SubO.nil) rfl rfl (noL' (noL hL) _)
  try simp only [↓cqA, cqB] at c0
  refine qQ (qq (qq (q7 ?_))); refine qa (qd (qb (zN rfl rfl rfl (qc (qa (qm ?_))))))
  -- leaf 0F
  refine ret0 (noL hL) (.inl rfl) (qf rfl (qh)) ?_ ?_
  · rfl
  refine ⟨qW ?_, rfl⟩
  first
    | exact (List.any_eq_true.2 ⟨u, List.mem_of_getElem? hu, c1⟩).symm
    | (refine (List.any_eq_false.2 fun x hx => ?_).symm
       obtain ⟨j, hj⟩ := List.getElem?_of_mem hx
       have := hpi.2 j x (by have := (List.getElem?_eq_some_iff.1 hj).1; omega) hj
       simp [this])
def addB (X : List (List Bd)) (b : List Bd) : List (List Bd) := if amongB X b = true then X else X ++ [b]
theorem addB_len (X : List (List Bd)) (b : List Bd) : (addB X b).length ≤ X.length + 1 := by
  unfold addB; split <;> simp
def qbv (k : List Tm) (a : Tm) : List (List Bd) := (ansL k a).foldl addB []
theorem foldl_snoc {α β : Type} (f : β → α → β) (x : β) (l : List α) (a : α) : (l ++ [a]).foldl f x = f (l.foldl f x) a := by simp
theorem addB_mem : ∀ (l X : List (List Bd)) (y : List Bd), y ∈ l.foldl addB X → y ∈ X ∨ y ∈ l
  | [], X, y, h => .inl h
  | a :: l, X, y, h => by
    rcases addB_mem l (addB X a) y h with h | h
    · unfold addB at h
      split at h
      · exact .inl h
      · rcases List.mem_append.1 h with h | h
        · exact .inl h
        · exact .inr (by rw [List.mem_singleton.1 h]; simp)
    · exact .inr (List.mem_cons_of_mem _ h)
theorem qdh : ∀ (l X : List (List Bd)), (l.foldl addB X).length ≤ X.length + l.length
  | [], X => by simp
  | a :: l, X => by
    have := qdh l (addB X a)
    have := addB_len X a
    simp only [List.foldl_cons, List.length_cons]; omega
theorem ansL_snoc {k : List Tm} {i : Nat} {u : Tm} (hu : k[i]? = some u) (a : Tm) : ansL (k.take (i + 1)) a = ansL (k.take i) a ++ (if (fitR 5 [] a u).2 = 0 then [(fitR 5 [] a u).1] else []) := by
  rw [ansL, filter_snoc (fitsB a) hu, List.map_append, ansL]
  congr 1
  by_cases h : (fitR 5 [] a u).2 = 0 <;> simp [fitsB, h]
theorem rAsk_ok (k : List Tm) (hl : k.length ≤ 60) (hk : KG k) (a : Tm) (ha : a.wf) (hm : mayT a = true) : PF 261 [.dat false 4 (tmDs k), tmA false a] (.dat true 1 (qaM (qbv k a))) := by
  have hlen := qaa k
  have hk2 : ∀ t ∈ k, t.wf ∧ mayT t = true := fun t ht => ⟨(hk t ht).1, (hk t ht).2.1⟩
  refine qG Tryz.func261 rfl Tryz.ntmps261 (Nat.le_of_ble_eq_true rfl) fun c hL hQ hDD => (qd (qb (qz rfl rfl (by decide) (qab 3 rfl rfl rfl) rfl (zN rfl rfl rfl (qc (qa (qd ?_))))))); refine qb ?_
  refine zN rfl rfl rfl (qc (qa (qd (qd (qb (zN rfl rfl rfl (qc ?_))))))); refine qa (qB (qV (k.length) (fun i => i ≤ k.length) (fun i => ⟨[(0, .dat false 4 (tmDs k)), (3, .ptr 3 0), (5, .row 5), (6, iv (i : Int))], [(3, .box (lift false (tmD a))), (5, .rowd 28 1 true (qaM (qbv (k.take i) a)))]⟩) (by omega) ?_ (fun i hi hpi => ?_)))
  · exact Sub.trans (qaL (t := 5) (l := 5) 28 1 true rfl rfl) (qI (SubT.cons (zT rfl) (SubT.cons (zT rfl) (SubT.cons (zT rfl) (SubT.cons (zT rfl) (SubT.nil))))) (SubO.cons (qag rfl (by rfl)) (SubO.cons (qag rfl (by rfl)) (SubO.nil))) rfl rfl (noL' (noL hL) _))
  have hol : (qbv (k.take i) a).length ≤ 60 := by
    have h1 := qdh (ansL (k.take i) a) []
    have h2 := ansL_len (k.take i) a
    simp only [List.length_nil, List.length_take] at h1 h2
    simp only [qbv]; omega
  have hl2 : (qaM (qbv (k.take i) a)).length ≤ 60 := by rw [qaJ]; exact hol
  have hab : ∀ y ∈ qbv (k.take i) a, BOk y := fun y hy => by
    rcases addB_mem _ _ y hy with h | h
    · cases h
    · exact ansL_bok (fun t ht => hk2 t (List.mem_of_mem_take ht)) ha y h
  refine qd (qd (qb (zM rfl rfl rfl (zM rfl rfl rfl (zA rfl (qy rfl qv rfl) (zA rfl (qn rfl rfl rfl rfl) (qc ?_))))))); refine qa (qu rfl (fun c0 => ?_) (fun c0 => ?_))
  · try simp only [↓cqA, cqB] at c0
    obtain ⟨u, hu⟩ := qK (l := k) (k := i) (by omega)
    have hum := hk u (List.mem_of_getElem? hu)
    have has := ansL_snoc hu a
    have hbo := fitR_bok 5 [] a u nil_bok ha hum.1 hum.2.1
    refine qt (qa (qd (qB (qd (q8 10 qbd rfl rfl rfl rfl (qe rfl (by decide) (.run rfl (qw rfl qi rfl rfl rfl rfl)) (qe rfl (by decide) (.run rfl (qk (.inl rfl) rfl)) ?_))))))); refine qe rfl (by decide) (.run rfl (qk (.inl rfl) rfl)) (qe rfl (by decide) (.run rfl (qo rfl qv rfl rfl (by omega) (qax hu))) (qe rfl (by decide) (.run rfl (qD rfl qi rfl rfl)) ?_))
    refine qe rfl (by decide) (.run rfl (qN (avs := [_, _, _]) true rfl en_almagestref1_Match rfl rfl (AC_le (.cons .nil (.cons .refl (.cons .refl .nil))) (rMatch_ok 5 [] a u (qao hm) (qby hm) ha GG_nil hum.1 hum.2.1 hum.2.2.1)) (fun _ => rfl) rfl)) (qe rfl (by decide) (.run rfl (qk (.inl rfl) rfl)) ?_)
    refine qe rfl (by decide) (.run rfl (qY rfl rfl rfl)) (qe rfl (by decide) (.run rfl (qY rfl rfl rfl)) (qe rfl (by decide) (.run rfl (qk (.inr rfl) rfl)) (qau ⟨rfl, rfl, ?_⟩))); refine zN rfl rfl rfl (qc (qa (qd (qb ?_))))
    refine zM rfl rfl rfl (zA rfl (qn rfl rfl rfl rfl) (zM rfl rfl rfl (qA 26 rfl (fun g26 => ?_) (fun g26 => ?_))))
    · try simp only [↓cqA, cqB] at g26
      refine zG rfl rfl rfl rfl (qk (.inl rfl) rfl) ?_; refine zG rfl rfl rfl rfl (qk (.inl rfl) rfl) ?_; refine awps_gcallP (avs := [_, _]) true rfl rfl rfl (by decide) rfl rfl (by decide) en_almagestref10_among rfl rfl (among_ok (qbv (k.take i) a) (by omega) hab (fitR 5 [] a u).1 hbo) (rfl) (passO .nil) (by rintro r O' ⟨_, rfl⟩; exact frB rfl) (by rintro - r O' ⟨rfl, rfl⟩; exact ⟨rfl, rfl⟩) ?_
      rintro r O' ⟨rfl, rfl⟩
      refine zG rfl rfl rfl rfl (qU rfl rfl) (zA rfl (qj rfl rfl rfl) (qc (qa (qu rfl (fun c1 => ?_) (fun c1 => ?_)))))
      · try simp only [↓cqA, cqB] at c1
        have hfe : qbv (k.take (i + 1)) a = qbv (k.take i) a ++ [(fitR 5 [] a u).1] := by
          rw [qbv, has, if_pos g26, foldl_snoc]
          show addB (qbv (k.take i) a) _ = _
          rw [addB, if_neg (by simpa using c1)]
        refine qb (zM rfl rfl rfl (zM rfl rfl rfl (qz rfl rfl (by decide) (qS 34 rfl qH qa4 rfl rfl (by decide) (by decide) (by decide) rfl rfl rfl) rfl (qbt rfl rfl (by decide) (qaA 35 qbw rfl rfl rfl rfl rfl rfl rfl rfl (noL hL _) (by omega) rfl) rfl ?_))))
        refine qar (qaE 35 5 (noL hL _) (noL hL _)) (zN rfl rfl rfl (qc (qP (qa (qb (zM rfl rfl rfl (zA rfl (qM rfl rfl rfl (by omega)) ?_))))))); refine zN rfl rfl rfl (qc (qa ?_)); refine ⟨?_, ?_, ?_⟩
        · skip
          omega
        · skip
          omega
        exact qI (SubT.cons (zT rfl) (SubT.cons (zT rfl) (SubT.cons (zT rfl) (SubT.cons (zT rfl) (SubT.nil))))) (SubO.cons (qag rfl (by rfl)) (SubO.cons (qag rfl (by rw [hfe]; try rw [qcd]; try rfl)) (SubO.nil))) rfl rfl (noL' (noL hL) _)
      try simp only [↓cqA, cqB] at c1
      have hfe : qbv (k.take (i + 1)) a = qbv (k.take i) a := by
        rw [qbv, has, if_pos g26, foldl_snoc]
        show addB (qbv (k.take i) a) _ = _
        rw [addB, if_pos (by simpa using c1)]
      refine qt (qP (qa (qb (zM rfl rfl rfl (zA rfl (qM rfl rfl rfl (by omega)) (zN rfl rfl rfl (qc ?_))))))); refine qa ?_; refine ⟨?_, ?_, ?_⟩
      · skip
        omega
      · skip
        omega
      exact qI (SubT.cons (zT rfl) (SubT.cons (zT rfl) (SubT.cons (zT rfl) (SubT.cons (zT rfl) (SubT.nil))))) (SubO.cons (qag rfl (by rfl)) (SubO.cons (qag rfl (by rw [hfe]; try rw [qcd]; try rfl)) (SubO.nil))) rfl rfl (noL' (noL hL) _)
    try simp only [↓cqA, cqB] at g26
    have hfe : qbv (k.take (i + 1)) a = qbv (k.take i) a := by
      rw [qbv, has, if_neg g26, List.append_nil]; rfl
    refine zS rfl rfl rfl rfl (zS rfl rfl rfl rfl (zS rfl rfl rfl rfl (zS rfl rfl rfl rfl (zA rfl (qj rfl rfl rfl) (qc (qa (qas rfl ?_)))))))
    refine qt (qP (qa (qb (zM rfl rfl rfl (zA rfl (qM rfl rfl rfl (by omega)) (zN rfl rfl rfl (qc ?_))))))); refine qa ?_; refine ⟨?_, ?_, ?_⟩
    · skip
      omega
    · skip
      omega
    exact qI (SubT.cons (zT rfl) (SubT.cons (zT rfl) (SubT.cons (zT rfl) (SubT.cons (zT rfl) (SubT.nil))))) (SubO.cons (qag rfl (by rfl)) (SubO.cons (qag rfl (by rw [hfe]; try rw [qcd]; try rfl)) (SubO.nil))) rfl rfl (noL' (noL hL) _)
  try simp only [↓cqA, cqB] at c0
  refine qQ (qq (qq (q7 ?_))); refine qa (qd (qbb (qam (l := 5) rfl (by decide) (noL hL _) rfl rfl) (qb (zM rfl rfl rfl (zN rfl rfl rfl (qc (qa ?_))))))); refine qm ?_
  -- leaf 0F
  refine ret0 (noL hL) (.inl rfl) (qf rfl (qh)) ?_ ?_
  · rfl
  exact ⟨by rw [List.take_of_length_le (by omega)]; rfl, rfl⟩
end Go.Proofs.YtdecgkhdbfgldaaGreat

set_option linter.unusedVariables false
set_option linter.unusedSimpArgs false
set_option maxRecDepth 8000
namespace Go.Proofs.YtdecgkhdbfgldaaGreat
open Go
def pholds (l : List Bd) (g : Gd) : Bool := mayT (putT l g.l) && mayT (putT l g.r) && qbh (putT l g.l) && qbh (putT l g.r) && pageC g.kind (putT l g.l) (putT l g.r)
theorem intoT_may {l : List Bd} {t : Tm} (h : mayT (putT l t) = true) : intoT l t = putT l t := by rw [intoT, if_pos h]
theorem rholds_ok (l : List Bd) (hl : BOk l) (g : Gd) (hg : g.wf) (h1 : mayT g.l = true) (h2 : mayT g.r = true) : PF 259 [bdA l, gdA g] (bv (pholds l g)) := by
  have w1 := hg.2.1
  have w2 := hg.2.2
  have p1 := intoT_wf hl w1
  have p2 := intoT_wf hl w2
  refine qG Tryz.func259 rfl Tryz.ntmps259 (Nat.le_of_ble_eq_true rfl) fun c hL hQ hDD => (qd (qb (qz rfl rfl (by decide) (qab 3 rfl rfl rfl) rfl (zN rfl rfl rfl (qc (qa (qd ?_))))))); refine qb (zM rfl rfl rfl (zA rfl (qg rfl qaO rfl) (zA rfl (qr rfl qi rfl rfl rfl rfl rfl) ?_)))
  refine qC (avs := [_, _]) true rfl rfl rfl (by decide) qcv rfl rfl (rApply_ok l hl g.l w1 h1) rfl rfl (zM rfl rfl rfl (zA rfl (qY rfl rfl rfl) (zA rfl (qY rfl rfl rfl) ?_)))
  refine qz rfl rfl (by decide) (qaf 5 rfl q6 rfl) rfl (qO rfl rfl rfl qi rfl rfl rfl rfl rfl rfl rfl rfl rfl (zN rfl rfl rfl (qc (qa (qd (qb (zM rfl rfl rfl ?_))))))); refine zA rfl (qg rfl qa1 rfl) (zA rfl (qr rfl qi rfl rfl rfl rfl rfl) ?_)
  refine qC (avs := [_, _]) true rfl rfl rfl (by decide) qcv rfl rfl (rApply_ok l hl g.r w2 h2) rfl rfl (zM rfl rfl rfl (zA rfl (qY rfl rfl rfl) (zA rfl (qY rfl rfl rfl) ?_)))
  refine qz rfl rfl (by decide) (qaf 7 rfl q6 rfl) rfl (qO rfl rfl rfl qi rfl rfl rfl rfl rfl rfl rfl rfl rfl (zN rfl rfl rfl (qc (qa (qd (qd (qb ?_))))))); refine zM rfl rfl rfl (zA rfl (qU rfl rfl) (zM rfl rfl rfl (qA 27 rfl (fun g27 => ?_) (fun g27 => ?_))))
  · try simp only [↓cqA, cqB] at g27
    refine zS rfl rfl rfl rfl (zS rfl rfl rfl rfl (zA rfl (qj rfl rfl rfl) (zM rfl rfl rfl (zS rfl rfl rfl rfl (zS rfl rfl rfl rfl ?_)))))
    refine zS rfl rfl rfl rfl (zA rfl (qj rfl rfl rfl) (zM rfl rfl rfl (zS rfl rfl rfl rfl (zS rfl rfl rfl rfl (zS rfl rfl rfl rfl ?_)))))
    refine zA rfl (qj rfl rfl rfl) (qc (qa (qaj rfl (qd (qb (zN rfl rfl rfl (qc ?_))))))); refine qa (qm (ql (?_)))
    -- leaf g27T
    refine ret0 (noL hL) (.inl rfl) (qf rfl (qh)) ?_ ?_
    · rfl
    refine ⟨qW ?_, rfl⟩
    simp_all [pholds]
  try simp only [↓cqA, cqB] at g27
  have q1 : mayT (putT l g.l) = true := by simpa using g27
  have e1 := intoT_may q1
  rw [e1] at p1 ⊢
  refine zG rfl rfl rfl rfl (qk (.inl rfl) rfl) (zG rfl rfl rfl rfl (qU rfl rfl) (zA rfl (qj rfl rfl rfl) (zM rfl rfl rfl (qA 31 rfl (fun g31 => ?_) (fun g31 => ?_)))))
  · try simp only [↓cqA, cqB] at g31
    refine zS rfl rfl rfl rfl (zS rfl rfl rfl rfl (zS rfl rfl rfl rfl (zA rfl (qj rfl rfl rfl) (zM rfl rfl rfl (zS rfl rfl rfl rfl ?_)))))
    refine zS rfl rfl rfl rfl (zS rfl rfl rfl rfl (zA rfl (qj rfl rfl rfl) (qc (qa (qaj rfl (qd (qb ?_))))))); refine zN rfl rfl rfl (qc (qa (qm (ql (?_)))))
    -- leaf g27Fg31T
    refine ret0 (noL hL) (.inl rfl) (qf rfl (qh)) ?_ ?_
    · rfl
    refine ⟨qW ?_, rfl⟩
    simp_all [pholds]
  try simp only [↓cqA, cqB] at g31
  have q2 : mayT (putT l g.r) = true := by simpa using g31
  have e2 := intoT_may q2
  rw [e2] at p2 ⊢
  refine zG rfl rfl rfl rfl (qw rfl qi rfl rfl rfl rfl) (zG rfl rfl rfl rfl (qN (avs := [_]) true rfl qa3 rfl rfl (rGround_ok (putT l g.l) p1 q1) (fun _ => rfl) rfl) (zG rfl rfl rfl rfl (qU rfl rfl) (zA rfl (qj rfl rfl rfl) (zM rfl rfl rfl (qA 36 rfl (fun g36 => ?_) (fun g36 => ?_))))))
  · try simp only [↓cqA, cqB] at g36
    refine zS rfl rfl rfl rfl (zS rfl rfl rfl rfl (zS rfl rfl rfl rfl (zA rfl (qj rfl rfl rfl) (qc (qa (qaj rfl (qd ?_))))))); refine qb (zN rfl rfl rfl (qc (qa (qm (ql (?_))))))
    -- leaf g27Fg31Fg36T
    refine ret0 (noL hL) (.inl rfl) (qf rfl (qh)) ?_ ?_
    · rfl
    refine ⟨qW ?_, rfl⟩
    simp_all [pholds]
  try simp only [↓cqA, cqB] at g36
  refine zG rfl rfl rfl rfl (qw rfl qi rfl rfl rfl rfl) (zG rfl rfl rfl rfl (qN (avs := [_]) true rfl qa3 rfl rfl (rGround_ok (putT l g.r) p2 q2) (fun _ => rfl) rfl) (zG rfl rfl rfl rfl (qU rfl rfl) (zA rfl (qj rfl rfl rfl) (qc (qa (qu rfl (fun c0 => ?_) (fun c0 => ?_)))))))
  · try simp only [↓cqA, cqB] at c0
    refine qd (qb (zN rfl rfl rfl (qc (qa (qm (ql (?_)))))))
    -- leaf g27Fg31Fg36F0T
    refine ret0 (noL hL) (.inl rfl) (qf rfl (qh)) ?_ ?_
    · rfl
    refine ⟨qW ?_, rfl⟩
    simp_all [pholds]
  try simp only [↓cqA, cqB] at c0
  refine qt (qa (qd (qb (zA rfl (qg rfl qaS rfl) (zA rfl (qr rfl qay rfl rfl rfl rfl rfl) (zA rfl (qw rfl qi rfl rfl rfl rfl) (zA rfl (qw rfl qi rfl rfl rfl rfl) ?_)))))))
  refine qC (avs := [_, _, _]) true rfl rfl rfl (by decide) en_almagestref10_Compare rfl rfl (pageCompare_ok g.kind (putT l g.l) (putT l g.r) (qao q1) p1 p2) rfl rfl (zM rfl rfl rfl (zA rfl (qY rfl rfl rfl) (zA rfl (qY rfl rfl rfl) ?_)))
  refine zN rfl rfl rfl (zN rfl rfl rfl (qc (qa (qd (qb (zM rfl rfl rfl (zN rfl rfl rfl ?_))))))); refine qc (qa (qm ?_))
  -- leaf g27Fg31Fg36F0F
  refine ret0 (noL hL) (.inl rfl) (qf rfl (qh)) ?_ ?_
  · rfl
  refine ⟨qW ?_, rfl⟩
  simp_all [pholds]
def rgL (k : List Tm) (l : List Bd) (g : Gd) : List (List Bd) :=
  if g.kind ≤ 4 then (if pholds l g = true then [l] else [])
  else if mayT (putT l g.l) = true then
    (if g.kind = 6 then (if (qbh (putT l g.l) && !(thereB k (putT l g.l))) = true then [l] else [])
     else if qda (putT l g.l) = true then ((qbv k (putT l g.l)).filter fun y => decide (qcc l y = 0)).map fun y => qcf l y else [])
  else []
end Go.Proofs.YtdecgkhdbfgldaaGreat
