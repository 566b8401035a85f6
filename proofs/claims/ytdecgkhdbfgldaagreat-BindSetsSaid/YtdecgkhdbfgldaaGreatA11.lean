/- Part 11 of the proof: Hc, Hd, He. -/
import Derived.Test.YtdecgkhdbfgldaaGreatA10
set_option linter.unusedVariables false
set_option linter.unusedSimpArgs false
set_option maxRecDepth 8000
namespace Go.Proofs.YtdecgkhdbfgldaaGreat
open Go
theorem CopyTermR_ok (d : Nat) (t : Tm) (h : dle d t) (ht : t.wf) : AC Tryz.prog 95 [tmA false t] [] (fun r O => r = .agg [iv t.kind, sv t.name, iv t.n, .row 77] ∧ O = [(77, .rowd 35 4 true (tmDs t.args))]) := by
  cases d with
  | zero => exact h.elim
  | succ d =>
    have key := AC_rnE 3 77 (CopyTerms_of t.args ht.2.2.2.1 (fun u hu => CopyTerm_ok d u (h u hu) (Tm.wfs_mem ht.2.2.2.2 hu)))
    refine AC_intro Tryz.func95 rfl Tryz.ntmps95 (Nat.le_of_ble_eq_true rfl) fun c hL hQ hDD => ?_; refine awp_seq ?_; refine awp_region ?_; refine awps_stp1 rfl rfl (by decide) (stp_box 1 rfl rfl rfl) rfl ?_; refine awps_stp1 rfl rfl (by decide) (stp_alloc 2 rfl zv_api_Term rfl) rfl ?_; refine awps_nil ?_; refine thenQ_nil ?_; refine awp_seq ?_; refine awp_region ?_
    first | refine awps_stp0 rfl rfl (by decide) (stp_load_all rfl tf_api_Term rfl rfl rfl rfl) ?_ | refine awps_stp0 rfl rfl (by decide) (stp_load rfl tf_api_Term rfl rfl rfl rfl rfl) ?_ | refine awps_stp0 rfl rfl (by decide) (stp_load_elpa rfl tf_api_Term rfl rfl) ?_ | refine awps_stp0 rfl rfl (by decide) (stp_load_elpn rfl tf_api_Term rfl rfl rfl) ?_
    refine awps_stp1 rfl rfl (by decide) (stp_alloc 3 rfl zv_api_Term rfl) rfl ?_; refine awps_store rfl rfl rfl tf_api_Term rfl rfl rfl rfl rfl rfl rfl rfl rfl ?_; refine awps_nil ?_; refine thenQ_nil ?_; refine awp_seq ?_; refine awp_region ?_
    first | refine awps_stp0 rfl rfl (by decide) (stp_fieldAddr rfl fo_api_Term_3 rfl) ?_ | refine awps_stp0 rfl rfl (by decide) (stp_fieldAddr_elp rfl fo_api_Term_3 rfl) ?_
    first | refine awps_stp0 rfl rfl (by decide) (stp_load rfl tf_S_api_Term rfl rfl rfl rfl rfl) ?_ | refine awps_stp0 rfl rfl (by decide) (stp_load_elp1 rfl tf_S_api_Term rfl) ?_ | refine awps_stp0 rfl rfl (by decide) (stp_load_elpn rfl tf_S_api_Term rfl rfl rfl) ?_
    refine awps_u rfl rfl (by decide) (stpU_call (avs := [_]) true rfl en_almagestref0_CopyTerms rfl rfl (key) (fun _ => rfl) rfl) rfl ?_
    first | refine awps_stp0 rfl rfl (by decide) (stp_fieldAddr rfl fo_api_Term_3 rfl) ?_ | refine awps_stp0 rfl rfl (by decide) (stp_fieldAddr_elp rfl fo_api_Term_3 rfl) ?_
    refine awps_store rfl rfl rfl tf_S_api_Term rfl rfl rfl rfl rfl rfl rfl rfl rfl ?_; refine awps_nil ?_; refine thenQ_nil ?_; refine awp_seq ?_; refine awp_region ?_
    first | refine awps_stp0 rfl rfl (by decide) (stp_load_all rfl tf_api_Term rfl rfl rfl rfl) ?_ | refine awps_stp0 rfl rfl (by decide) (stp_load rfl tf_api_Term rfl rfl rfl rfl rfl) ?_ | refine awps_stp0 rfl rfl (by decide) (stp_load_elpa rfl tf_api_Term rfl rfl) ?_ | refine awps_stp0 rfl rfl (by decide) (stp_load_elpn rfl tf_api_Term rfl rfl rfl) ?_
    refine awps_store rfl rfl rfl tf_api_Term rfl rfl rfl rfl rfl rfl rfl rfl rfl ?_; refine awps_nil ?_; refine thenQ_nil ?_; refine awp_ret ?_
    -- leaf 
    change retQ _ _ _ _ _ _ _
    refine retO (O' := [(77, _)]) (.inl rfl) (resAs_cell tf_api_Term rfl rfl rfl resAs_nil) (SubO.cons rfl SubO.nil) ?_ ?_ (noL' (noL hL) _) ?_
    · rfl
    · rfl
    exact ⟨rfl, rfl⟩
theorem prog_set {α : Type} (g : α → α) {l : List α} {k : Nat} {u : α} (hu : l[k]? = some u) : ((l.take k).map g ++ l.drop k).set k (g u) = (l.take (k + 1)).map g ++ l.drop (k + 1) := by
  have hk := List.getElem?_eq_some_iff.1 hu
  have hk1 := hk.1
  have h1 : ((l.take k).map g).length = k := by simp; omega
  rw [List.set_append_right _ _ (by omega), h1, Nat.sub_self, List.drop_eq_getElem_cons hk.1, List.set_cons_zero, take_snoc hu, List.map_append, List.append_assoc]
  rfl
theorem tm_set (g : Tm → Tm) {l : List Tm} {k : Nat} {u : Tm} (hu : l[k]? = some u) : (tmDs ((l.take k).map g ++ l.drop k)).set k (tmD (g u)) = tmDs ((l.take (k + 1)).map g ++ l.drop (k + 1)) := by
  rw [← prog_set g hu, tmDs_map, tmDs_map, List.map_set]
theorem applied_ok (l : List Bd) (hl : BOk l) : ∀ (d : Nat) (t : Tm), dle d t → t.wf → t.shp → PF 99 [bdA l, tmA false t] (.agg (lift true (tmD (turnT (gB l) d t))))
  | 0, t, h, _, _ => h.elim
  | d + 1, t, h, ht, hs => by
    have hlen := tmDs_length t.args
    have hlb := bdDs_length l
    have hll := hl.len
    have hal := ht.2.2.2.1
    have hg := atB_cases t.name l
    refine AC_intro Tryz.func99 rfl Tryz.ntmps99 (Nat.le_of_ble_eq_true rfl) fun c hL hQ hDD => ?_; refine awp_seq ?_; refine awp_region ?_; refine awps_stp1 rfl rfl (by decide) (stp_box 3 rfl rfl rfl) rfl ?_; refine awps_stp1 rfl rfl (by decide) (stp_alloc 4 rfl zv_api_Term rfl) rfl ?_; refine awps_nil ?_; refine thenQ_nil ?_; refine awp_seq ?_; refine awp_region ?_
    first | refine awps_stp0 rfl rfl (by decide) (stp_load_all rfl tf_api_Term rfl rfl rfl rfl) ?_ | refine awps_stp0 rfl rfl (by decide) (stp_load rfl tf_api_Term rfl rfl rfl rfl rfl) ?_ | refine awps_stp0 rfl rfl (by decide) (stp_load_elpa rfl tf_api_Term rfl rfl) ?_ | refine awps_stp0 rfl rfl (by decide) (stp_load_elpn rfl tf_api_Term rfl rfl rfl) ?_
    refine awps_u rfl rfl (by decide) (stpU_call (avs := [_]) true rfl en_almagestref0_CopyTerm rfl rfl (CopyTermR_ok (d + 1) t h ht) (fun _ => rfl) rfl) rfl ?_; refine awps_store rfl rfl rfl tf_api_Term rfl rfl rfl rfl rfl rfl rfl rfl rfl ?_; refine awps_nil ?_; refine thenQ_nil ?_; refine awp_seq ?_; refine awp_seq ?_; refine awp_region ?_
    first | refine awps_stp0 rfl rfl (by decide) (stp_fieldAddr rfl fo_api_Term_0 rfl) ?_ | refine awps_stp0 rfl rfl (by decide) (stp_fieldAddr_elp rfl fo_api_Term_0 rfl) ?_
    first | refine awps_stp0 rfl rfl (by decide) (stp_load rfl tf_int rfl rfl rfl rfl rfl) ?_ | refine awps_stp0 rfl rfl (by decide) (stp_load_elp1 rfl tf_int rfl) ?_ | refine awps_stp0 rfl rfl (by decide) (stp_load_elpn rfl tf_int rfl rfl rfl) ?_
    refine awps_stp0 rfl rfl (by decide) (stp_binI rfl rfl rfl rfl) ?_; refine awps_nil ?_; refine thenQ_nil ?_; refine awp_cond rfl (fun c0 => ?_) (fun c0 => ?_)
    · try simp only [↓str_beq_t, ↓str_beq_f, decide_eq_true_eq, decide_eq_false_iff_not, Bool.not_eq_true', Bool.not_eq_false', Int.not_lt, Int.not_le, beq_iff_eq, beq_eq_false_iff_ne, bne_iff_ne, bne_eq_false_iff_eq, ne_eq] at c0
      refine awp_seq ?_; refine awp_region ?_; refine awps_stp0 rfl rfl (by decide) (stp_move (.inl rfl) rfl) ?_
      first | refine awps_stp0 rfl rfl (by decide) (stp_fieldAddr rfl fo_api_Term_1 rfl) ?_ | refine awps_stp0 rfl rfl (by decide) (stp_fieldAddr_elp rfl fo_api_Term_1 rfl) ?_
      first | refine awps_stp0 rfl rfl (by decide) (stp_load rfl tf_string rfl rfl rfl rfl rfl) ?_ | refine awps_stp0 rfl rfl (by decide) (stp_load_elp1 rfl tf_string rfl) ?_ | refine awps_stp0 rfl rfl (by decide) (stp_load_elpn rfl tf_string rfl rfl rfl) ?_
      refine awps_call (avs := [_, _]) true rfl rfl rfl (by decide) en_almagestref1_At rfl rfl (At1_ok' _ _ (by omega)) rfl rfl ?_; refine awps_stp0 rfl rfl (by decide) (stp_move (.inr rfl) rfl) ?_; refine awps_nil ?_; refine thenQ_nil ?_; refine awp_seq ?_; refine awp_seq ?_; refine awp_region ?_; refine awps_stp0 rfl rfl (by decide) (stp_move (.inl rfl) rfl) ?_
      refine awps_stp0 rfl rfl (by decide) (stp_binI rfl rfl rfl rfl) ?_; refine awps_nil ?_; refine thenQ_nil ?_; refine awp_cond rfl (fun c1 => ?_) (fun c1 => ?_)
      · try simp only [↓str_beq_t, ↓str_beq_f, decide_eq_true_eq, decide_eq_false_iff_not, Bool.not_eq_true', Bool.not_eq_false', Int.not_lt, Int.not_le, beq_iff_eq, beq_eq_false_iff_ne, bne_iff_ne, bne_eq_false_iff_eq, ne_eq] at c1
        obtain ⟨x, hx, hxn, hxl⟩ : ∃ x : Bd, l[(atB t.name l).toNat]? = some x ∧ x.name = t.name ∧ lookB l t.name = some x.t := by
          rcases hg with ⟨_, h2⟩ | ⟨_, i, x, h2, h3, h4, h5⟩
          · omega
          · exact ⟨x, by rw [h2]; exact h3, h4, h5⟩
        have hxm := hl.el x (List.mem_of_getElem? hx)
        have hxlt := (List.getElem?_eq_some_iff.1 hx).1
        refine awp_seq ?_; refine awp_region ?_; refine awps_stp0 rfl rfl (by decide) (stp_move (.inl rfl) rfl) ?_; refine awps_stp0 rfl rfl (by decide) (stp_move (.inl rfl) rfl) ?_
        first | refine awps_stp0 rfl rfl (by decide) (stp_indexAddr rfl sl_S_api_Bind rfl rfl (by omega) (bdDs_get hx)) ?_ | refine awps_stp0 rfl rfl (by decide) (stp_indexAddr_rowd rfl sl_S_api_Bind rfl rfl rfl (by omega) (bdDs_get hx)) ?_ | refine awps_stp0 rfl rfl (by decide) (stp_indexAddr_row rfl sl_S_api_Bind rfl rfl rfl (by omega) (bdDs_get hx) (by decide)) ?_
        first | refine awps_stp0 rfl rfl (by decide) (stp_fieldAddr rfl fo_api_Bind_1 rfl) ?_ | refine awps_stp0 rfl rfl (by decide) (stp_fieldAddr_elp rfl fo_api_Bind_1 rfl) ?_
        first | refine awps_stp0 rfl rfl (by decide) (stp_load_all rfl tf_api_Term rfl rfl rfl rfl) ?_ | refine awps_stp0 rfl rfl (by decide) (stp_load rfl tf_api_Term rfl rfl rfl rfl rfl) ?_ | refine awps_stp0 rfl rfl (by decide) (stp_load_elpa rfl tf_api_Term rfl rfl) ?_ | refine awps_stp0 rfl rfl (by decide) (stp_load_elpn rfl tf_api_Term rfl rfl rfl) ?_
        refine awps_call (avs := [_]) true rfl rfl rfl (by decide) en_almagestref0_CopyTerm rfl rfl (CopyTerm_ok 5 x.t (mayT_dle hxm.2).1 hxm.1.2) rfl rfl ?_; refine awps_store rfl rfl rfl tf_api_Term rfl rfl rfl rfl rfl rfl rfl rfl rfl ?_; refine awps_nil ?_; refine thenQ_nil ?_; refine awp_ret ?_; refine thenQ_ret (thenQ_ret (?_))
        -- leaf 0T1T
        refine ret0 (noL hL) (.inl rfl) (resAs_cell tf_api_Term rfl rfl rfl (resAs_nil)) ?_ ?_
        · rfl
        refine ⟨?_, rfl⟩
        rw [turnT, if_pos c0, gB, hxl]; rfl
      try simp only [↓str_beq_t, ↓str_beq_f, decide_eq_true_eq, decide_eq_false_iff_not, Bool.not_eq_true', Bool.not_eq_false', Int.not_lt, Int.not_le, beq_iff_eq, beq_eq_false_iff_ne, bne_iff_ne, bne_eq_false_iff_eq, ne_eq] at c1
      have hlk : lookB l t.name = none := by
        rcases hg with ⟨h1, _⟩ | ⟨_, i, x, h2, _⟩
        · exact lookB_none hl.ris h1
        · omega
      refine awp_skip ?_; refine thenQ_nil ?_; refine awp_seq ?_; refine awp_region ?_; refine awps_sub (sub_freeze (l := 77) rfl (by decide) (noL hL _) rfl rfl) ?_
      first | refine awps_stp0 rfl rfl (by decide) (stp_load_all rfl tf_api_Term rfl rfl rfl rfl) ?_ | refine awps_stp0 rfl rfl (by decide) (stp_load rfl tf_api_Term rfl rfl rfl rfl rfl) ?_ | refine awps_stp0 rfl rfl (by decide) (stp_load_elpa rfl tf_api_Term rfl rfl) ?_ | refine awps_stp0 rfl rfl (by decide) (stp_load_elpn rfl tf_api_Term rfl rfl rfl) ?_
      refine awps_store rfl rfl rfl tf_api_Term rfl rfl rfl rfl rfl rfl rfl rfl rfl ?_; refine awps_nil ?_; refine thenQ_nil ?_; refine awp_ret ?_; refine thenQ_ret (?_)
      -- leaf 0T1F
      refine ret0 (noL hL) (.inl rfl) (resAs_cell tf_api_Term rfl rfl rfl (resAs_nil)) ?_ ?_
      · rfl
      refine ⟨?_, rfl⟩
      have h1 := ((Tm.shp_iff t).1 hs).1
      rcases h1 with ⟨k1, _, n1, l1⟩ | ⟨k1, _⟩ | ⟨k1, _⟩
      · rw [turnT, if_pos c0, gB, hlk]
        have e : t = ⟨1, t.name, 0, []⟩ := by cases t; simp only at k1 n1 l1; subst k1; subst n1; subst l1; rfl
        rw [e]; rfl
      · omega
      · omega
    try simp only [↓str_beq_t, ↓str_beq_f, decide_eq_true_eq, decide_eq_false_iff_not, Bool.not_eq_true', Bool.not_eq_false', Int.not_lt, Int.not_le, beq_iff_eq, beq_eq_false_iff_ne, bne_iff_ne, bne_eq_false_iff_eq, ne_eq] at c0
    refine awp_skip ?_; refine thenQ_nil ?_; refine awp_seq ?_; refine awp_seq ?_; refine awp_region ?_; refine awps_stp0 rfl rfl (by decide) (stp_move (.inr rfl) rfl) ?_; refine awps_nil ?_; refine thenQ_nil ?_; refine awp_block ?_
    refine awp_while (t.args.length) (fun k => k ≤ t.args.length) (fun k => ⟨[(0, bdA l), (3, .ptr 3 0), (4, .ptr 4 0), (6, iv (k : Int))], [(3, .box [iv t.kind, sv t.name, iv t.n, .row 77]), (4, .box ([Value.int .i64 0, Value.string ⟨#[]⟩, Value.int .i64 0, Value.slice none 0 0].map .imm)), (77, .rowd 35 4 true (tmDs ((t.args.take k).map (turnT (gB l) d) ++ t.args.drop k)))]⟩) (by omega) ?_ (fun k hk hp => ?_)
    · exact sub_re (SubT.cons (lk_eq rfl (by first | rfl | simp)) (SubT.cons (lk_eq rfl (by first | rfl | simp)) (SubT.cons (lk_eq rfl (by first | rfl | simp)) (SubT.cons (lk_eq rfl (by first | rfl | simp)) (SubT.nil))))) (SubO.cons (ok_eq rfl (by rfl)) (SubO.cons (ok_eq rfl (by rfl)) (SubO.cons (ok_eq rfl (by rfl)) (SubO.nil)))) rfl rfl (noL' (noL hL) _)
    have hl2 : (tmDs ((t.args.take k).map (turnT (gB l) d) ++ t.args.drop k)).length = t.args.length := by rw [tmDs_length]; simp; omega
    refine awp_seq ?_; refine awp_seq ?_; refine awp_region ?_; refine awps_stp0 rfl rfl (by decide) (stp_move (.inl rfl) rfl) ?_
    first | refine awps_stp0 rfl rfl (by decide) (stp_fieldAddr rfl fo_api_Term_3 rfl) ?_ | refine awps_stp0 rfl rfl (by decide) (stp_fieldAddr_elp rfl fo_api_Term_3 rfl) ?_
    first | refine awps_stp0 rfl rfl (by decide) (stp_load rfl tf_S_api_Term rfl rfl rfl rfl rfl) ?_ | refine awps_stp0 rfl rfl (by decide) (stp_load_elp1 rfl tf_S_api_Term rfl) ?_ | refine awps_stp0 rfl rfl (by decide) (stp_load_elpn rfl tf_S_api_Term rfl rfl rfl) ?_
    first | refine awps_stp0 rfl rfl (by decide) (stp_len_dat rfl sl_S_api_Term rfl) ?_ | refine awps_stp0 rfl rfl (by decide) (stp_len_rowd rfl sl_S_api_Term rfl rfl) ?_ | refine awps_stp0 rfl rfl (by decide) (stp_len_nil rfl sl_S_api_Term rfl) ?_ | refine awps_stp0 rfl rfl (by decide) (stp_len_vw rfl sl_S_api_Term rfl) ?_
    refine awps_stp0 rfl rfl (by decide) (stp_binI rfl rfl rfl rfl) ?_; refine awps_nil ?_; refine thenQ_nil ?_; refine awp_cond rfl (fun c2 => ?_) (fun c2 => ?_)
    · try simp only [↓str_beq_t, ↓str_beq_f, decide_eq_true_eq, decide_eq_false_iff_not, Bool.not_eq_true', Bool.not_eq_false', Int.not_lt, Int.not_le, beq_iff_eq, beq_eq_false_iff_ne, bne_iff_ne, bne_eq_false_iff_eq, ne_eq] at c2
      obtain ⟨u, hu⟩ := get_of_lt (l := t.args) (k := k) (by omega)
      have hum := List.mem_of_getElem? hu
      have hue : (tmDs ((t.args.take k).map (turnT (gB l) d) ++ t.args.drop k))[k]? = some (tmD u) := by
        refine tmDs_get ?_
        rw [List.getElem?_append_right (by simp; omega)]
        simp only [List.length_map, List.length_take, List.getElem?_drop]
        rw [show k + (k - min k t.args.length) = k by omega]; exact hu
      refine awp_skip ?_; refine thenQ_nil ?_; refine awp_seq ?_; refine awp_block ?_; refine awp_drawG 10 mixed rfl rfl rfl rfl ?_
      first | refine MGo_c0 rfl (by decide) (.run rfl (stp_fieldAddr rfl fo_api_Term_3 rfl)) ?_ | refine MGo_c0 rfl (by decide) (.run rfl (stp_fieldAddr_elp rfl fo_api_Term_3 rfl)) ?_
      first | refine MGo_c0 rfl (by decide) (.run rfl (stp_load rfl tf_S_api_Term rfl rfl rfl rfl rfl)) ?_ | refine MGo_c0 rfl (by decide) (.run rfl (stp_load_elp1 rfl tf_S_api_Term rfl)) ?_ | refine MGo_c0 rfl (by decide) (.run rfl (stp_load_elpn rfl tf_S_api_Term rfl rfl rfl)) ?_
      refine MGo_c0 rfl (by decide) (.run rfl (stp_move (.inl rfl) rfl)) ?_; refine MGo_c0 rfl (by decide) (.run rfl (stp_move (.inl rfl) rfl)) ?_
      first | refine MGo_c0 rfl (by decide) (.run rfl (stp_fieldAddr rfl fo_api_Term_3 rfl)) ?_ | refine MGo_c0 rfl (by decide) (.run rfl (stp_fieldAddr_elp rfl fo_api_Term_3 rfl)) ?_
      first | refine MGo_c0 rfl (by decide) (.run rfl (stp_load rfl tf_S_api_Term rfl rfl rfl rfl rfl)) ?_ | refine MGo_c0 rfl (by decide) (.run rfl (stp_load_elp1 rfl tf_S_api_Term rfl)) ?_ | refine MGo_c0 rfl (by decide) (.run rfl (stp_load_elpn rfl tf_S_api_Term rfl rfl rfl)) ?_
      refine MGo_c0 rfl (by decide) (.run rfl (stp_move (.inl rfl) rfl)) ?_
      first | refine MGo_c0 rfl (by decide) (.run rfl (stp_indexAddr rfl sl_S_api_Term rfl rfl (by omega) (by simp only [Int.toNat_natCast]; omega))) ?_ | refine MGo_c0 rfl (by decide) (.run rfl (stp_indexAddr_rowd rfl sl_S_api_Term rfl rfl rfl (by omega) (by simp only [Int.toNat_natCast]; omega))) ?_ | refine MGo_c0 rfl (by decide) (.run rfl (stp_indexAddr_row rfl sl_S_api_Term rfl rfl rfl (by omega) (by simp only [Int.toNat_natCast]; omega) (by decide))) ?_
      refine MGo_c0 rfl (by decide) (.run rfl (stp_load_rowdi k 0 rfl tf_api_Term rfl rfl (by simp) hue rfl rfl rfl)) ?_; refine MGo_c0 rfl (by decide) (.run rfl (stp_call (avs := [_, _]) true rfl en_almagestref1_applied rfl rfl (applied_ok l hl d u (h u hum) (Tm.wfs_mem ht.2.2.2.2 hum) (hs.arg hum)) (fun _ => rfl) rfl)) ?_; refine MGo_nil ⟨rfl, rfl, ?_⟩
      first | refine awps_stp0 rfl rfl (by decide) (stp_indexAddr rfl sl_S_api_Term rfl rfl (by omega) (by simp only [Int.toNat_natCast]; omega)) ?_ | refine awps_stp0 rfl rfl (by decide) (stp_indexAddr_rowd rfl sl_S_api_Term rfl rfl rfl (by omega) (by simp only [Int.toNat_natCast]; omega)) ?_ | refine awps_stp0 rfl rfl (by decide) (stp_indexAddr_row rfl sl_S_api_Term rfl rfl rfl (by omega) (by simp only [Int.toNat_natCast]; omega) (by decide)) ?_
      refine awps_storeRowd k rfl rfl rfl tf_api_Term rfl rfl (by simp) (by omega) rfl rfl rfl rfl rfl rfl ?_; refine awps_nil ?_; refine inQ_nil ?_; refine thenQ_nil ?_; refine awp_region ?_; refine awps_stp0 rfl rfl (by decide) (stp_move (.inl rfl) rfl) ?_; refine awps_stp0 rfl rfl (by decide) (stp_add rfl rfl rfl (by omega)) ?_
      refine awps_stp0 rfl rfl (by decide) (stp_move (.inr rfl) rfl) ?_; refine awps_nil ?_; refine thenQ_nil ?_; refine ⟨?_, ?_, ?_⟩
      · skip
        omega
      · skip
        omega
      exact sub_re (SubT.cons (lk_eq rfl (by first | rfl | simp)) (SubT.cons (lk_eq rfl (by first | rfl | simp)) (SubT.cons (lk_eq rfl (by first | rfl | simp)) (SubT.cons (lk_eq rfl (by first | rfl | simp)) (SubT.nil))))) (SubO.cons (ok_eq rfl (by rfl)) (SubO.cons (ok_eq rfl (by rfl)) (SubO.cons (ok_eq rfl (by exact congrArg (Ob.rowd _ 4 true) (tm_set (turnT (gB l) d) hu))) (SubO.nil)))) rfl rfl (noL' (noL hL) _)
    try simp only [↓str_beq_t, ↓str_beq_f, decide_eq_true_eq, decide_eq_false_iff_not, Bool.not_eq_true', Bool.not_eq_false', Int.not_lt, Int.not_le, beq_iff_eq, beq_eq_false_iff_ne, bne_iff_ne, bne_eq_false_iff_eq, ne_eq] at c2
    refine awp_exit ?_; refine thenQ_exit (thenQ_exit (inQ_hit ?_)); refine thenQ_nil ?_; refine awp_seq ?_; refine awp_sub (sub_freeze (l := 77) rfl (by decide) (noL hL _) rfl rfl) ?_; refine awp_region ?_
    first | refine awps_stp0 rfl rfl (by decide) (stp_load_all rfl tf_api_Term rfl rfl rfl rfl) ?_ | refine awps_stp0 rfl rfl (by decide) (stp_load rfl tf_api_Term rfl rfl rfl rfl rfl) ?_ | refine awps_stp0 rfl rfl (by decide) (stp_load_elpa rfl tf_api_Term rfl rfl) ?_ | refine awps_stp0 rfl rfl (by decide) (stp_load_elpn rfl tf_api_Term rfl rfl rfl) ?_
    refine awps_store rfl rfl rfl tf_api_Term rfl rfl rfl rfl rfl rfl rfl rfl rfl ?_; refine awps_nil ?_; refine thenQ_nil ?_; refine awp_ret ?_
    -- leaf 0F2F
    refine ret0 (noL hL) (.inl rfl) (resAs_cell tf_api_Term rfl rfl rfl (resAs_nil)) ?_ ?_
    · rfl
    exact ⟨by rw [turnT, if_neg c0, List.take_of_length_le (by omega), List.drop_of_length_le (by omega), List.append_nil]; rfl, rfl⟩
theorem rApply_ok (l : List Bd) (hl : BOk l) (t : Tm) (ht : t.wf) (hm : mayT t = true) : PF 31 [bdA l, tmA false t] (.tup [.agg (lift true (tmD (intoT l t))), bv (mayT (putT l t))]) := by
  have hd := may_dle hm
  have hw := putT_wf hl ht
  refine AC_leP (Post := fun r O => (mayT (putT l t) = true ∧ r = .tup [.agg (lift true (tmD (putT l t))), bv true] ∨ mayT (putT l t) = false ∧ r = .tup [.agg [iv 0, sv ⟨#[]⟩, iv 0, .imm (.slice none 0 0)], bv false]) ∧ O = []) ?_ (fun r O' h => by
    obtain ⟨⟨h1, rfl⟩ | ⟨h1, rfl⟩, rfl⟩ := h
    · exact ⟨_, .refl, by rw [intoT, h1, if_pos rfl], rfl⟩
    · exact ⟨_, .tup (.cons (zero_le true) (.cons .refl .nil)), by rw [intoT, h1, if_neg (by simp)], rfl⟩)
  refine AC_intro Tryz.func31 rfl Tryz.ntmps31 (Nat.le_of_ble_eq_true rfl) fun c hL hQ hDD => ?_; refine awp_seq ?_; refine awp_region ?_; refine awps_stp1 rfl rfl (by decide) (stp_box 3 rfl rfl rfl) rfl ?_; refine awps_stp1 rfl rfl (by decide) (stp_alloc 4 rfl zv_api_Term rfl) rfl ?_; refine awps_stp0 rfl rfl (by decide) (stp_move (.inr rfl) rfl) ?_; refine awps_nil ?_; refine thenQ_nil ?_
  refine awp_seq ?_; refine awp_region ?_; refine awps_stp0 rfl rfl (by decide) (stp_move (.inl rfl) rfl) ?_
  first | refine awps_stp0 rfl rfl (by decide) (stp_load_all rfl tf_api_Term rfl rfl rfl rfl) ?_ | refine awps_stp0 rfl rfl (by decide) (stp_load rfl tf_api_Term rfl rfl rfl rfl rfl) ?_ | refine awps_stp0 rfl rfl (by decide) (stp_load_elpa rfl tf_api_Term rfl rfl) ?_ | refine awps_stp0 rfl rfl (by decide) (stp_load_elpn rfl tf_api_Term rfl rfl rfl) ?_
  refine awps_call (avs := [_, _]) true rfl rfl rfl (by decide) en_almagestref1_applied rfl rfl (applied_ok l hl 5 t hd ht (may_shp hm)) rfl rfl ?_; refine awps_stp1 rfl rfl (by decide) (stp_alloc 6 rfl zv_api_Term rfl) rfl ?_; refine awps_store rfl rfl rfl tf_api_Term rfl rfl rfl rfl rfl rfl rfl rfl rfl ?_; refine awps_nil ?_; refine thenQ_nil ?_; refine awp_seq ?_; refine awp_seq ?_
  refine awp_region ?_
  first | refine awps_stp0 rfl rfl (by decide) (stp_load_all rfl tf_api_Term rfl rfl rfl rfl) ?_ | refine awps_stp0 rfl rfl (by decide) (stp_load rfl tf_api_Term rfl rfl rfl rfl rfl) ?_ | refine awps_stp0 rfl rfl (by decide) (stp_load_elpa rfl tf_api_Term rfl rfl) ?_ | refine awps_stp0 rfl rfl (by decide) (stp_load_elpn rfl tf_api_Term rfl rfl rfl) ?_
  refine awps_call (avs := [_]) true rfl rfl rfl (by decide) en_almagestref1_Term rfl rfl (rTerm_ok (putT l t) hw) rfl rfl ?_; refine awps_stp0 rfl rfl (by decide) (stp_not rfl rfl) ?_; refine awps_nil ?_; refine thenQ_nil ?_; refine awp_cond rfl (fun c0 => ?_) (fun c0 => ?_)
  · try simp only [↓str_beq_t, ↓str_beq_f, decide_eq_true_eq, decide_eq_false_iff_not, Bool.not_eq_true', Bool.not_eq_false', Int.not_lt, Int.not_le, beq_iff_eq, beq_eq_false_iff_ne, bne_iff_ne, bne_eq_false_iff_eq, ne_eq] at c0
    refine awp_seq ?_; refine awp_region ?_; refine awps_stp0 rfl rfl (by decide) (stp_build rfl zv_api_Term rfl pl_api_Term rfl rfl) ?_; refine awps_store rfl rfl rfl tf_api_Term rfl rfl rfl rfl rfl rfl rfl rfl rfl ?_; refine awps_stp0 rfl rfl (by decide) (stp_move (.inr rfl) rfl) ?_; refine awps_nil ?_; refine thenQ_nil ?_; refine awp_ret ?_; refine thenQ_ret (?_)
    -- leaf 0T
    refine ret0 (noL hL) (.inl rfl) (resAs_cell tf_api_Term rfl rfl rfl (resAs_tmp rfl (resAs_nil))) ?_ ?_
    · rfl
    refine ⟨?_, rfl⟩
    first
      | exact .inl ⟨by simpa using c0, rfl⟩
      | exact .inr ⟨by simpa using c0, rfl⟩
  try simp only [↓str_beq_t, ↓str_beq_f, decide_eq_true_eq, decide_eq_false_iff_not, Bool.not_eq_true', Bool.not_eq_false', Int.not_lt, Int.not_le, beq_iff_eq, beq_eq_false_iff_ne, bne_iff_ne, bne_eq_false_iff_eq, ne_eq] at c0
  refine awp_skip ?_; refine thenQ_nil ?_; refine awp_seq ?_; refine awp_region ?_
  first | refine awps_stp0 rfl rfl (by decide) (stp_load_all rfl tf_api_Term rfl rfl rfl rfl) ?_ | refine awps_stp0 rfl rfl (by decide) (stp_load rfl tf_api_Term rfl rfl rfl rfl rfl) ?_ | refine awps_stp0 rfl rfl (by decide) (stp_load_elpa rfl tf_api_Term rfl rfl) ?_ | refine awps_stp0 rfl rfl (by decide) (stp_load_elpn rfl tf_api_Term rfl rfl rfl) ?_
  refine awps_store rfl rfl rfl tf_api_Term rfl rfl rfl rfl rfl rfl rfl rfl rfl ?_; refine awps_stp0 rfl rfl (by decide) (stp_move (.inr rfl) rfl) ?_; refine awps_nil ?_; refine thenQ_nil ?_; refine awp_ret ?_
  -- leaf 0F
  refine ret0 (noL hL) (.inl rfl) (resAs_cell tf_api_Term rfl rfl rfl (resAs_tmp rfl (resAs_nil))) ?_ ?_
  · rfl
  refine ⟨?_, rfl⟩
  first
    | exact .inl ⟨by simpa using c0, rfl⟩
    | exact .inr ⟨by simpa using c0, rfl⟩
def settB (l : List Bd) (s : ByteArray) (t : Tm) : Bool := varB s && !(hasB l s) && !((varsR 5 t).any fun y => decide (y = s) || hasB l y)
theorem Settable_ok (l : List Bd) (hl : l.length ≤ 1000000000) (s : ByteArray) (t : Tm) (ht : t.wf) (hm : mayT t = true) : PF 26 [bdA l, sv s, tmA false t] (bv (settB l s t)) := by
  have hvl := varsR_len 5 t
  have hvn := mayT_dle hm
  have hlv := strDs_length (varsR 5 t)
  have hA : ∀ y, decide (0 ≤ atB y l) = hasB l y := fun y => by rw [Bool.eq_iff_iff, decide_eq_true_eq]; exact atB_has y l
  refine AC_intro Tryz.func26 rfl Tryz.ntmps26 (Nat.le_of_ble_eq_true rfl) fun c hL hQ hDD => ?_; refine awp_seq ?_; refine awp_region ?_; refine awps_stp1 rfl rfl (by decide) (stp_box 5 rfl rfl rfl) rfl ?_; refine awps_stp0 rfl rfl (by decide) (stp_move (.inr rfl) rfl) ?_; refine awps_nil ?_; refine thenQ_nil ?_; refine awp_seq ?_; refine awp_seq ?_; refine awp_region ?_
  refine awps_stp0 rfl rfl (by decide) (stp_move (.inl rfl) rfl) ?_; refine awps_call (avs := [_]) true rfl rfl rfl (by decide) en_almagestref1_Var rfl rfl (rVar_ok s) rfl rfl ?_; refine awps_stp0 rfl rfl (by decide) (stp_not rfl rfl) ?_; refine awps_stp0 rfl rfl (by decide) (stp_move (.inl rfl) rfl) ?_; refine awps_split 12 rfl (fun g12 => ?_) (fun g12 => ?_)
  · try simp only [↓str_beq_t, ↓str_beq_f, decide_eq_true_eq, decide_eq_false_iff_not, Bool.not_eq_true', Bool.not_eq_false', Int.not_lt, Int.not_le, beq_iff_eq, beq_eq_false_iff_ne, bne_iff_ne, bne_eq_false_iff_eq, ne_eq] at g12
    refine awps_gs rfl rfl rfl rfl (by decide) rfl (by decide) ?_; refine awps_gs rfl rfl rfl rfl (by decide) rfl (by decide) ?_; refine awps_gs rfl rfl rfl rfl (by decide) rfl (by decide) ?_; refine awps_gs rfl rfl rfl rfl (by decide) rfl (by decide) ?_; refine awps_stp0 rfl rfl (by decide) (stp_pick rfl rfl rfl) ?_; refine awps_nil ?_; refine thenQ_nil ?_; refine awp_condT rfl ?_
    refine awp_seq ?_; refine awp_region ?_; refine awps_stp0 rfl rfl (by decide) (stp_move (.inr rfl) rfl) ?_; refine awps_nil ?_; refine thenQ_nil ?_; refine awp_ret ?_; refine thenQ_ret (?_)
    -- leaf g12T
    refine ret0 (noL hL) (.inl rfl) (resAs_tmp rfl (resAs_nil)) ?_ ?_
    · rfl
    refine ⟨bool_w ?_, rfl⟩
    symm
    first
      | (have h0 : varB s = false := by assumption
         rw [settB, h0]; rfl)
      | (have h3 : hasB l s = true := (atB_has s l).1 (by omega)
         rw [settB, h3]; simp; done)
      | (have h3 : ((varsR 5 t).any fun y => decide (y = s) || hasB l y) = true := by
           refine List.any_eq_true.2 ⟨y, List.mem_of_getElem? hy, ?_⟩
           first
             | (have e : y = s := by assumption
                simp [e]; done)
             | (have h4 : hasB l y = true := (atB_has y l).1 (by omega)
                simp [h4]; done)
         rw [settB, h3]; simp; done)
      | (have h3 : ((varsR 5 t).any fun y => decide (y = s) || hasB l y) = false := List.any_eq_false.2 fun y hy => by
           obtain ⟨j, hj⟩ := List.getElem?_of_mem hy
           rw [hp.2 j y (by have := (List.getElem?_eq_some_iff.1 hj).1; omega) hj]; simp
         rw [settB, h1, h2, h3]; rfl)
      | trace_state
  try simp only [↓str_beq_t, ↓str_beq_f, decide_eq_true_eq, decide_eq_false_iff_not, Bool.not_eq_true', Bool.not_eq_false', Int.not_lt, Int.not_le, beq_iff_eq, beq_eq_false_iff_ne, bne_iff_ne, bne_eq_false_iff_eq, ne_eq] at g12
  refine awps_g0 rfl rfl rfl (by decide) rfl (by decide) (stp_move (.inl rfl) rfl) ?_; refine awps_g0 rfl rfl rfl (by decide) rfl (by decide) (stp_move (.inl rfl) rfl) ?_; refine awps_g0 rfl rfl rfl (by decide) rfl (by decide) (stp_call (avs := [_, _]) true rfl en_almagestref1_At rfl rfl (At1_ok' l s hl) (fun _ => rfl) rfl) ?_
  refine awps_g0 rfl rfl rfl (by decide) rfl (by decide) (stp_binI rfl rfl rfl rfl) ?_; refine awps_stp0 rfl rfl (by decide) (stp_pick rfl rfl rfl) ?_; refine awps_nil ?_; refine thenQ_nil ?_; refine awp_cond rfl (fun c0 => ?_) (fun c0 => ?_)
  · try simp only [↓str_beq_t, ↓str_beq_f, decide_eq_true_eq, decide_eq_false_iff_not, Bool.not_eq_true', Bool.not_eq_false', Int.not_lt, Int.not_le, beq_iff_eq, beq_eq_false_iff_ne, bne_iff_ne, bne_eq_false_iff_eq, ne_eq] at c0
    refine awp_seq ?_; refine awp_region ?_; refine awps_stp0 rfl rfl (by decide) (stp_move (.inr rfl) rfl) ?_; refine awps_nil ?_; refine thenQ_nil ?_; refine awp_ret ?_; refine thenQ_ret (?_)
    -- leaf g12F0T
    refine ret0 (noL hL) (.inl rfl) (resAs_tmp rfl (resAs_nil)) ?_ ?_
    · rfl
    refine ⟨bool_w ?_, rfl⟩
    symm
    first
      | (have h0 : varB s = false := by assumption
         rw [settB, h0]; rfl)
      | (have h3 : hasB l s = true := (atB_has s l).1 (by omega)
         rw [settB, h3]; simp; done)
      | (have h3 : ((varsR 5 t).any fun y => decide (y = s) || hasB l y) = true := by
           refine List.any_eq_true.2 ⟨y, List.mem_of_getElem? hy, ?_⟩
           first
             | (have e : y = s := by assumption
                simp [e]; done)
             | (have h4 : hasB l y = true := (atB_has y l).1 (by omega)
                simp [h4]; done)
         rw [settB, h3]; simp; done)
      | (have h3 : ((varsR 5 t).any fun y => decide (y = s) || hasB l y) = false := List.any_eq_false.2 fun y hy => by
           obtain ⟨j, hj⟩ := List.getElem?_of_mem hy
           rw [hp.2 j y (by have := (List.getElem?_eq_some_iff.1 hj).1; omega) hj]; simp
         rw [settB, h1, h2, h3]; rfl)
      | trace_state
  try simp only [↓str_beq_t, ↓str_beq_f, decide_eq_true_eq, decide_eq_false_iff_not, Bool.not_eq_true', Bool.not_eq_false', Int.not_lt, Int.not_le, beq_iff_eq, beq_eq_false_iff_ne, bne_iff_ne, bne_eq_false_iff_eq, ne_eq] at c0
  have h1 : varB s = true := by assumption
  have h2 : hasB l s = false := by
    cases hc : hasB l s with
    | false => rfl
    | true => have := (atB_has s l).2 hc; omega
  refine awp_skip ?_; refine thenQ_nil ?_; refine awp_seq ?_; refine awp_region ?_
  first | refine awps_stp0 rfl rfl (by decide) (stp_load_all rfl tf_api_Term rfl rfl rfl rfl) ?_ | refine awps_stp0 rfl rfl (by decide) (stp_load rfl tf_api_Term rfl rfl rfl rfl rfl) ?_ | refine awps_stp0 rfl rfl (by decide) (stp_load_elpa rfl tf_api_Term rfl rfl) ?_ | refine awps_stp0 rfl rfl (by decide) (stp_load_elpn rfl tf_api_Term rfl rfl rfl) ?_
  refine awps_call (avs := [_]) true rfl rfl rfl (by decide) en_almagestref1_Vars rfl rfl (rVars_ok 5 t (may_dle hm) ht (by omega)) rfl rfl ?_; refine awps_stp0 rfl rfl (by decide) (stp_move (.inr rfl) rfl) ?_; refine awps_nil ?_; refine thenQ_nil ?_; refine awp_seq ?_; refine awp_seq ?_; refine awp_region ?_; refine awps_stp0 rfl rfl (by decide) (stp_move (.inr rfl) rfl) ?_; refine awps_nil ?_
  refine thenQ_nil ?_; refine awp_block ?_; refine awp_while ((varsR 5 t).length) (fun k => k ≤ (varsR 5 t).length ∧ ∀ (j : Nat) (y : ByteArray), j < k → (varsR 5 t)[j]? = some y → (decide (y = s) || hasB l y) = false) (fun k => ⟨[(0, bdA l), (1, sv s), (7, .dat true 1 (strDs (varsR 5 t))), (8, iv (k : Int))], []⟩) (⟨by omega, fun j b hj => absurd hj (by omega)⟩) ?_ (fun k hk hp => ?_)
  · exact sub_re (SubT.cons (lk_eq rfl (by first | rfl | simp)) (SubT.cons (lk_eq rfl (by first | rfl | simp)) (SubT.cons (lk_eq rfl (by first | rfl | simp)) (SubT.cons (lk_eq rfl (by first | rfl | simp)) (SubT.nil))))) (SubO.nil) rfl rfl (noL' (noL hL) _)
  refine awp_seq ?_; refine awp_seq ?_; refine awp_region ?_; refine awps_stp0 rfl rfl (by decide) (stp_move (.inl rfl) rfl) ?_; refine awps_stp0 rfl rfl (by decide) (stp_move (.inl rfl) rfl) ?_
  first | refine awps_stp0 rfl rfl (by decide) (stp_len_dat rfl sl_S_string rfl) ?_ | refine awps_stp0 rfl rfl (by decide) (stp_len_rowd rfl sl_S_string rfl rfl) ?_ | refine awps_stp0 rfl rfl (by decide) (stp_len_nil rfl sl_S_string rfl) ?_ | refine awps_stp0 rfl rfl (by decide) (stp_len_vw rfl sl_S_string rfl) ?_
  refine awps_stp0 rfl rfl (by decide) (stp_binI rfl rfl rfl rfl) ?_; refine awps_nil ?_; refine thenQ_nil ?_; refine awp_cond rfl (fun c1 => ?_) (fun c1 => ?_)
  · try simp only [↓str_beq_t, ↓str_beq_f, decide_eq_true_eq, decide_eq_false_iff_not, Bool.not_eq_true', Bool.not_eq_false', Int.not_lt, Int.not_le, beq_iff_eq, beq_eq_false_iff_ne, bne_iff_ne, bne_eq_false_iff_eq, ne_eq] at c1
    obtain ⟨y, hy⟩ := get_of_lt (l := varsR 5 t) (k := k) (by omega)
    refine awp_skip ?_; refine thenQ_nil ?_; refine awp_seq ?_; refine awp_block ?_; refine awp_seq ?_; refine awp_region ?_; refine awps_stp0 rfl rfl (by decide) (stp_move (.inl rfl) rfl) ?_; refine awps_stp0 rfl rfl (by decide) (stp_move (.inl rfl) rfl) ?_
    first | refine awps_stp0 rfl rfl (by decide) (stp_indexAddr rfl sl_S_string rfl rfl (by omega) (strDs_get hy)) ?_ | refine awps_stp0 rfl rfl (by decide) (stp_indexAddr_rowd rfl sl_S_string rfl rfl rfl (by omega) (strDs_get hy)) ?_ | refine awps_stp0 rfl rfl (by decide) (stp_indexAddr_row rfl sl_S_string rfl rfl rfl (by omega) (strDs_get hy) (by decide)) ?_
    first | refine awps_stp0 rfl rfl (by decide) (stp_load rfl tf_string rfl rfl rfl rfl rfl) ?_ | refine awps_stp0 rfl rfl (by decide) (stp_load_elp1 rfl tf_string rfl) ?_ | refine awps_stp0 rfl rfl (by decide) (stp_load_elpn rfl tf_string rfl rfl rfl) ?_
    refine awps_stp0 rfl rfl (by decide) (stp_move (.inl rfl) rfl) ?_; refine awps_stp0 rfl rfl (by decide) (stp_binS rfl rfl rfl rfl) ?_; refine awps_stp0 rfl rfl (by decide) (stp_move (.inl rfl) rfl) ?_; refine awps_split 32 rfl (fun g32 => ?_) (fun g32 => ?_)
    · try simp only [↓str_beq_t, ↓str_beq_f, decide_eq_true_eq, decide_eq_false_iff_not, Bool.not_eq_true', Bool.not_eq_false', Int.not_lt, Int.not_le, beq_iff_eq, beq_eq_false_iff_ne, bne_iff_ne, bne_eq_false_iff_eq, ne_eq] at g32
      refine awps_gs rfl rfl rfl rfl (by decide) rfl (by decide) ?_; refine awps_gs rfl rfl rfl rfl (by decide) rfl (by decide) ?_; refine awps_gs rfl rfl rfl rfl (by decide) rfl (by decide) ?_; refine awps_gs rfl rfl rfl rfl (by decide) rfl (by decide) ?_; refine awps_gs rfl rfl rfl rfl (by decide) rfl (by decide) ?_; refine awps_gs rfl rfl rfl rfl (by decide) rfl (by decide) ?_
      refine awps_gs rfl rfl rfl rfl (by decide) rfl (by decide) ?_; refine awps_stp0 rfl rfl (by decide) (stp_pick rfl rfl rfl) ?_; refine awps_nil ?_; refine thenQ_nil ?_; refine awp_condT rfl ?_; refine awp_seq ?_; refine awp_region ?_; refine awps_stp0 rfl rfl (by decide) (stp_move (.inr rfl) rfl) ?_; refine awps_nil ?_; refine thenQ_nil ?_; refine awp_ret ?_
      refine inQ_ret (thenQ_ret (thenQ_ret (inQ_ret (thenQ_ret (?_)))))
      -- leaf g12F0F1Tg32T
      refine ret0 (noL hL) (.inl rfl) (resAs_tmp rfl (resAs_nil)) ?_ ?_
      · rfl
      refine ⟨bool_w ?_, rfl⟩
      symm
      first
        | (have h0 : varB s = false := by assumption
           rw [settB, h0]; rfl)
        | (have h3 : hasB l s = true := (atB_has s l).1 (by omega)
           rw [settB, h3]; simp; done)
        | (have h3 : ((varsR 5 t).any fun y => decide (y = s) || hasB l y) = true := by
             refine List.any_eq_true.2 ⟨y, List.mem_of_getElem? hy, ?_⟩
             first
               | (have e : y = s := by assumption
                  simp [e]; done)
               | (have h4 : hasB l y = true := (atB_has y l).1 (by omega)
                  simp [h4]; done)
           rw [settB, h3]; simp; done)
        | (have h3 : ((varsR 5 t).any fun y => decide (y = s) || hasB l y) = false := List.any_eq_false.2 fun y hy => by
             obtain ⟨j, hj⟩ := List.getElem?_of_mem hy
             rw [hp.2 j y (by have := (List.getElem?_eq_some_iff.1 hj).1; omega) hj]; simp
           rw [settB, h1, h2, h3]; rfl)
        | trace_state
    try simp only [↓str_beq_t, ↓str_beq_f, decide_eq_true_eq, decide_eq_false_iff_not, Bool.not_eq_true', Bool.not_eq_false', Int.not_lt, Int.not_le, beq_iff_eq, beq_eq_false_iff_ne, bne_iff_ne, bne_eq_false_iff_eq, ne_eq] at g32
    refine awps_g0 rfl rfl rfl (by decide) rfl (by decide) (stp_move (.inl rfl) rfl) ?_; refine awps_g0 rfl rfl rfl (by decide) rfl (by decide) (stp_move (.inl rfl) rfl) ?_; refine awps_g0 rfl rfl rfl (by decide) rfl (by decide) (stp_move (.inl rfl) rfl) ?_
    first | refine awps_g0 rfl rfl rfl (by decide) rfl (by decide) (stp_indexAddr rfl sl_S_string rfl rfl (by omega) (strDs_get hy)) ?_ | refine awps_g0 rfl rfl rfl (by decide) rfl (by decide) (stp_indexAddr_rowd rfl sl_S_string rfl rfl rfl (by omega) (strDs_get hy)) ?_ | refine awps_g0 rfl rfl rfl (by decide) rfl (by decide) (stp_indexAddr_row rfl sl_S_string rfl rfl rfl (by omega) (strDs_get hy) (by decide)) ?_
    first | refine awps_g0 rfl rfl rfl (by decide) rfl (by decide) (stp_load rfl tf_string rfl rfl rfl rfl rfl) ?_ | refine awps_g0 rfl rfl rfl (by decide) rfl (by decide) (stp_load_elp1 rfl tf_string rfl) ?_ | refine awps_g0 rfl rfl rfl (by decide) rfl (by decide) (stp_load_elpn rfl tf_string rfl rfl rfl) ?_
    refine awps_g0 rfl rfl rfl (by decide) rfl (by decide) (stp_call (avs := [_, _]) true rfl en_almagestref1_At rfl rfl (At1_ok' l y hl) (fun _ => rfl) rfl) ?_; refine awps_g0 rfl rfl rfl (by decide) rfl (by decide) (stp_binI rfl rfl rfl rfl) ?_; refine awps_stp0 rfl rfl (by decide) (stp_pick rfl rfl rfl) ?_; refine awps_nil ?_; refine thenQ_nil ?_
    refine awp_cond rfl (fun c2 => ?_) (fun c2 => ?_)
    · try simp only [↓str_beq_t, ↓str_beq_f, decide_eq_true_eq, decide_eq_false_iff_not, Bool.not_eq_true', Bool.not_eq_false', Int.not_lt, Int.not_le, beq_iff_eq, beq_eq_false_iff_ne, bne_iff_ne, bne_eq_false_iff_eq, ne_eq] at c2
      refine awp_seq ?_; refine awp_region ?_; refine awps_stp0 rfl rfl (by decide) (stp_move (.inr rfl) rfl) ?_; refine awps_nil ?_; refine thenQ_nil ?_; refine awp_ret ?_; refine inQ_ret (thenQ_ret (thenQ_ret (inQ_ret (thenQ_ret (?_)))))
      -- leaf g12F0F1Tg32F2T
      refine ret0 (noL hL) (.inl rfl) (resAs_tmp rfl (resAs_nil)) ?_ ?_
      · rfl
      refine ⟨bool_w ?_, rfl⟩
      symm
      first
        | (have h0 : varB s = false := by assumption
           rw [settB, h0]; rfl)
        | (have h3 : hasB l s = true := (atB_has s l).1 (by omega)
           rw [settB, h3]; simp; done)
        | (have h3 : ((varsR 5 t).any fun y => decide (y = s) || hasB l y) = true := by
             refine List.any_eq_true.2 ⟨y, List.mem_of_getElem? hy, ?_⟩
             first
               | (have e : y = s := by assumption
                  simp [e]; done)
               | (have h4 : hasB l y = true := (atB_has y l).1 (by omega)
                  simp [h4]; done)
           rw [settB, h3]; simp; done)
        | (have h3 : ((varsR 5 t).any fun y => decide (y = s) || hasB l y) = false := List.any_eq_false.2 fun y hy => by
             obtain ⟨j, hj⟩ := List.getElem?_of_mem hy
             rw [hp.2 j y (by have := (List.getElem?_eq_some_iff.1 hj).1; omega) hj]; simp
           rw [settB, h1, h2, h3]; rfl)
        | trace_state
    try simp only [↓str_beq_t, ↓str_beq_f, decide_eq_true_eq, decide_eq_false_iff_not, Bool.not_eq_true', Bool.not_eq_false', Int.not_lt, Int.not_le, beq_iff_eq, beq_eq_false_iff_ne, bne_iff_ne, bne_eq_false_iff_eq, ne_eq] at c2
    refine awp_skip ?_; refine inQ_nil ?_; refine thenQ_nil ?_; refine awp_region ?_; refine awps_stp0 rfl rfl (by decide) (stp_move (.inl rfl) rfl) ?_; refine awps_stp0 rfl rfl (by decide) (stp_add rfl rfl rfl (by omega)) ?_; refine awps_stp0 rfl rfl (by decide) (stp_move (.inr rfl) rfl) ?_; refine awps_nil ?_; refine thenQ_nil ?_; refine ⟨?_, ?_, ?_⟩
    · skip
      omega
    · skip
      refine ⟨by omega, fun j b hj hb => ?_⟩
      by_cases hjq : j < k
      · exact hp.2 j b hjq hb
      · rw [show j = k by omega, hy] at hb; cases hb
        have h3 : hasB l y = false := by
          cases hc : hasB l y with
          | false => rfl
          | true => have := (atB_has y l).2 hc; omega
        rw [h3]; simp; assumption
    exact sub_re (SubT.cons (lk_eq rfl (by first | rfl | simp)) (SubT.cons (lk_eq rfl (by first | rfl | simp)) (SubT.cons (lk_eq rfl (by first | rfl | simp)) (SubT.cons (lk_eq rfl (by first | rfl | simp)) (SubT.nil))))) (SubO.nil) rfl rfl (noL' (noL hL) _)
  try simp only [↓str_beq_t, ↓str_beq_f, decide_eq_true_eq, decide_eq_false_iff_not, Bool.not_eq_true', Bool.not_eq_false', Int.not_lt, Int.not_le, beq_iff_eq, beq_eq_false_iff_ne, bne_iff_ne, bne_eq_false_iff_eq, ne_eq] at c1
  refine awp_exit ?_; refine thenQ_exit (thenQ_exit (inQ_hit ?_)); refine thenQ_nil ?_; refine awp_seq ?_; refine awp_region ?_; refine awps_stp0 rfl rfl (by decide) (stp_move (.inr rfl) rfl) ?_; refine awps_nil ?_; refine thenQ_nil ?_; refine awp_ret ?_
  -- leaf g12F0F1F
  refine ret0 (noL hL) (.inl rfl) (resAs_tmp rfl (resAs_nil)) ?_ ?_
  · rfl
  refine ⟨bool_w ?_, rfl⟩
  symm
  first
    | (have h0 : varB s = false := by assumption
       rw [settB, h0]; rfl)
    | (have h3 : hasB l s = true := (atB_has s l).1 (by omega)
       rw [settB, h3]; simp; done)
    | (have h3 : ((varsR 5 t).any fun y => decide (y = s) || hasB l y) = true := by
         refine List.any_eq_true.2 ⟨y, List.mem_of_getElem? hy, ?_⟩
         first
           | (have e : y = s := by assumption
              simp [e]; done)
           | (have h4 : hasB l y = true := (atB_has y l).1 (by omega)
              simp [h4]; done)
       rw [settB, h3]; simp; done)
    | (have h3 : ((varsR 5 t).any fun y => decide (y = s) || hasB l y) = false := List.any_eq_false.2 fun y hy => by
         obtain ⟨j, hj⟩ := List.getElem?_of_mem hy
         rw [hp.2 j y (by have := (List.getElem?_eq_some_iff.1 hj).1; omega) hj]; simp
       rw [settB, h1, h2, h3]; rfl)
    | trace_state
end Go.Proofs.YtdecgkhdbfgldaaGreat

set_option linter.unusedVariables false
set_option linter.unusedSimpArgs false
set_option maxRecDepth 8000
namespace Go.Proofs.YtdecgkhdbfgldaaGreat
open Go
def setX (l : List Bd) (s : ByteArray) (t : Tm) (k : Nat) : List Bd := if posB l s < k then ins (subB [⟨s, t⟩] (l.take k)) (posB l s) ⟨s, t⟩ else subB [⟨s, t⟩] (l.take k)
theorem subB_snoc (one : List Bd) {l : List Bd} {k : Nat} {u : Bd} (hu : l[k]? = some u) : subB one (l.take (k + 1)) = subB one (l.take k) ++ [⟨u.name, putT one u.t⟩] := by
  rw [take_snoc hu, subB, List.map_append]; rfl
theorem ins_snoc {α : Type} (l : List α) (i : Nat) (x y : α) (h : i ≤ l.length) : ins l i x ++ [y] = ins (l ++ [y]) i x := by
  simp only [ins]
  rw [List.take_append_of_le_length h, List.drop_append_of_le_length h]
  simp
theorem setX_len (l : List Bd) (s : ByteArray) (t : Tm) (k : Nat) : (setX l s t k).length ≤ l.length + 1 := by
  unfold setX
  split
  · rw [ins_length _ _ _ (by rw [subB_length, List.length_take]; have := posB_le l s; omega), subB_length, List.length_take]; omega
  · rw [subB_length, List.length_take]; omega
theorem setX_done {l : List Bd} {s : ByteArray} {t : Tm} {k : Nat} {u : Bd} (hu : l[k]? = some u) (h : posB l s < k) : setX l s t k ++ [⟨u.name, putT [⟨s, t⟩] u.t⟩] = setX l s t (k + 1) := by
  have hk := (List.getElem?_eq_some_iff.1 hu).1
  rw [setX, setX, if_pos h, if_pos (by omega), subB_snoc _ hu, ins_snoc _ _ _ _ (by rw [subB_length, List.length_take]; omega)]
theorem ins_end2 {α : Type} {l : List α} {k : Nat} (h : l.length = k) (x y : α) : ins (l ++ [y]) k x = l ++ [x] ++ [y] := by
  subst h; simp [ins]
theorem setX_here {l : List Bd} {s : ByteArray} {t : Tm} {k : Nat} {u : Bd} (hu : l[k]? = some u) (h : posB l s = k) : setX l s t k ++ [⟨s, t⟩] ++ [⟨u.name, putT [⟨s, t⟩] u.t⟩] = setX l s t (k + 1) := by
  have hk := (List.getElem?_eq_some_iff.1 hu).1
  have hl : (subB [⟨s, t⟩] (l.take k)).length = k := by rw [subB_length, List.length_take]; omega
  rw [setX, setX, if_neg (by omega), if_pos (by omega), subB_snoc _ hu, h, ins_end2 hl]
theorem setX_last {l : List Bd} {s : ByteArray} {t : Tm} (h : posB l s = l.length) : setX l s t l.length ++ [⟨s, t⟩] = setX l s t (l.length + 1) := by
  have hl := subB_length [⟨s, t⟩] l
  rw [setX, setX, if_neg (by omega), if_pos (by omega), List.take_of_length_le (by omega), List.take_of_length_le (by omega), h]
  simp only [ins]
  rw [List.take_of_length_le (by omega), List.drop_of_length_le (by omega)]
theorem setX_last2 {l : List Bd} {s : ByteArray} {t : Tm} {k : Nat} (hk : k = l.length) (h : posB l s = l.length) : setX l s t k ++ [⟨s, t⟩] = setX l s t (k + 1) := by
  subst hk; exact setX_last h
theorem setX_stay {l : List Bd} {s : ByteArray} {t : Tm} {k : Nat} (hk : k = l.length) (h : posB l s < k) : setX l s t k = setX l s t (k + 1) := by
  rw [setX, setX, if_pos h, if_pos (by omega), List.take_of_length_le (by omega), List.take_of_length_le (by omega)]
theorem setX_not {l : List Bd} {s : ByteArray} {t : Tm} {k : Nat} {u : Bd} (hu : l[k]? = some u) (h : k < posB l s) : setX l s t k ++ [⟨u.name, putT [⟨s, t⟩] u.t⟩] = setX l s t (k + 1) := by
  rw [setX, setX, if_neg (by omega), if_neg (by omega), subB_snoc _ hu]
theorem setX_end {l : List Bd} {s : ByteArray} {t : Tm} : setX l s t (l.length + 1) = ins (subB [⟨s, t⟩] l) (posB l s) ⟨s, t⟩ := by
  have := posB_le l s
  rw [setX, if_pos (by omega), List.take_of_length_le (by omega)]
def rsetO (l : List Bd) (s : ByteArray) (t : Tm) : Bool := goodB [⟨s, t⟩] l && decide (l.length ≤ 15)
def rsetL (l : List Bd) (s : ByteArray) (t : Tm) : List Bd := if goodB [⟨s, t⟩] l = true then ins (subB [⟨s, t⟩] l) (posB l s) ⟨s, t⟩ else []
theorem bdDs_snoc (l : List Bd) (b : Bd) : bdDs (l ++ [b]) = bdDs l ++ [bdD b] := by simp [bdDs]
set_option maxHeartbeats 1000000 in
theorem rSet_ok (l : List Bd) (hl : BOk l) (s : ByteArray) (hs : s.size ≤ 140737488351232) (hh : hasB l s = false) (t : Tm) (ht : t.wf) (hm : mayT t = true) : PF 27 [bdA l, sv s, tmA false t] (.tup [.dat true 5 (bdDs (rsetL l s t)), bv (rsetO l s t)]) := by
  have hlen := bdDs_length l
  have hone := one_bok hs ht hm
  have hll := hl.len
  have hps := posB_spec s l
  have hpl := posB_le l s
  refine AC_leP (Post := fun r O => (goodB [⟨s, t⟩] l = false ∧ r = .tup [.imm (.slice none 0 0), bv false] ∨ r = .tup [.dat true 5 (bdDs (rsetL l s t)), bv (rsetO l s t)]) ∧ O = []) ?_ (fun r O' h => by
    obtain ⟨⟨h1, rfl⟩ | rfl, rfl⟩ := h
    · exact ⟨_, .tup (.cons (.nil (f := true) (k := 5)) (.cons .refl .nil)), by rw [rsetL, rsetO, if_neg (by simp [h1]), h1]; rfl, rfl⟩
    · exact ⟨_, .refl, rfl, rfl⟩)
  refine AC_intro Tryz.func27 rfl Tryz.ntmps27 (Nat.le_of_ble_eq_true rfl) fun c hL hQ hDD => ?_; refine awp_seq ?_; refine awp_region ?_; refine awps_stp1 rfl rfl (by decide) (stp_box 5 rfl rfl rfl) rfl ?_; refine awps_stp0 rfl rfl (by decide) (stp_move (.inr rfl) rfl) ?_; refine awps_stp0 rfl rfl (by decide) (stp_move (.inr rfl) rfl) ?_; refine awps_nil ?_; refine thenQ_nil ?_
  refine awp_seq ?_; refine awp_region ?_; refine awps_stp0 rfl rfl (by decide) (stp_move (.inl rfl) rfl) ?_
  first | refine awps_stp0 rfl rfl (by decide) (stp_load_all rfl tf_api_Term rfl rfl rfl rfl) ?_ | refine awps_stp0 rfl rfl (by decide) (stp_load rfl tf_api_Term rfl rfl rfl rfl rfl) ?_ | refine awps_stp0 rfl rfl (by decide) (stp_load_elpa rfl tf_api_Term rfl rfl) ?_ | refine awps_stp0 rfl rfl (by decide) (stp_load_elpn rfl tf_api_Term rfl rfl rfl) ?_
  refine awps_stp0 rfl rfl (by decide) (stp_build rfl zv_api_Bind rfl pl_api_Bind rfl rfl) ?_; refine awps_stp1 rfl rfl (by decide) (stp_buildSlice 17 rfl sl_S_api_Bind zv_api_Bind rfl rfl (by decide) (by decide) (by decide) rfl rfl rfl) rfl ?_; refine awps_rowd 17 false 1 rfl rfl rfl rfl ?_; refine awps_stp0 rfl rfl (by decide) (stp_move (.inr rfl) rfl) ?_; refine awps_nil ?_
  refine thenQ_nil ?_; refine awp_seq ?_; refine awp_region ?_; refine awps_stp0 rfl rfl (by decide) (stp_move (.inr rfl) rfl) ?_; refine awps_nil ?_; refine thenQ_nil ?_; refine awp_seq ?_; refine awp_region ?_; refine awps_stp0 rfl rfl (by decide) (stp_move (.inr rfl) rfl) ?_; refine awps_nil ?_; refine thenQ_nil ?_; refine awp_seq ?_; refine awp_seq ?_; refine awp_region ?_
  refine awps_stp0 rfl rfl (by decide) (stp_move (.inr rfl) rfl) ?_; refine awps_nil ?_; refine thenQ_nil ?_; refine awp_block ?_
  refine awp_while (l.length + 1) (fun k => k ≤ l.length + 1 ∧ ∀ (j : Nat) (b : Bd), j < k → l[j]? = some b → mayT (putT [⟨s, t⟩] b.t) = true) (fun k => ⟨[(0, bdA l), (1, sv s), (5, .ptr 5 0), (8, .row 17), (9, .row 9), (10, bv (decide (posB l s < k))), (11, iv (k : Int))], [(5, .box (lift false (tmD t))), (17, .rowd 40 5 false (bdDs [⟨s, t⟩])), (9, .rowd 40 5 true (bdDs (setX l s t k)))]⟩) (⟨by omega, fun j b hj => absurd hj (by omega)⟩) ?_ (fun k hk hp => ?_)
  · exact Sub.trans (sub_nil_row (t := 9) (l := 9) 40 5 true rfl rfl) (sub_re (SubT.cons (lk_eq rfl (by first | rfl | simp)) (SubT.cons (lk_eq rfl (by first | rfl | simp)) (SubT.cons (lk_eq rfl (by first | rfl | simp)) (SubT.cons (lk_eq rfl (by first | rfl | simp)) (SubT.cons (lk_eq rfl (by first | rfl | simp)) (SubT.cons (lk_eq rfl (by exact bool_imm (by simp))) (SubT.cons (lk_eq rfl (by first | rfl | simp)) (SubT.nil)))))))) (SubO.cons (ok_eq rfl (by rfl)) (SubO.cons (ok_eq rfl (by rfl)) (SubO.cons (ok_eq rfl (by rw [setX, if_neg (by omega)]; rfl)) (SubO.nil)))) rfl rfl (noL' (noL hL) _))
  have hl2 : (bdDs (setX l s t k)).length ≤ l.length + 1 := by rw [bdDs_length]; exact setX_len l s t k
  refine awp_seq ?_; refine awp_seq ?_; refine awp_region ?_; refine awps_stp0 rfl rfl (by decide) (stp_move (.inl rfl) rfl) ?_; refine awps_stp0 rfl rfl (by decide) (stp_move (.inl rfl) rfl) ?_
  first | refine awps_stp0 rfl rfl (by decide) (stp_len_dat rfl sl_S_api_Bind rfl) ?_ | refine awps_stp0 rfl rfl (by decide) (stp_len_rowd rfl sl_S_api_Bind rfl rfl) ?_ | refine awps_stp0 rfl rfl (by decide) (stp_len_nil rfl sl_S_api_Bind rfl) ?_ | refine awps_stp0 rfl rfl (by decide) (stp_len_vw rfl sl_S_api_Bind rfl) ?_
  refine awps_stp0 rfl rfl (by decide) (stp_binI rfl rfl rfl rfl) ?_; refine awps_nil ?_; refine thenQ_nil ?_; refine awp_cond rfl (fun c0 => ?_) (fun c0 => ?_)
  · try simp only [↓str_beq_t, ↓str_beq_f, decide_eq_true_eq, decide_eq_false_iff_not, Bool.not_eq_true', Bool.not_eq_false', Int.not_lt, Int.not_le, beq_iff_eq, beq_eq_false_iff_ne, bne_iff_ne, bne_eq_false_iff_eq, ne_eq] at c0
    refine awp_skip ?_; refine thenQ_nil ?_; refine awp_seq ?_; refine awp_block ?_; refine awp_seq ?_; refine awp_seq ?_; refine awp_region ?_; refine awps_stp0 rfl rfl (by decide) (stp_move (.inl rfl) rfl) ?_; refine awps_stp0 rfl rfl (by decide) (stp_not rfl rfl) ?_; refine awps_stp0 rfl rfl (by decide) (stp_move (.inl rfl) rfl) ?_; refine awps_split 26 rfl (fun g26 => ?_) (fun g26 => ?_)
    · try simp only [↓str_beq_t, ↓str_beq_f, decide_eq_true_eq, decide_eq_false_iff_not, Bool.not_eq_true', Bool.not_eq_false', Int.not_lt, Int.not_le, beq_iff_eq, beq_eq_false_iff_ne, bne_iff_ne, bne_eq_false_iff_eq, ne_eq] at g26
      refine awps_g0 rfl rfl rfl (by decide) rfl (by decide) (stp_move (.inl rfl) rfl) ?_; refine awps_g0 rfl rfl rfl (by decide) rfl (by decide) (stp_move (.inl rfl) rfl) ?_
      first | refine awps_g0 rfl rfl rfl (by decide) rfl (by decide) (stp_len_dat rfl sl_S_api_Bind rfl) ?_ | refine awps_g0 rfl rfl rfl (by decide) rfl (by decide) (stp_len_rowd rfl sl_S_api_Bind rfl rfl) ?_ | refine awps_g0 rfl rfl rfl (by decide) rfl (by decide) (stp_len_nil rfl sl_S_api_Bind rfl) ?_ | refine awps_g0 rfl rfl rfl (by decide) rfl (by decide) (stp_len_vw rfl sl_S_api_Bind rfl) ?_
      refine awps_g0 rfl rfl rfl (by decide) rfl (by decide) (stp_binI rfl rfl rfl rfl) ?_; refine awps_g0 rfl rfl rfl (by decide) rfl (by decide) (stp_move (.inl rfl) rfl) ?_; refine awps_split 31 rfl (fun g31 => ?_) (fun g31 => ?_)
      · try simp only [↓str_beq_t, ↓str_beq_f, decide_eq_true_eq, decide_eq_false_iff_not, Bool.not_eq_true', Bool.not_eq_false', Int.not_lt, Int.not_le, beq_iff_eq, beq_eq_false_iff_ne, bne_iff_ne, bne_eq_false_iff_eq, ne_eq] at g31
        have hB2 : posB l s = l.length := by omega
        refine awps_gs rfl rfl rfl rfl (by decide) rfl (by decide) ?_; refine awps_gs rfl rfl rfl rfl (by decide) rfl (by decide) ?_; refine awps_gs rfl rfl rfl rfl (by decide) rfl (by decide) ?_; refine awps_gs rfl rfl rfl rfl (by decide) rfl (by decide) ?_; refine awps_gs rfl rfl rfl rfl (by decide) rfl (by decide) ?_; refine awps_gs rfl rfl rfl rfl (by decide) rfl (by decide) ?_
        refine awps_gs rfl rfl rfl rfl (by decide) rfl (by decide) ?_; refine awps_g0 rfl rfl rfl (by decide) rfl (by decide) (stp_pick rfl rfl rfl) ?_; refine awps_stp0 rfl rfl (by decide) (stp_pick rfl rfl rfl) ?_; refine awps_nil ?_; refine thenQ_nil ?_; refine awp_condT rfl ?_; refine awp_seq ?_; refine awp_region ?_; refine awps_stp0 rfl rfl (by decide) (stp_move (.inl rfl) rfl) ?_
        refine awps_stp0 rfl rfl (by decide) (stp_move (.inl rfl) rfl) ?_
        first | refine awps_stp0 rfl rfl (by decide) (stp_load_all rfl tf_api_Term rfl rfl rfl rfl) ?_ | refine awps_stp0 rfl rfl (by decide) (stp_load rfl tf_api_Term rfl rfl rfl rfl rfl) ?_ | refine awps_stp0 rfl rfl (by decide) (stp_load_elpa rfl tf_api_Term rfl rfl) ?_ | refine awps_stp0 rfl rfl (by decide) (stp_load_elpn rfl tf_api_Term rfl rfl rfl) ?_
        refine awps_call (avs := [_]) true rfl rfl rfl (by decide) en_almagestref0_CopyTerm rfl rfl (CopyTerm_ok 5 t (may_dle hm) ht) rfl rfl ?_; refine awps_stp0 rfl rfl (by decide) (stp_build rfl zv_api_Bind rfl pl_api_Bind rfl rfl) ?_; refine awps_stp1 rfl rfl (by decide) (stp_buildSlice 46 rfl sl_S_api_Bind zv_api_Bind rfl rfl (by decide) (by decide) (by decide) rfl rfl rfl) rfl ?_
        first | refine awps_u rfl rfl (by decide) (stpU_append1 47 ta_S_api_Bind rfl rfl rfl rfl rfl rfl rfl rfl (noL hL _) (by omega) rfl) rfl ?_ | refine awps_u rfl rfl (by decide) (stpU_appendd 47 ta_S_api_Bind rfl rfl rfl rfl rfl (noL hL _) (by simp) (by omega) rfl) rfl ?_ | refine awps_u rfl rfl (by decide) (stpU_appendi 47 ta_S_api_Bind rfl rfl rfl rfl (rfl) rfl (noL hL _) (by simp) (by omega) rfl) rfl ?_
        refine awps_stp0 rfl rfl (by decide) (stp_move (.inr rfl) rfl) ?_; refine awps_nil ?_; refine thenQ_nil ?_; refine awp_sub (sub_rename 47 9 (noL hL _) (noL hL _)) ?_; refine awp_region ?_; refine awps_stp0 rfl rfl (by decide) (stp_move (.inr rfl) rfl) ?_; refine awps_nil ?_; refine thenQ_nil ?_; refine awp_seq ?_; refine awp_region ?_
        refine awps_stp0 rfl rfl (by decide) (stp_move (.inl rfl) rfl) ?_; refine awps_stp0 rfl rfl (by decide) (stp_move (.inl rfl) rfl) ?_
        first | refine awps_stp0 rfl rfl (by decide) (stp_len_dat rfl sl_S_api_Bind rfl) ?_ | refine awps_stp0 rfl rfl (by decide) (stp_len_rowd rfl sl_S_api_Bind rfl rfl) ?_ | refine awps_stp0 rfl rfl (by decide) (stp_len_nil rfl sl_S_api_Bind rfl) ?_ | refine awps_stp0 rfl rfl (by decide) (stp_len_vw rfl sl_S_api_Bind rfl) ?_
        refine awps_stp0 rfl rfl (by decide) (stp_binI rfl rfl rfl rfl) ?_; refine awps_nil ?_; refine thenQ_nil ?_; refine awp_cond rfl (fun c2 => ?_) (fun c2 => ?_)
        · try simp only [↓str_beq_t, ↓str_beq_f, decide_eq_true_eq, decide_eq_false_iff_not, Bool.not_eq_true', Bool.not_eq_false', Int.not_lt, Int.not_le, beq_iff_eq, beq_eq_false_iff_ne, bne_iff_ne, bne_eq_false_iff_eq, ne_eq] at c2
          obtain ⟨u, hu⟩ := get_of_lt (l := l) (k := k) (by omega)
          have hum := hl.el u (List.mem_of_getElem? hu)
          refine awp_seq ?_; refine awp_region ?_; refine awps_stp0 rfl rfl (by decide) (stp_move (.inl rfl) rfl) ?_; refine awps_stp0 rfl rfl (by decide) (stp_move (.inl rfl) rfl) ?_; refine awps_stp0 rfl rfl (by decide) (stp_move (.inl rfl) rfl) ?_
          first | refine awps_stp0 rfl rfl (by decide) (stp_indexAddr rfl sl_S_api_Bind rfl rfl (by omega) (bdDs_get hu)) ?_ | refine awps_stp0 rfl rfl (by decide) (stp_indexAddr_rowd rfl sl_S_api_Bind rfl rfl rfl (by omega) (bdDs_get hu)) ?_ | refine awps_stp0 rfl rfl (by decide) (stp_indexAddr_row rfl sl_S_api_Bind rfl rfl rfl (by omega) (bdDs_get hu) (by decide)) ?_
          first | refine awps_stp0 rfl rfl (by decide) (stp_fieldAddr rfl fo_api_Bind_1 rfl) ?_ | refine awps_stp0 rfl rfl (by decide) (stp_fieldAddr_elp rfl fo_api_Bind_1 rfl) ?_
          first | refine awps_stp0 rfl rfl (by decide) (stp_load_all rfl tf_api_Term rfl rfl rfl rfl) ?_ | refine awps_stp0 rfl rfl (by decide) (stp_load rfl tf_api_Term rfl rfl rfl rfl rfl) ?_ | refine awps_stp0 rfl rfl (by decide) (stp_load_elpa rfl tf_api_Term rfl rfl) ?_ | refine awps_stp0 rfl rfl (by decide) (stp_load_elpn rfl tf_api_Term rfl rfl rfl) ?_
          refine awps_call (avs := [_, _]) true rfl rfl rfl (by decide) en_almagestref1_Apply rfl rfl (rApply_ok [⟨s, t⟩] hone u.t hum.1.2 hum.2) rfl rfl ?_; refine awps_stp0 rfl rfl (by decide) (stp_move (.inl rfl) rfl) ?_; refine awps_stp0 rfl rfl (by decide) (stp_extract rfl rfl rfl) ?_; refine awps_stp0 rfl rfl (by decide) (stp_extract rfl rfl rfl) ?_
          refine awps_stp1 rfl rfl (by decide) (stp_alloc 12 rfl zv_api_Term rfl) rfl ?_; refine awps_store rfl rfl rfl tf_api_Term rfl rfl rfl rfl rfl rfl rfl rfl rfl ?_; refine awps_stp0 rfl rfl (by decide) (stp_move (.inr rfl) rfl) ?_; refine awps_nil ?_; refine thenQ_nil ?_; refine awp_seq ?_; refine awp_seq ?_; refine awp_region ?_
          refine awps_stp0 rfl rfl (by decide) (stp_move (.inl rfl) rfl) ?_; refine awps_stp0 rfl rfl (by decide) (stp_not rfl rfl) ?_; refine awps_nil ?_; refine thenQ_nil ?_; refine awp_cond rfl (fun c3 => ?_) (fun c3 => ?_)
          · try simp only [↓str_beq_t, ↓str_beq_f, decide_eq_true_eq, decide_eq_false_iff_not, Bool.not_eq_true', Bool.not_eq_false', Int.not_lt, Int.not_le, beq_iff_eq, beq_eq_false_iff_ne, bne_iff_ne, bne_eq_false_iff_eq, ne_eq] at c3
            refine awp_seq ?_; refine awp_region ?_; refine awps_stp0 rfl rfl (by decide) (stp_move (.inr rfl) rfl) ?_; refine awps_stp0 rfl rfl (by decide) (stp_move (.inr rfl) rfl) ?_; refine awps_nil ?_; refine thenQ_nil ?_; refine awp_ret ?_; refine thenQ_ret (inQ_ret (thenQ_ret (thenQ_ret (inQ_ret (thenQ_ret (?_))))))
            -- leaf 0Tg26Tg31T2T3T
            refine ret0 (noL hL) (.inl rfl) (resAs_tmp rfl (resAs_tmp rfl (resAs_nil))) ?_ ?_
            · rfl
            first
            | (refine ⟨.inr ?_, rfl⟩
               have e1 : rsetL l s t = setX l s t k := by rw [rsetL, if_pos hgood, hkl, setX_end]
               have e2 : rsetO l s t = decide (((bdDs (setX l s t k)).length : Int) ≤ 16) := by
                 rw [rsetO, hgood, hfl, Bool.true_and, Bool.eq_iff_iff]; simp only [decide_eq_true_eq]; omega
               rw [e1, e2]; rfl)
            | (refine ⟨.inl ⟨?_, rfl⟩, rfl⟩
               refine List.all_eq_false.2 ⟨u, List.mem_of_getElem? hu, ?_⟩
               simp only [intoE]
               have h3 : mayT (putT [⟨s, t⟩] u.t) = false := by simpa using c3
               simp [h3]; done)
            | trace_state
          try simp only [↓str_beq_t, ↓str_beq_f, decide_eq_true_eq, decide_eq_false_iff_not, Bool.not_eq_true', Bool.not_eq_false', Int.not_lt, Int.not_le, beq_iff_eq, beq_eq_false_iff_ne, bne_iff_ne, bne_eq_false_iff_eq, ne_eq] at c3
          have hput : intoT [⟨s, t⟩] u.t = putT [⟨s, t⟩] u.t := by rw [intoT, if_pos (by simpa using c3)]
          rw [hput]
          refine awp_skip ?_; refine thenQ_nil ?_; refine awp_drawG 9 mixed rfl rfl rfl rfl ?_; refine MGo_c0 rfl (by decide) (.run rfl (stp_move (.inl rfl) rfl)) ?_; refine MGo_c0 rfl (by decide) (.run rfl (stp_move (.inl rfl) rfl)) ?_; refine MGo_c0 rfl (by decide) (.run rfl (stp_move (.inl rfl) rfl)) ?_
          first | refine MGo_c0 rfl (by decide) (.run rfl (stp_indexAddr rfl sl_S_api_Bind rfl rfl (by omega) (bdDs_get hu))) ?_ | refine MGo_c0 rfl (by decide) (.run rfl (stp_indexAddr_rowd rfl sl_S_api_Bind rfl rfl rfl (by omega) (bdDs_get hu))) ?_ | refine MGo_c0 rfl (by decide) (.run rfl (stp_indexAddr_row rfl sl_S_api_Bind rfl rfl rfl (by omega) (bdDs_get hu) (by decide))) ?_
          first | refine MGo_c0 rfl (by decide) (.run rfl (stp_fieldAddr rfl fo_api_Bind_0 rfl)) ?_ | refine MGo_c0 rfl (by decide) (.run rfl (stp_fieldAddr_elp rfl fo_api_Bind_0 rfl)) ?_
          first | refine MGo_c0 rfl (by decide) (.run rfl (stp_load rfl tf_string rfl rfl rfl rfl rfl)) ?_ | refine MGo_c0 rfl (by decide) (.run rfl (stp_load_elp1 rfl tf_string rfl)) ?_ | refine MGo_c0 rfl (by decide) (.run rfl (stp_load_elpn rfl tf_string rfl rfl rfl)) ?_
          first | refine MGo_c0 rfl (by decide) (.run rfl (stp_load_all rfl tf_api_Term rfl rfl rfl rfl)) ?_ | refine MGo_c0 rfl (by decide) (.run rfl (stp_load rfl tf_api_Term rfl rfl rfl rfl rfl)) ?_ | refine MGo_c0 rfl (by decide) (.run rfl (stp_load_elpa rfl tf_api_Term rfl rfl)) ?_ | refine MGo_c0 rfl (by decide) (.run rfl (stp_load_elpn rfl tf_api_Term rfl rfl rfl)) ?_
          refine MGo_c0 rfl (by decide) (.run rfl (stp_build rfl zv_api_Bind rfl pl_api_Bind rfl rfl)) ?_; refine MGo_c1 rfl (by decide) (.run rfl (stp_buildSlice 72 rfl sl_S_api_Bind zv_api_Bind rfl rfl (by decide) (by decide) (by decide) rfl rfl rfl)) ?_; refine MGo_nil ⟨rfl, rfl, ?_⟩
          first | refine awps_u rfl rfl (by decide) (stpU_append1 73 ta_S_api_Bind rfl rfl rfl rfl rfl rfl rfl rfl (noL hL _) (by first | omega | (simp only [List.length_append, List.length_cons, List.length_nil]; omega)) rfl) rfl ?_ | refine awps_u rfl rfl (by decide) (stpU_appendd 73 ta_S_api_Bind rfl rfl rfl rfl rfl (noL hL _) (by simp) (by first | omega | (simp only [List.length_append, List.length_cons, List.length_nil]; omega)) rfl) rfl ?_ | refine awps_u rfl rfl (by decide) (stpU_appendi 73 ta_S_api_Bind rfl rfl rfl rfl (rfl) rfl (noL hL _) (by simp) (by first | omega | (simp only [List.length_append, List.length_cons, List.length_nil]; omega)) rfl) rfl ?_
          refine awps_stp0 rfl rfl (by decide) (stp_move (.inr rfl) rfl) ?_; refine awps_sub (sub_rename 73 9 (noL hL _) (noL hL _)) ?_; refine awps_nil ?_; refine inQ_nil ?_; refine thenQ_nil ?_; refine awp_region ?_; refine awps_stp0 rfl rfl (by decide) (stp_move (.inl rfl) rfl) ?_; refine awps_stp0 rfl rfl (by decide) (stp_add rfl rfl rfl (by omega)) ?_
          refine awps_stp0 rfl rfl (by decide) (stp_move (.inr rfl) rfl) ?_; refine awps_nil ?_; refine thenQ_nil ?_; refine ⟨?_, ?_, ?_⟩
          · skip
            omega
          · skip
            refine ⟨by omega, fun j b hj hb => ?_⟩
            by_cases hjk : j < k
            · exact hp.2 j b hjk hb
            · rw [show j = k by omega] at hb
              first
                | (rw [hu] at hb; cases hb; simpa using c3)
                | (have := (List.getElem?_eq_some_iff.1 hb).1; omega)
          exact sub_re (SubT.cons (lk_eq rfl (by first | rfl | simp)) (SubT.cons (lk_eq rfl (by first | rfl | simp)) (SubT.cons (lk_eq rfl (by first | rfl | simp)) (SubT.cons (lk_eq rfl (by first | rfl | simp)) (SubT.cons (lk_eq rfl (by first | rfl | simp)) (SubT.cons (lk_eq rfl (by exact bool_imm (by rw [Bool.eq_iff_iff]; simp only [decide_eq_true_eq]; (try simp only [true_iff]); first | omega | (constructor <;> intro h <;> omega)))) (SubT.cons (lk_eq rfl (by first | rfl | simp)) (SubT.nil)))))))) (SubO.cons (ok_eq rfl (by rfl)) (SubO.cons (ok_eq rfl (by rfl)) (SubO.cons (ok_eq rfl (by exact congrArg (Ob.rowd _ 5 true) (by first | exact (bdDs_snoc _ _).symm.trans (congrArg bdDs (setX_done hu (by omega))) | exact (bdDs_snoc _ _).symm.trans (congrArg bdDs (setX_not hu (by omega))) | exact ((congrArg (· ++ _) (bdDs_snoc _ _).symm).trans (bdDs_snoc _ _).symm).trans (congrArg bdDs (setX_here hu (by omega))) | exact (bdDs_snoc _ _).symm.trans (congrArg bdDs (setX_last2 (by omega) (by omega))) | exact congrArg bdDs (setX_stay (by omega) (by omega)) | (exfalso; omega)))) (SubO.nil)))) rfl rfl (noL' (noL hL) _)
        try simp only [↓str_beq_t, ↓str_beq_f, decide_eq_true_eq, decide_eq_false_iff_not, Bool.not_eq_true', Bool.not_eq_false', Int.not_lt, Int.not_le, beq_iff_eq, beq_eq_false_iff_ne, bne_iff_ne, bne_eq_false_iff_eq, ne_eq] at c2
        refine awp_skip ?_; refine inQ_nil ?_; refine thenQ_nil ?_; refine awp_region ?_; refine awps_stp0 rfl rfl (by decide) (stp_move (.inl rfl) rfl) ?_; refine awps_stp0 rfl rfl (by decide) (stp_add rfl rfl rfl (by omega)) ?_; refine awps_stp0 rfl rfl (by decide) (stp_move (.inr rfl) rfl) ?_; refine awps_nil ?_; refine thenQ_nil ?_; refine ⟨?_, ?_, ?_⟩
        · skip
          omega
        · skip
          refine ⟨by omega, fun j b hj hb => ?_⟩
          by_cases hjk : j < k
          · exact hp.2 j b hjk hb
          · rw [show j = k by omega] at hb
            first
              | (rw [hu] at hb; cases hb; simpa using c3)
              | (have := (List.getElem?_eq_some_iff.1 hb).1; omega)
        exact sub_re (SubT.cons (lk_eq rfl (by first | rfl | simp)) (SubT.cons (lk_eq rfl (by first | rfl | simp)) (SubT.cons (lk_eq rfl (by first | rfl | simp)) (SubT.cons (lk_eq rfl (by first | rfl | simp)) (SubT.cons (lk_eq rfl (by first | rfl | simp)) (SubT.cons (lk_eq rfl (by exact bool_imm (by rw [Bool.eq_iff_iff]; simp only [decide_eq_true_eq]; (try simp only [true_iff]); first | omega | (constructor <;> intro h <;> omega)))) (SubT.cons (lk_eq rfl (by first | rfl | simp)) (SubT.nil)))))))) (SubO.cons (ok_eq rfl (by rfl)) (SubO.cons (ok_eq rfl (by rfl)) (SubO.cons (ok_eq rfl (by exact congrArg (Ob.rowd _ 5 true) (by first | exact (bdDs_snoc _ _).symm.trans (congrArg bdDs (setX_done hu (by omega))) | exact (bdDs_snoc _ _).symm.trans (congrArg bdDs (setX_not hu (by omega))) | exact ((congrArg (· ++ _) (bdDs_snoc _ _).symm).trans (bdDs_snoc _ _).symm).trans (congrArg bdDs (setX_here hu (by omega))) | exact (bdDs_snoc _ _).symm.trans (congrArg bdDs (setX_last2 (by omega) (by omega))) | exact congrArg bdDs (setX_stay (by omega) (by omega)) | (exfalso; omega)))) (SubO.nil)))) rfl rfl (noL' (noL hL) _)
      try simp only [↓str_beq_t, ↓str_beq_f, decide_eq_true_eq, decide_eq_false_iff_not, Bool.not_eq_true', Bool.not_eq_false', Int.not_lt, Int.not_le, beq_iff_eq, beq_eq_false_iff_ne, bne_iff_ne, bne_eq_false_iff_eq, ne_eq] at g31
      obtain ⟨v, hv⟩ := get_of_lt (l := l) (k := k) (by omega)
      refine awps_g0 rfl rfl rfl (by decide) rfl (by decide) (stp_move (.inl rfl) rfl) ?_; refine awps_g0 rfl rfl rfl (by decide) rfl (by decide) (stp_move (.inl rfl) rfl) ?_
      first | refine awps_g0 rfl rfl rfl (by decide) rfl (by decide) (stp_indexAddr rfl sl_S_api_Bind rfl rfl (by omega) (bdDs_get hv)) ?_ | refine awps_g0 rfl rfl rfl (by decide) rfl (by decide) (stp_indexAddr_rowd rfl sl_S_api_Bind rfl rfl rfl (by omega) (bdDs_get hv)) ?_ | refine awps_g0 rfl rfl rfl (by decide) rfl (by decide) (stp_indexAddr_row rfl sl_S_api_Bind rfl rfl rfl (by omega) (bdDs_get hv) (by decide)) ?_
      first | refine awps_g0 rfl rfl rfl (by decide) rfl (by decide) (stp_fieldAddr rfl fo_api_Bind_0 rfl) ?_ | refine awps_g0 rfl rfl rfl (by decide) rfl (by decide) (stp_fieldAddr_elp rfl fo_api_Bind_0 rfl) ?_
      first | refine awps_g0 rfl rfl rfl (by decide) rfl (by decide) (stp_load rfl tf_string rfl rfl rfl rfl rfl) ?_ | refine awps_g0 rfl rfl rfl (by decide) rfl (by decide) (stp_load_elp1 rfl tf_string rfl) ?_ | refine awps_g0 rfl rfl rfl (by decide) rfl (by decide) (stp_load_elpn rfl tf_string rfl rfl rfl) ?_
      refine awps_g0 rfl rfl rfl (by decide) rfl (by decide) (stp_move (.inl rfl) rfl) ?_; refine awps_g0 rfl rfl rfl (by decide) rfl (by decide) (stp_binS rfl rfl rfl rfl) ?_; refine awps_g0 rfl rfl rfl (by decide) rfl (by decide) (stp_pick rfl rfl rfl) ?_; refine awps_stp0 rfl rfl (by decide) (stp_pick rfl rfl rfl) ?_; refine awps_nil ?_; refine thenQ_nil ?_
      refine awp_cond rfl (fun c1 => ?_) (fun c1 => ?_)
      · try simp only [↓str_beq_t, ↓str_beq_f, decide_eq_true_eq, decide_eq_false_iff_not, Bool.not_eq_true', Bool.not_eq_false', Int.not_lt, Int.not_le, beq_iff_eq, beq_eq_false_iff_ne, bne_iff_ne, bne_eq_false_iff_eq, ne_eq] at c1
        have hB3 : posB l s = k := by
          have h1 : ltS v.name s = false := by
            cases hc : ltS v.name s with
            | false => rfl
            | true => simp [show Op.bytesLess v.name.toList s.toList = true from hc] at c1
          rcases Nat.lt_or_ge k (posB l s) with h2 | h2
          · have := hps.1 k v h2 hv; rw [h1] at this; cases this
          · omega
        refine awp_seq ?_; refine awp_region ?_; refine awps_stp0 rfl rfl (by decide) (stp_move (.inl rfl) rfl) ?_; refine awps_stp0 rfl rfl (by decide) (stp_move (.inl rfl) rfl) ?_
        first | refine awps_stp0 rfl rfl (by decide) (stp_load_all rfl tf_api_Term rfl rfl rfl rfl) ?_ | refine awps_stp0 rfl rfl (by decide) (stp_load rfl tf_api_Term rfl rfl rfl rfl rfl) ?_ | refine awps_stp0 rfl rfl (by decide) (stp_load_elpa rfl tf_api_Term rfl rfl) ?_ | refine awps_stp0 rfl rfl (by decide) (stp_load_elpn rfl tf_api_Term rfl rfl rfl) ?_
        refine awps_call (avs := [_]) true rfl rfl rfl (by decide) en_almagestref0_CopyTerm rfl rfl (CopyTerm_ok 5 t (may_dle hm) ht) rfl rfl ?_; refine awps_stp0 rfl rfl (by decide) (stp_build rfl zv_api_Bind rfl pl_api_Bind rfl rfl) ?_; refine awps_stp1 rfl rfl (by decide) (stp_buildSlice 46 rfl sl_S_api_Bind zv_api_Bind rfl rfl (by decide) (by decide) (by decide) rfl rfl rfl) rfl ?_
        first | refine awps_u rfl rfl (by decide) (stpU_append1 47 ta_S_api_Bind rfl rfl rfl rfl rfl rfl rfl rfl (noL hL _) (by omega) rfl) rfl ?_ | refine awps_u rfl rfl (by decide) (stpU_appendd 47 ta_S_api_Bind rfl rfl rfl rfl rfl (noL hL _) (by simp) (by omega) rfl) rfl ?_ | refine awps_u rfl rfl (by decide) (stpU_appendi 47 ta_S_api_Bind rfl rfl rfl rfl (rfl) rfl (noL hL _) (by simp) (by omega) rfl) rfl ?_
        refine awps_stp0 rfl rfl (by decide) (stp_move (.inr rfl) rfl) ?_; refine awps_nil ?_; refine thenQ_nil ?_; refine awp_sub (sub_rename 47 9 (noL hL _) (noL hL _)) ?_; refine awp_region ?_; refine awps_stp0 rfl rfl (by decide) (stp_move (.inr rfl) rfl) ?_; refine awps_nil ?_; refine thenQ_nil ?_; refine awp_seq ?_; refine awp_region ?_
        refine awps_stp0 rfl rfl (by decide) (stp_move (.inl rfl) rfl) ?_; refine awps_stp0 rfl rfl (by decide) (stp_move (.inl rfl) rfl) ?_
        first | refine awps_stp0 rfl rfl (by decide) (stp_len_dat rfl sl_S_api_Bind rfl) ?_ | refine awps_stp0 rfl rfl (by decide) (stp_len_rowd rfl sl_S_api_Bind rfl rfl) ?_ | refine awps_stp0 rfl rfl (by decide) (stp_len_nil rfl sl_S_api_Bind rfl) ?_ | refine awps_stp0 rfl rfl (by decide) (stp_len_vw rfl sl_S_api_Bind rfl) ?_
        refine awps_stp0 rfl rfl (by decide) (stp_binI rfl rfl rfl rfl) ?_; refine awps_nil ?_; refine thenQ_nil ?_; refine awp_cond rfl (fun c2 => ?_) (fun c2 => ?_)
        · try simp only [↓str_beq_t, ↓str_beq_f, decide_eq_true_eq, decide_eq_false_iff_not, Bool.not_eq_true', Bool.not_eq_false', Int.not_lt, Int.not_le, beq_iff_eq, beq_eq_false_iff_ne, bne_iff_ne, bne_eq_false_iff_eq, ne_eq] at c2
          obtain ⟨u, hu⟩ := get_of_lt (l := l) (k := k) (by omega)
          have hum := hl.el u (List.mem_of_getElem? hu)
          refine awp_seq ?_; refine awp_region ?_; refine awps_stp0 rfl rfl (by decide) (stp_move (.inl rfl) rfl) ?_; refine awps_stp0 rfl rfl (by decide) (stp_move (.inl rfl) rfl) ?_; refine awps_stp0 rfl rfl (by decide) (stp_move (.inl rfl) rfl) ?_
          first | refine awps_stp0 rfl rfl (by decide) (stp_indexAddr rfl sl_S_api_Bind rfl rfl (by omega) (bdDs_get hu)) ?_ | refine awps_stp0 rfl rfl (by decide) (stp_indexAddr_rowd rfl sl_S_api_Bind rfl rfl rfl (by omega) (bdDs_get hu)) ?_ | refine awps_stp0 rfl rfl (by decide) (stp_indexAddr_row rfl sl_S_api_Bind rfl rfl rfl (by omega) (bdDs_get hu) (by decide)) ?_
          first | refine awps_stp0 rfl rfl (by decide) (stp_fieldAddr rfl fo_api_Bind_1 rfl) ?_ | refine awps_stp0 rfl rfl (by decide) (stp_fieldAddr_elp rfl fo_api_Bind_1 rfl) ?_
          first | refine awps_stp0 rfl rfl (by decide) (stp_load_all rfl tf_api_Term rfl rfl rfl rfl) ?_ | refine awps_stp0 rfl rfl (by decide) (stp_load rfl tf_api_Term rfl rfl rfl rfl rfl) ?_ | refine awps_stp0 rfl rfl (by decide) (stp_load_elpa rfl tf_api_Term rfl rfl) ?_ | refine awps_stp0 rfl rfl (by decide) (stp_load_elpn rfl tf_api_Term rfl rfl rfl) ?_
          refine awps_call (avs := [_, _]) true rfl rfl rfl (by decide) en_almagestref1_Apply rfl rfl (rApply_ok [⟨s, t⟩] hone u.t hum.1.2 hum.2) rfl rfl ?_; refine awps_stp0 rfl rfl (by decide) (stp_move (.inl rfl) rfl) ?_; refine awps_stp0 rfl rfl (by decide) (stp_extract rfl rfl rfl) ?_; refine awps_stp0 rfl rfl (by decide) (stp_extract rfl rfl rfl) ?_
          refine awps_stp1 rfl rfl (by decide) (stp_alloc 12 rfl zv_api_Term rfl) rfl ?_; refine awps_store rfl rfl rfl tf_api_Term rfl rfl rfl rfl rfl rfl rfl rfl rfl ?_; refine awps_stp0 rfl rfl (by decide) (stp_move (.inr rfl) rfl) ?_; refine awps_nil ?_; refine thenQ_nil ?_; refine awp_seq ?_; refine awp_seq ?_; refine awp_region ?_
          refine awps_stp0 rfl rfl (by decide) (stp_move (.inl rfl) rfl) ?_; refine awps_stp0 rfl rfl (by decide) (stp_not rfl rfl) ?_; refine awps_nil ?_; refine thenQ_nil ?_; refine awp_cond rfl (fun c3 => ?_) (fun c3 => ?_)
          · try simp only [↓str_beq_t, ↓str_beq_f, decide_eq_true_eq, decide_eq_false_iff_not, Bool.not_eq_true', Bool.not_eq_false', Int.not_lt, Int.not_le, beq_iff_eq, beq_eq_false_iff_ne, bne_iff_ne, bne_eq_false_iff_eq, ne_eq] at c3
            refine awp_seq ?_; refine awp_region ?_; refine awps_stp0 rfl rfl (by decide) (stp_move (.inr rfl) rfl) ?_; refine awps_stp0 rfl rfl (by decide) (stp_move (.inr rfl) rfl) ?_; refine awps_nil ?_; refine thenQ_nil ?_; refine awp_ret ?_; refine thenQ_ret (inQ_ret (thenQ_ret (thenQ_ret (inQ_ret (thenQ_ret (?_))))))
            -- leaf 0Tg26Tg31F1T2T3T
            refine ret0 (noL hL) (.inl rfl) (resAs_tmp rfl (resAs_tmp rfl (resAs_nil))) ?_ ?_
            · rfl
            first
            | (refine ⟨.inr ?_, rfl⟩
               have e1 : rsetL l s t = setX l s t k := by rw [rsetL, if_pos hgood, hkl, setX_end]
               have e2 : rsetO l s t = decide (((bdDs (setX l s t k)).length : Int) ≤ 16) := by
                 rw [rsetO, hgood, hfl, Bool.true_and, Bool.eq_iff_iff]; simp only [decide_eq_true_eq]; omega
               rw [e1, e2]; rfl)
            | (refine ⟨.inl ⟨?_, rfl⟩, rfl⟩
               refine List.all_eq_false.2 ⟨u, List.mem_of_getElem? hu, ?_⟩
               simp only [intoE]
               have h3 : mayT (putT [⟨s, t⟩] u.t) = false := by simpa using c3
               simp [h3]; done)
            | trace_state
          try simp only [↓str_beq_t, ↓str_beq_f, decide_eq_true_eq, decide_eq_false_iff_not, Bool.not_eq_true', Bool.not_eq_false', Int.not_lt, Int.not_le, beq_iff_eq, beq_eq_false_iff_ne, bne_iff_ne, bne_eq_false_iff_eq, ne_eq] at c3
          have hput : intoT [⟨s, t⟩] u.t = putT [⟨s, t⟩] u.t := by rw [intoT, if_pos (by simpa using c3)]
          rw [hput]
          refine awp_skip ?_; refine thenQ_nil ?_; refine awp_drawG 9 mixed rfl rfl rfl rfl ?_; refine MGo_c0 rfl (by decide) (.run rfl (stp_move (.inl rfl) rfl)) ?_; refine MGo_c0 rfl (by decide) (.run rfl (stp_move (.inl rfl) rfl)) ?_; refine MGo_c0 rfl (by decide) (.run rfl (stp_move (.inl rfl) rfl)) ?_
          first | refine MGo_c0 rfl (by decide) (.run rfl (stp_indexAddr rfl sl_S_api_Bind rfl rfl (by omega) (bdDs_get hu))) ?_ | refine MGo_c0 rfl (by decide) (.run rfl (stp_indexAddr_rowd rfl sl_S_api_Bind rfl rfl rfl (by omega) (bdDs_get hu))) ?_ | refine MGo_c0 rfl (by decide) (.run rfl (stp_indexAddr_row rfl sl_S_api_Bind rfl rfl rfl (by omega) (bdDs_get hu) (by decide))) ?_
          first | refine MGo_c0 rfl (by decide) (.run rfl (stp_fieldAddr rfl fo_api_Bind_0 rfl)) ?_ | refine MGo_c0 rfl (by decide) (.run rfl (stp_fieldAddr_elp rfl fo_api_Bind_0 rfl)) ?_
          first | refine MGo_c0 rfl (by decide) (.run rfl (stp_load rfl tf_string rfl rfl rfl rfl rfl)) ?_ | refine MGo_c0 rfl (by decide) (.run rfl (stp_load_elp1 rfl tf_string rfl)) ?_ | refine MGo_c0 rfl (by decide) (.run rfl (stp_load_elpn rfl tf_string rfl rfl rfl)) ?_
          first | refine MGo_c0 rfl (by decide) (.run rfl (stp_load_all rfl tf_api_Term rfl rfl rfl rfl)) ?_ | refine MGo_c0 rfl (by decide) (.run rfl (stp_load rfl tf_api_Term rfl rfl rfl rfl rfl)) ?_ | refine MGo_c0 rfl (by decide) (.run rfl (stp_load_elpa rfl tf_api_Term rfl rfl)) ?_ | refine MGo_c0 rfl (by decide) (.run rfl (stp_load_elpn rfl tf_api_Term rfl rfl rfl)) ?_
          refine MGo_c0 rfl (by decide) (.run rfl (stp_build rfl zv_api_Bind rfl pl_api_Bind rfl rfl)) ?_; refine MGo_c1 rfl (by decide) (.run rfl (stp_buildSlice 72 rfl sl_S_api_Bind zv_api_Bind rfl rfl (by decide) (by decide) (by decide) rfl rfl rfl)) ?_; refine MGo_nil ⟨rfl, rfl, ?_⟩
          first | refine awps_u rfl rfl (by decide) (stpU_append1 73 ta_S_api_Bind rfl rfl rfl rfl rfl rfl rfl rfl (noL hL _) (by first | omega | (simp only [List.length_append, List.length_cons, List.length_nil]; omega)) rfl) rfl ?_ | refine awps_u rfl rfl (by decide) (stpU_appendd 73 ta_S_api_Bind rfl rfl rfl rfl rfl (noL hL _) (by simp) (by first | omega | (simp only [List.length_append, List.length_cons, List.length_nil]; omega)) rfl) rfl ?_ | refine awps_u rfl rfl (by decide) (stpU_appendi 73 ta_S_api_Bind rfl rfl rfl rfl (rfl) rfl (noL hL _) (by simp) (by first | omega | (simp only [List.length_append, List.length_cons, List.length_nil]; omega)) rfl) rfl ?_
          refine awps_stp0 rfl rfl (by decide) (stp_move (.inr rfl) rfl) ?_; refine awps_sub (sub_rename 73 9 (noL hL _) (noL hL _)) ?_; refine awps_nil ?_; refine inQ_nil ?_; refine thenQ_nil ?_; refine awp_region ?_; refine awps_stp0 rfl rfl (by decide) (stp_move (.inl rfl) rfl) ?_; refine awps_stp0 rfl rfl (by decide) (stp_add rfl rfl rfl (by omega)) ?_
          refine awps_stp0 rfl rfl (by decide) (stp_move (.inr rfl) rfl) ?_; refine awps_nil ?_; refine thenQ_nil ?_; refine ⟨?_, ?_, ?_⟩
          · skip
            omega
          · skip
            refine ⟨by omega, fun j b hj hb => ?_⟩
            by_cases hjk : j < k
            · exact hp.2 j b hjk hb
            · rw [show j = k by omega] at hb
              first
                | (rw [hu] at hb; cases hb; simpa using c3)
                | (have := (List.getElem?_eq_some_iff.1 hb).1; omega)
          exact sub_re (SubT.cons (lk_eq rfl (by first | rfl | simp)) (SubT.cons (lk_eq rfl (by first | rfl | simp)) (SubT.cons (lk_eq rfl (by first | rfl | simp)) (SubT.cons (lk_eq rfl (by first | rfl | simp)) (SubT.cons (lk_eq rfl (by first | rfl | simp)) (SubT.cons (lk_eq rfl (by exact bool_imm (by rw [Bool.eq_iff_iff]; simp only [decide_eq_true_eq]; (try simp only [true_iff]); first | omega | (constructor <;> intro h <;> omega)))) (SubT.cons (lk_eq rfl (by first | rfl | simp)) (SubT.nil)))))))) (SubO.cons (ok_eq rfl (by rfl)) (SubO.cons (ok_eq rfl (by rfl)) (SubO.cons (ok_eq rfl (by exact congrArg (Ob.rowd _ 5 true) (by first | exact (bdDs_snoc _ _).symm.trans (congrArg bdDs (setX_done hu (by omega))) | exact (bdDs_snoc _ _).symm.trans (congrArg bdDs (setX_not hu (by omega))) | exact ((congrArg (· ++ _) (bdDs_snoc _ _).symm).trans (bdDs_snoc _ _).symm).trans (congrArg bdDs (setX_here hu (by omega))) | exact (bdDs_snoc _ _).symm.trans (congrArg bdDs (setX_last2 (by omega) (by omega))) | exact congrArg bdDs (setX_stay (by omega) (by omega)) | (exfalso; omega)))) (SubO.nil)))) rfl rfl (noL' (noL hL) _)
        try simp only [↓str_beq_t, ↓str_beq_f, decide_eq_true_eq, decide_eq_false_iff_not, Bool.not_eq_true', Bool.not_eq_false', Int.not_lt, Int.not_le, beq_iff_eq, beq_eq_false_iff_ne, bne_iff_ne, bne_eq_false_iff_eq, ne_eq] at c2
        refine awp_skip ?_; refine inQ_nil ?_; refine thenQ_nil ?_; refine awp_region ?_; refine awps_stp0 rfl rfl (by decide) (stp_move (.inl rfl) rfl) ?_; refine awps_stp0 rfl rfl (by decide) (stp_add rfl rfl rfl (by omega)) ?_; refine awps_stp0 rfl rfl (by decide) (stp_move (.inr rfl) rfl) ?_; refine awps_nil ?_; refine thenQ_nil ?_; refine ⟨?_, ?_, ?_⟩
        · skip
          omega
        · skip
          refine ⟨by omega, fun j b hj hb => ?_⟩
          by_cases hjk : j < k
          · exact hp.2 j b hjk hb
          · rw [show j = k by omega] at hb
            first
              | (rw [hu] at hb; cases hb; simpa using c3)
              | (have := (List.getElem?_eq_some_iff.1 hb).1; omega)
        exact sub_re (SubT.cons (lk_eq rfl (by first | rfl | simp)) (SubT.cons (lk_eq rfl (by first | rfl | simp)) (SubT.cons (lk_eq rfl (by first | rfl | simp)) (SubT.cons (lk_eq rfl (by first | rfl | simp)) (SubT.cons (lk_eq rfl (by first | rfl | simp)) (SubT.cons (lk_eq rfl (by exact bool_imm (by rw [Bool.eq_iff_iff]; simp only [decide_eq_true_eq]; (try simp only [true_iff]); first | omega | (constructor <;> intro h <;> omega)))) (SubT.cons (lk_eq rfl (by first | rfl | simp)) (SubT.nil)))))))) (SubO.cons (ok_eq rfl (by rfl)) (SubO.cons (ok_eq rfl (by rfl)) (SubO.cons (ok_eq rfl (by exact congrArg (Ob.rowd _ 5 true) (by first | exact (bdDs_snoc _ _).symm.trans (congrArg bdDs (setX_done hu (by omega))) | exact (bdDs_snoc _ _).symm.trans (congrArg bdDs (setX_not hu (by omega))) | exact ((congrArg (· ++ _) (bdDs_snoc _ _).symm).trans (bdDs_snoc _ _).symm).trans (congrArg bdDs (setX_here hu (by omega))) | exact (bdDs_snoc _ _).symm.trans (congrArg bdDs (setX_last2 (by omega) (by omega))) | exact congrArg bdDs (setX_stay (by omega) (by omega)) | (exfalso; omega)))) (SubO.nil)))) rfl rfl (noL' (noL hL) _)
      try simp only [↓str_beq_t, ↓str_beq_f, decide_eq_true_eq, decide_eq_false_iff_not, Bool.not_eq_true', Bool.not_eq_false', Int.not_lt, Int.not_le, beq_iff_eq, beq_eq_false_iff_ne, bne_iff_ne, bne_eq_false_iff_eq, ne_eq] at c1
      have hC : k < posB l s := by
        have hne : v.name ≠ s := fun e => by have := (hasB_no l s).1 hh v (List.mem_of_getElem? hv); exact this e
        have h1 : ltS v.name s = true := by
          have h3 : (Op.bytesLess v.name.toList s.toList || v.name.toList == s.toList) = true := by simpa using c1
          simp only [Bool.or_eq_true, str_beq_t] at h3
          exact h3.resolve_right hne
        rcases Nat.lt_or_ge k (posB l s) with h2 | h2
        · exact h2
        · have h4 : posB l s = k := by omega
          have := hps.2 v (by rw [h4]; exact hv); rw [h1] at this; cases this
      refine awp_skip ?_; refine thenQ_nil ?_; refine awp_seq ?_; refine awp_region ?_; refine awps_stp0 rfl rfl (by decide) (stp_move (.inl rfl) rfl) ?_; refine awps_stp0 rfl rfl (by decide) (stp_move (.inl rfl) rfl) ?_
      first | refine awps_stp0 rfl rfl (by decide) (stp_len_dat rfl sl_S_api_Bind rfl) ?_ | refine awps_stp0 rfl rfl (by decide) (stp_len_rowd rfl sl_S_api_Bind rfl rfl) ?_ | refine awps_stp0 rfl rfl (by decide) (stp_len_nil rfl sl_S_api_Bind rfl) ?_ | refine awps_stp0 rfl rfl (by decide) (stp_len_vw rfl sl_S_api_Bind rfl) ?_
      refine awps_stp0 rfl rfl (by decide) (stp_binI rfl rfl rfl rfl) ?_; refine awps_nil ?_; refine thenQ_nil ?_; refine awp_cond rfl (fun c2 => ?_) (fun c2 => ?_)
      · try simp only [↓str_beq_t, ↓str_beq_f, decide_eq_true_eq, decide_eq_false_iff_not, Bool.not_eq_true', Bool.not_eq_false', Int.not_lt, Int.not_le, beq_iff_eq, beq_eq_false_iff_ne, bne_iff_ne, bne_eq_false_iff_eq, ne_eq] at c2
        obtain ⟨u, hu⟩ := get_of_lt (l := l) (k := k) (by omega)
        have hum := hl.el u (List.mem_of_getElem? hu)
        refine awp_seq ?_; refine awp_region ?_; refine awps_stp0 rfl rfl (by decide) (stp_move (.inl rfl) rfl) ?_; refine awps_stp0 rfl rfl (by decide) (stp_move (.inl rfl) rfl) ?_; refine awps_stp0 rfl rfl (by decide) (stp_move (.inl rfl) rfl) ?_
        first | refine awps_stp0 rfl rfl (by decide) (stp_indexAddr rfl sl_S_api_Bind rfl rfl (by omega) (bdDs_get hu)) ?_ | refine awps_stp0 rfl rfl (by decide) (stp_indexAddr_rowd rfl sl_S_api_Bind rfl rfl rfl (by omega) (bdDs_get hu)) ?_ | refine awps_stp0 rfl rfl (by decide) (stp_indexAddr_row rfl sl_S_api_Bind rfl rfl rfl (by omega) (bdDs_get hu) (by decide)) ?_
        first | refine awps_stp0 rfl rfl (by decide) (stp_fieldAddr rfl fo_api_Bind_1 rfl) ?_ | refine awps_stp0 rfl rfl (by decide) (stp_fieldAddr_elp rfl fo_api_Bind_1 rfl) ?_
        first | refine awps_stp0 rfl rfl (by decide) (stp_load_all rfl tf_api_Term rfl rfl rfl rfl) ?_ | refine awps_stp0 rfl rfl (by decide) (stp_load rfl tf_api_Term rfl rfl rfl rfl rfl) ?_ | refine awps_stp0 rfl rfl (by decide) (stp_load_elpa rfl tf_api_Term rfl rfl) ?_ | refine awps_stp0 rfl rfl (by decide) (stp_load_elpn rfl tf_api_Term rfl rfl rfl) ?_
        refine awps_call (avs := [_, _]) true rfl rfl rfl (by decide) en_almagestref1_Apply rfl rfl (rApply_ok [⟨s, t⟩] hone u.t hum.1.2 hum.2) rfl rfl ?_; refine awps_stp0 rfl rfl (by decide) (stp_move (.inl rfl) rfl) ?_; refine awps_stp0 rfl rfl (by decide) (stp_extract rfl rfl rfl) ?_; refine awps_stp0 rfl rfl (by decide) (stp_extract rfl rfl rfl) ?_
        refine awps_stp1 rfl rfl (by decide) (stp_alloc 12 rfl zv_api_Term rfl) rfl ?_; refine awps_store rfl rfl rfl tf_api_Term rfl rfl rfl rfl rfl rfl rfl rfl rfl ?_; refine awps_stp0 rfl rfl (by decide) (stp_move (.inr rfl) rfl) ?_; refine awps_nil ?_; refine thenQ_nil ?_; refine awp_seq ?_; refine awp_seq ?_; refine awp_region ?_
        refine awps_stp0 rfl rfl (by decide) (stp_move (.inl rfl) rfl) ?_; refine awps_stp0 rfl rfl (by decide) (stp_not rfl rfl) ?_; refine awps_nil ?_; refine thenQ_nil ?_; refine awp_cond rfl (fun c3 => ?_) (fun c3 => ?_)
        · try simp only [↓str_beq_t, ↓str_beq_f, decide_eq_true_eq, decide_eq_false_iff_not, Bool.not_eq_true', Bool.not_eq_false', Int.not_lt, Int.not_le, beq_iff_eq, beq_eq_false_iff_ne, bne_iff_ne, bne_eq_false_iff_eq, ne_eq] at c3
          refine awp_seq ?_; refine awp_region ?_; refine awps_stp0 rfl rfl (by decide) (stp_move (.inr rfl) rfl) ?_; refine awps_stp0 rfl rfl (by decide) (stp_move (.inr rfl) rfl) ?_; refine awps_nil ?_; refine thenQ_nil ?_; refine awp_ret ?_; refine thenQ_ret (inQ_ret (thenQ_ret (thenQ_ret (inQ_ret (thenQ_ret (?_))))))
          -- leaf 0Tg26Tg31F1F2T3T
          refine ret0 (noL hL) (.inl rfl) (resAs_tmp rfl (resAs_tmp rfl (resAs_nil))) ?_ ?_
          · rfl
          first
          | (refine ⟨.inr ?_, rfl⟩
             have e1 : rsetL l s t = setX l s t k := by rw [rsetL, if_pos hgood, hkl, setX_end]
             have e2 : rsetO l s t = decide (((bdDs (setX l s t k)).length : Int) ≤ 16) := by
               rw [rsetO, hgood, hfl, Bool.true_and, Bool.eq_iff_iff]; simp only [decide_eq_true_eq]; omega
             rw [e1, e2]; rfl)
          | (refine ⟨.inl ⟨?_, rfl⟩, rfl⟩
             refine List.all_eq_false.2 ⟨u, List.mem_of_getElem? hu, ?_⟩
             simp only [intoE]
             have h3 : mayT (putT [⟨s, t⟩] u.t) = false := by simpa using c3
             simp [h3]; done)
          | trace_state
        try simp only [↓str_beq_t, ↓str_beq_f, decide_eq_true_eq, decide_eq_false_iff_not, Bool.not_eq_true', Bool.not_eq_false', Int.not_lt, Int.not_le, beq_iff_eq, beq_eq_false_iff_ne, bne_iff_ne, bne_eq_false_iff_eq, ne_eq] at c3
        have hput : intoT [⟨s, t⟩] u.t = putT [⟨s, t⟩] u.t := by rw [intoT, if_pos (by simpa using c3)]
        rw [hput]
        refine awp_skip ?_; refine thenQ_nil ?_; refine awp_drawG 9 mixed rfl rfl rfl rfl ?_; refine MGo_c0 rfl (by decide) (.run rfl (stp_move (.inl rfl) rfl)) ?_; refine MGo_c0 rfl (by decide) (.run rfl (stp_move (.inl rfl) rfl)) ?_; refine MGo_c0 rfl (by decide) (.run rfl (stp_move (.inl rfl) rfl)) ?_
        first | refine MGo_c0 rfl (by decide) (.run rfl (stp_indexAddr rfl sl_S_api_Bind rfl rfl (by omega) (bdDs_get hu))) ?_ | refine MGo_c0 rfl (by decide) (.run rfl (stp_indexAddr_rowd rfl sl_S_api_Bind rfl rfl rfl (by omega) (bdDs_get hu))) ?_ | refine MGo_c0 rfl (by decide) (.run rfl (stp_indexAddr_row rfl sl_S_api_Bind rfl rfl rfl (by omega) (bdDs_get hu) (by decide))) ?_
        first | refine MGo_c0 rfl (by decide) (.run rfl (stp_fieldAddr rfl fo_api_Bind_0 rfl)) ?_ | refine MGo_c0 rfl (by decide) (.run rfl (stp_fieldAddr_elp rfl fo_api_Bind_0 rfl)) ?_
        first | refine MGo_c0 rfl (by decide) (.run rfl (stp_load rfl tf_string rfl rfl rfl rfl rfl)) ?_ | refine MGo_c0 rfl (by decide) (.run rfl (stp_load_elp1 rfl tf_string rfl)) ?_ | refine MGo_c0 rfl (by decide) (.run rfl (stp_load_elpn rfl tf_string rfl rfl rfl)) ?_
        first | refine MGo_c0 rfl (by decide) (.run rfl (stp_load_all rfl tf_api_Term rfl rfl rfl rfl)) ?_ | refine MGo_c0 rfl (by decide) (.run rfl (stp_load rfl tf_api_Term rfl rfl rfl rfl rfl)) ?_ | refine MGo_c0 rfl (by decide) (.run rfl (stp_load_elpa rfl tf_api_Term rfl rfl)) ?_ | refine MGo_c0 rfl (by decide) (.run rfl (stp_load_elpn rfl tf_api_Term rfl rfl rfl)) ?_
        refine MGo_c0 rfl (by decide) (.run rfl (stp_build rfl zv_api_Bind rfl pl_api_Bind rfl rfl)) ?_; refine MGo_c1 rfl (by decide) (.run rfl (stp_buildSlice 72 rfl sl_S_api_Bind zv_api_Bind rfl rfl (by decide) (by decide) (by decide) rfl rfl rfl)) ?_; refine MGo_nil ⟨rfl, rfl, ?_⟩
        first | refine awps_u rfl rfl (by decide) (stpU_append1 73 ta_S_api_Bind rfl rfl rfl rfl rfl rfl rfl rfl (noL hL _) (by first | omega | (simp only [List.length_append, List.length_cons, List.length_nil]; omega)) rfl) rfl ?_ | refine awps_u rfl rfl (by decide) (stpU_appendd 73 ta_S_api_Bind rfl rfl rfl rfl rfl (noL hL _) (by simp) (by first | omega | (simp only [List.length_append, List.length_cons, List.length_nil]; omega)) rfl) rfl ?_ | refine awps_u rfl rfl (by decide) (stpU_appendi 73 ta_S_api_Bind rfl rfl rfl rfl (rfl) rfl (noL hL _) (by simp) (by first | omega | (simp only [List.length_append, List.length_cons, List.length_nil]; omega)) rfl) rfl ?_
        refine awps_stp0 rfl rfl (by decide) (stp_move (.inr rfl) rfl) ?_; refine awps_sub (sub_rename 73 9 (noL hL _) (noL hL _)) ?_; refine awps_nil ?_; refine inQ_nil ?_; refine thenQ_nil ?_; refine awp_region ?_; refine awps_stp0 rfl rfl (by decide) (stp_move (.inl rfl) rfl) ?_; refine awps_stp0 rfl rfl (by decide) (stp_add rfl rfl rfl (by omega)) ?_
        refine awps_stp0 rfl rfl (by decide) (stp_move (.inr rfl) rfl) ?_; refine awps_nil ?_; refine thenQ_nil ?_; refine ⟨?_, ?_, ?_⟩
        · skip
          omega
        · skip
          refine ⟨by omega, fun j b hj hb => ?_⟩
          by_cases hjk : j < k
          · exact hp.2 j b hjk hb
          · rw [show j = k by omega] at hb
            first
              | (rw [hu] at hb; cases hb; simpa using c3)
              | (have := (List.getElem?_eq_some_iff.1 hb).1; omega)
        exact sub_re (SubT.cons (lk_eq rfl (by first | rfl | simp)) (SubT.cons (lk_eq rfl (by first | rfl | simp)) (SubT.cons (lk_eq rfl (by first | rfl | simp)) (SubT.cons (lk_eq rfl (by first | rfl | simp)) (SubT.cons (lk_eq rfl (by first | rfl | simp)) (SubT.cons (lk_eq rfl (by exact bool_imm (by rw [Bool.eq_iff_iff]; simp only [decide_eq_true_eq]; (try simp only [true_iff]); first | omega | (constructor <;> intro h <;> omega)))) (SubT.cons (lk_eq rfl (by first | rfl | simp)) (SubT.nil)))))))) (SubO.cons (ok_eq rfl (by rfl)) (SubO.cons (ok_eq rfl (by rfl)) (SubO.cons (ok_eq rfl (by exact congrArg (Ob.rowd _ 5 true) (by first | exact (bdDs_snoc _ _).symm.trans (congrArg bdDs (setX_done hu (by omega))) | exact (bdDs_snoc _ _).symm.trans (congrArg bdDs (setX_not hu (by omega))) | exact ((congrArg (· ++ _) (bdDs_snoc _ _).symm).trans (bdDs_snoc _ _).symm).trans (congrArg bdDs (setX_here hu (by omega))) | exact (bdDs_snoc _ _).symm.trans (congrArg bdDs (setX_last2 (by omega) (by omega))) | exact congrArg bdDs (setX_stay (by omega) (by omega)) | (exfalso; omega)))) (SubO.nil)))) rfl rfl (noL' (noL hL) _)
      try simp only [↓str_beq_t, ↓str_beq_f, decide_eq_true_eq, decide_eq_false_iff_not, Bool.not_eq_true', Bool.not_eq_false', Int.not_lt, Int.not_le, beq_iff_eq, beq_eq_false_iff_ne, bne_iff_ne, bne_eq_false_iff_eq, ne_eq] at c2
      refine awp_skip ?_; refine inQ_nil ?_; refine thenQ_nil ?_; refine awp_region ?_; refine awps_stp0 rfl rfl (by decide) (stp_move (.inl rfl) rfl) ?_; refine awps_stp0 rfl rfl (by decide) (stp_add rfl rfl rfl (by omega)) ?_; refine awps_stp0 rfl rfl (by decide) (stp_move (.inr rfl) rfl) ?_; refine awps_nil ?_; refine thenQ_nil ?_; refine ⟨?_, ?_, ?_⟩
      · skip
        omega
      · skip
        refine ⟨by omega, fun j b hj hb => ?_⟩
        by_cases hjk : j < k
        · exact hp.2 j b hjk hb
        · rw [show j = k by omega] at hb
          first
            | (rw [hu] at hb; cases hb; simpa using c3)
            | (have := (List.getElem?_eq_some_iff.1 hb).1; omega)
      exact sub_re (SubT.cons (lk_eq rfl (by first | rfl | simp)) (SubT.cons (lk_eq rfl (by first | rfl | simp)) (SubT.cons (lk_eq rfl (by first | rfl | simp)) (SubT.cons (lk_eq rfl (by first | rfl | simp)) (SubT.cons (lk_eq rfl (by first | rfl | simp)) (SubT.cons (lk_eq rfl (by exact bool_imm (by rw [Bool.eq_iff_iff]; simp only [decide_eq_true_eq]; (try simp only [true_iff]); first | omega | (constructor <;> intro h <;> omega)))) (SubT.cons (lk_eq rfl (by first | rfl | simp)) (SubT.nil)))))))) (SubO.cons (ok_eq rfl (by rfl)) (SubO.cons (ok_eq rfl (by rfl)) (SubO.cons (ok_eq rfl (by exact congrArg (Ob.rowd _ 5 true) (by first | exact (bdDs_snoc _ _).symm.trans (congrArg bdDs (setX_done hu (by omega))) | exact (bdDs_snoc _ _).symm.trans (congrArg bdDs (setX_not hu (by omega))) | exact ((congrArg (· ++ _) (bdDs_snoc _ _).symm).trans (bdDs_snoc _ _).symm).trans (congrArg bdDs (setX_here hu (by omega))) | exact (bdDs_snoc _ _).symm.trans (congrArg bdDs (setX_last2 (by omega) (by omega))) | exact congrArg bdDs (setX_stay (by omega) (by omega)) | (exfalso; omega)))) (SubO.nil)))) rfl rfl (noL' (noL hL) _)
    try simp only [↓str_beq_t, ↓str_beq_f, decide_eq_true_eq, decide_eq_false_iff_not, Bool.not_eq_true', Bool.not_eq_false', Int.not_lt, Int.not_le, beq_iff_eq, beq_eq_false_iff_ne, bne_iff_ne, bne_eq_false_iff_eq, ne_eq] at g26
    refine awps_gs rfl rfl rfl rfl (by decide) rfl (by decide) ?_; refine awps_gs rfl rfl rfl rfl (by decide) rfl (by decide) ?_; refine awps_gs rfl rfl rfl rfl (by decide) rfl (by decide) ?_; refine awps_gs rfl rfl rfl rfl (by decide) rfl (by decide) ?_; refine awps_gs rfl rfl rfl rfl (by decide) rfl (by decide) ?_; refine awps_gu rfl rfl rfl (by decide) rfl (by decide) ?_
    refine awps_gu rfl rfl rfl (by decide) rfl (by decide) ?_; refine awps_gu rfl rfl rfl (by decide) rfl (by decide) ?_; refine awps_gu rfl rfl rfl (by decide) rfl (by decide) ?_; refine awps_gu rfl rfl rfl (by decide) rfl (by decide) ?_; refine awps_gu rfl rfl rfl (by decide) rfl (by decide) ?_; refine awps_gu rfl rfl rfl (by decide) rfl (by decide) ?_
    refine awps_gs rfl rfl rfl rfl (by decide) rfl (by decide) ?_; refine awps_stp0 rfl rfl (by decide) (stp_pick rfl rfl rfl) ?_; refine awps_nil ?_; refine thenQ_nil ?_; refine awp_condF rfl ?_; refine awp_skip ?_; refine thenQ_nil ?_; refine awp_seq ?_; refine awp_region ?_; refine awps_stp0 rfl rfl (by decide) (stp_move (.inl rfl) rfl) ?_
    refine awps_stp0 rfl rfl (by decide) (stp_move (.inl rfl) rfl) ?_
    first | refine awps_stp0 rfl rfl (by decide) (stp_len_dat rfl sl_S_api_Bind rfl) ?_ | refine awps_stp0 rfl rfl (by decide) (stp_len_rowd rfl sl_S_api_Bind rfl rfl) ?_ | refine awps_stp0 rfl rfl (by decide) (stp_len_nil rfl sl_S_api_Bind rfl) ?_ | refine awps_stp0 rfl rfl (by decide) (stp_len_vw rfl sl_S_api_Bind rfl) ?_
    refine awps_stp0 rfl rfl (by decide) (stp_binI rfl rfl rfl rfl) ?_; refine awps_nil ?_; refine thenQ_nil ?_; refine awp_cond rfl (fun c2 => ?_) (fun c2 => ?_)
    · try simp only [↓str_beq_t, ↓str_beq_f, decide_eq_true_eq, decide_eq_false_iff_not, Bool.not_eq_true', Bool.not_eq_false', Int.not_lt, Int.not_le, beq_iff_eq, beq_eq_false_iff_ne, bne_iff_ne, bne_eq_false_iff_eq, ne_eq] at c2
      obtain ⟨u, hu⟩ := get_of_lt (l := l) (k := k) (by omega)
      have hum := hl.el u (List.mem_of_getElem? hu)
      refine awp_seq ?_; refine awp_region ?_; refine awps_stp0 rfl rfl (by decide) (stp_move (.inl rfl) rfl) ?_; refine awps_stp0 rfl rfl (by decide) (stp_move (.inl rfl) rfl) ?_; refine awps_stp0 rfl rfl (by decide) (stp_move (.inl rfl) rfl) ?_
      first | refine awps_stp0 rfl rfl (by decide) (stp_indexAddr rfl sl_S_api_Bind rfl rfl (by omega) (bdDs_get hu)) ?_ | refine awps_stp0 rfl rfl (by decide) (stp_indexAddr_rowd rfl sl_S_api_Bind rfl rfl rfl (by omega) (bdDs_get hu)) ?_ | refine awps_stp0 rfl rfl (by decide) (stp_indexAddr_row rfl sl_S_api_Bind rfl rfl rfl (by omega) (bdDs_get hu) (by decide)) ?_
      first | refine awps_stp0 rfl rfl (by decide) (stp_fieldAddr rfl fo_api_Bind_1 rfl) ?_ | refine awps_stp0 rfl rfl (by decide) (stp_fieldAddr_elp rfl fo_api_Bind_1 rfl) ?_
      first | refine awps_stp0 rfl rfl (by decide) (stp_load_all rfl tf_api_Term rfl rfl rfl rfl) ?_ | refine awps_stp0 rfl rfl (by decide) (stp_load rfl tf_api_Term rfl rfl rfl rfl rfl) ?_ | refine awps_stp0 rfl rfl (by decide) (stp_load_elpa rfl tf_api_Term rfl rfl) ?_ | refine awps_stp0 rfl rfl (by decide) (stp_load_elpn rfl tf_api_Term rfl rfl rfl) ?_
      refine awps_call (avs := [_, _]) true rfl rfl rfl (by decide) en_almagestref1_Apply rfl rfl (rApply_ok [⟨s, t⟩] hone u.t hum.1.2 hum.2) rfl rfl ?_; refine awps_stp0 rfl rfl (by decide) (stp_move (.inl rfl) rfl) ?_; refine awps_stp0 rfl rfl (by decide) (stp_extract rfl rfl rfl) ?_; refine awps_stp0 rfl rfl (by decide) (stp_extract rfl rfl rfl) ?_
      refine awps_stp1 rfl rfl (by decide) (stp_alloc 12 rfl zv_api_Term rfl) rfl ?_; refine awps_store rfl rfl rfl tf_api_Term rfl rfl rfl rfl rfl rfl rfl rfl rfl ?_; refine awps_stp0 rfl rfl (by decide) (stp_move (.inr rfl) rfl) ?_; refine awps_nil ?_; refine thenQ_nil ?_; refine awp_seq ?_; refine awp_seq ?_; refine awp_region ?_
      refine awps_stp0 rfl rfl (by decide) (stp_move (.inl rfl) rfl) ?_; refine awps_stp0 rfl rfl (by decide) (stp_not rfl rfl) ?_; refine awps_nil ?_; refine thenQ_nil ?_; refine awp_cond rfl (fun c3 => ?_) (fun c3 => ?_)
      · try simp only [↓str_beq_t, ↓str_beq_f, decide_eq_true_eq, decide_eq_false_iff_not, Bool.not_eq_true', Bool.not_eq_false', Int.not_lt, Int.not_le, beq_iff_eq, beq_eq_false_iff_ne, bne_iff_ne, bne_eq_false_iff_eq, ne_eq] at c3
        refine awp_seq ?_; refine awp_region ?_; refine awps_stp0 rfl rfl (by decide) (stp_move (.inr rfl) rfl) ?_; refine awps_stp0 rfl rfl (by decide) (stp_move (.inr rfl) rfl) ?_; refine awps_nil ?_; refine thenQ_nil ?_; refine awp_ret ?_; refine thenQ_ret (inQ_ret (thenQ_ret (thenQ_ret (inQ_ret (thenQ_ret (?_))))))
        -- leaf 0Tg26F2T3T
        refine ret0 (noL hL) (.inl rfl) (resAs_tmp rfl (resAs_tmp rfl (resAs_nil))) ?_ ?_
        · rfl
        first
        | (refine ⟨.inr ?_, rfl⟩
           have e1 : rsetL l s t = setX l s t k := by rw [rsetL, if_pos hgood, hkl, setX_end]
           have e2 : rsetO l s t = decide (((bdDs (setX l s t k)).length : Int) ≤ 16) := by
             rw [rsetO, hgood, hfl, Bool.true_and, Bool.eq_iff_iff]; simp only [decide_eq_true_eq]; omega
           rw [e1, e2]; rfl)
        | (refine ⟨.inl ⟨?_, rfl⟩, rfl⟩
           refine List.all_eq_false.2 ⟨u, List.mem_of_getElem? hu, ?_⟩
           simp only [intoE]
           have h3 : mayT (putT [⟨s, t⟩] u.t) = false := by simpa using c3
           simp [h3]; done)
        | trace_state
      try simp only [↓str_beq_t, ↓str_beq_f, decide_eq_true_eq, decide_eq_false_iff_not, Bool.not_eq_true', Bool.not_eq_false', Int.not_lt, Int.not_le, beq_iff_eq, beq_eq_false_iff_ne, bne_iff_ne, bne_eq_false_iff_eq, ne_eq] at c3
      have hput : intoT [⟨s, t⟩] u.t = putT [⟨s, t⟩] u.t := by rw [intoT, if_pos (by simpa using c3)]
      rw [hput]
      refine awp_skip ?_; refine thenQ_nil ?_; refine awp_drawG 9 mixed rfl rfl rfl rfl ?_; refine MGo_c0 rfl (by decide) (.run rfl (stp_move (.inl rfl) rfl)) ?_; refine MGo_c0 rfl (by decide) (.run rfl (stp_move (.inl rfl) rfl)) ?_; refine MGo_c0 rfl (by decide) (.run rfl (stp_move (.inl rfl) rfl)) ?_
      first | refine MGo_c0 rfl (by decide) (.run rfl (stp_indexAddr rfl sl_S_api_Bind rfl rfl (by omega) (bdDs_get hu))) ?_ | refine MGo_c0 rfl (by decide) (.run rfl (stp_indexAddr_rowd rfl sl_S_api_Bind rfl rfl rfl (by omega) (bdDs_get hu))) ?_ | refine MGo_c0 rfl (by decide) (.run rfl (stp_indexAddr_row rfl sl_S_api_Bind rfl rfl rfl (by omega) (bdDs_get hu) (by decide))) ?_
      first | refine MGo_c0 rfl (by decide) (.run rfl (stp_fieldAddr rfl fo_api_Bind_0 rfl)) ?_ | refine MGo_c0 rfl (by decide) (.run rfl (stp_fieldAddr_elp rfl fo_api_Bind_0 rfl)) ?_
      first | refine MGo_c0 rfl (by decide) (.run rfl (stp_load rfl tf_string rfl rfl rfl rfl rfl)) ?_ | refine MGo_c0 rfl (by decide) (.run rfl (stp_load_elp1 rfl tf_string rfl)) ?_ | refine MGo_c0 rfl (by decide) (.run rfl (stp_load_elpn rfl tf_string rfl rfl rfl)) ?_
      first | refine MGo_c0 rfl (by decide) (.run rfl (stp_load_all rfl tf_api_Term rfl rfl rfl rfl)) ?_ | refine MGo_c0 rfl (by decide) (.run rfl (stp_load rfl tf_api_Term rfl rfl rfl rfl rfl)) ?_ | refine MGo_c0 rfl (by decide) (.run rfl (stp_load_elpa rfl tf_api_Term rfl rfl)) ?_ | refine MGo_c0 rfl (by decide) (.run rfl (stp_load_elpn rfl tf_api_Term rfl rfl rfl)) ?_
      refine MGo_c0 rfl (by decide) (.run rfl (stp_build rfl zv_api_Bind rfl pl_api_Bind rfl rfl)) ?_; refine MGo_c1 rfl (by decide) (.run rfl (stp_buildSlice 72 rfl sl_S_api_Bind zv_api_Bind rfl rfl (by decide) (by decide) (by decide) rfl rfl rfl)) ?_; refine MGo_nil ⟨rfl, rfl, ?_⟩
      first | refine awps_u rfl rfl (by decide) (stpU_append1 73 ta_S_api_Bind rfl rfl rfl rfl rfl rfl rfl rfl (noL hL _) (by first | omega | (simp only [List.length_append, List.length_cons, List.length_nil]; omega)) rfl) rfl ?_ | refine awps_u rfl rfl (by decide) (stpU_appendd 73 ta_S_api_Bind rfl rfl rfl rfl rfl (noL hL _) (by simp) (by first | omega | (simp only [List.length_append, List.length_cons, List.length_nil]; omega)) rfl) rfl ?_ | refine awps_u rfl rfl (by decide) (stpU_appendi 73 ta_S_api_Bind rfl rfl rfl rfl (rfl) rfl (noL hL _) (by simp) (by first | omega | (simp only [List.length_append, List.length_cons, List.length_nil]; omega)) rfl) rfl ?_
      refine awps_stp0 rfl rfl (by decide) (stp_move (.inr rfl) rfl) ?_; refine awps_sub (sub_rename 73 9 (noL hL _) (noL hL _)) ?_; refine awps_nil ?_; refine inQ_nil ?_; refine thenQ_nil ?_; refine awp_region ?_; refine awps_stp0 rfl rfl (by decide) (stp_move (.inl rfl) rfl) ?_; refine awps_stp0 rfl rfl (by decide) (stp_add rfl rfl rfl (by omega)) ?_
      refine awps_stp0 rfl rfl (by decide) (stp_move (.inr rfl) rfl) ?_; refine awps_nil ?_; refine thenQ_nil ?_; refine ⟨?_, ?_, ?_⟩
      · skip
        omega
      · skip
        refine ⟨by omega, fun j b hj hb => ?_⟩
        by_cases hjk : j < k
        · exact hp.2 j b hjk hb
        · rw [show j = k by omega] at hb
          first
            | (rw [hu] at hb; cases hb; simpa using c3)
            | (have := (List.getElem?_eq_some_iff.1 hb).1; omega)
      exact sub_re (SubT.cons (lk_eq rfl (by first | rfl | simp)) (SubT.cons (lk_eq rfl (by first | rfl | simp)) (SubT.cons (lk_eq rfl (by first | rfl | simp)) (SubT.cons (lk_eq rfl (by first | rfl | simp)) (SubT.cons (lk_eq rfl (by first | rfl | simp)) (SubT.cons (lk_eq rfl (by exact bool_imm (by rw [Bool.eq_iff_iff]; simp only [decide_eq_true_eq]; (try simp only [true_iff]); first | omega | (constructor <;> intro h <;> omega)))) (SubT.cons (lk_eq rfl (by first | rfl | simp)) (SubT.nil)))))))) (SubO.cons (ok_eq rfl (by rfl)) (SubO.cons (ok_eq rfl (by rfl)) (SubO.cons (ok_eq rfl (by exact congrArg (Ob.rowd _ 5 true) (by first | exact (bdDs_snoc _ _).symm.trans (congrArg bdDs (setX_done hu (by omega))) | exact (bdDs_snoc _ _).symm.trans (congrArg bdDs (setX_not hu (by omega))) | exact ((congrArg (· ++ _) (bdDs_snoc _ _).symm).trans (bdDs_snoc _ _).symm).trans (congrArg bdDs (setX_here hu (by omega))) | exact (bdDs_snoc _ _).symm.trans (congrArg bdDs (setX_last2 (by omega) (by omega))) | exact congrArg bdDs (setX_stay (by omega) (by omega)) | (exfalso; omega)))) (SubO.nil)))) rfl rfl (noL' (noL hL) _)
    try simp only [↓str_beq_t, ↓str_beq_f, decide_eq_true_eq, decide_eq_false_iff_not, Bool.not_eq_true', Bool.not_eq_false', Int.not_lt, Int.not_le, beq_iff_eq, beq_eq_false_iff_ne, bne_iff_ne, bne_eq_false_iff_eq, ne_eq] at c2
    refine awp_skip ?_; refine inQ_nil ?_; refine thenQ_nil ?_; refine awp_region ?_; refine awps_stp0 rfl rfl (by decide) (stp_move (.inl rfl) rfl) ?_; refine awps_stp0 rfl rfl (by decide) (stp_add rfl rfl rfl (by omega)) ?_; refine awps_stp0 rfl rfl (by decide) (stp_move (.inr rfl) rfl) ?_; refine awps_nil ?_; refine thenQ_nil ?_; refine ⟨?_, ?_, ?_⟩
    · skip
      omega
    · skip
      refine ⟨by omega, fun j b hj hb => ?_⟩
      by_cases hjk : j < k
      · exact hp.2 j b hjk hb
      · rw [show j = k by omega] at hb
        first
          | (rw [hu] at hb; cases hb; simpa using c3)
          | (have := (List.getElem?_eq_some_iff.1 hb).1; omega)
    exact sub_re (SubT.cons (lk_eq rfl (by first | rfl | simp)) (SubT.cons (lk_eq rfl (by first | rfl | simp)) (SubT.cons (lk_eq rfl (by first | rfl | simp)) (SubT.cons (lk_eq rfl (by first | rfl | simp)) (SubT.cons (lk_eq rfl (by first | rfl | simp)) (SubT.cons (lk_eq rfl (by exact bool_imm (by rw [Bool.eq_iff_iff]; simp only [decide_eq_true_eq]; (try simp only [true_iff]); first | omega | (constructor <;> intro h <;> omega)))) (SubT.cons (lk_eq rfl (by first | rfl | simp)) (SubT.nil)))))))) (SubO.cons (ok_eq rfl (by rfl)) (SubO.cons (ok_eq rfl (by rfl)) (SubO.cons (ok_eq rfl (by exact congrArg (Ob.rowd _ 5 true) (by first | exact (bdDs_snoc _ _).symm.trans (congrArg bdDs (setX_done hu (by omega))) | exact (bdDs_snoc _ _).symm.trans (congrArg bdDs (setX_not hu (by omega))) | exact ((congrArg (· ++ _) (bdDs_snoc _ _).symm).trans (bdDs_snoc _ _).symm).trans (congrArg bdDs (setX_here hu (by omega))) | exact (bdDs_snoc _ _).symm.trans (congrArg bdDs (setX_last2 (by omega) (by omega))) | exact congrArg bdDs (setX_stay (by omega) (by omega)) | (exfalso; omega)))) (SubO.nil)))) rfl rfl (noL' (noL hL) _)
  try simp only [↓str_beq_t, ↓str_beq_f, decide_eq_true_eq, decide_eq_false_iff_not, Bool.not_eq_true', Bool.not_eq_false', Int.not_lt, Int.not_le, beq_iff_eq, beq_eq_false_iff_ne, bne_iff_ne, bne_eq_false_iff_eq, ne_eq] at c0
  have hkl : k = l.length + 1 := by omega
  have hgood : goodB [⟨s, t⟩] l = true := List.all_eq_true.2 fun b hb => by
    obtain ⟨j, hj⟩ := List.getElem?_of_mem hb
    have := hp.2 j b (by have := (List.getElem?_eq_some_iff.1 hj).1; omega) hj
    simp [intoE, this]
  have hfl : (bdDs (setX l s t k)).length = l.length + 1 := by
    rw [hkl, setX_end, bdDs_length, ins_length _ _ _ (by rw [subB_length]; omega), subB_length]
  refine awp_exit ?_; refine thenQ_exit (thenQ_exit (inQ_hit ?_)); refine thenQ_nil ?_; refine awp_seq ?_; refine awp_sub (sub_freeze (l := 9) rfl (by decide) (noL hL _) rfl rfl) ?_; refine awp_region ?_; refine awps_stp0 rfl rfl (by decide) (stp_move (.inl rfl) rfl) ?_; refine awps_stp0 rfl rfl (by decide) (stp_move (.inl rfl) rfl) ?_
  first | refine awps_stp0 rfl rfl (by decide) (stp_len_dat rfl sl_S_api_Bind rfl) ?_ | refine awps_stp0 rfl rfl (by decide) (stp_len_rowd rfl sl_S_api_Bind rfl rfl) ?_ | refine awps_stp0 rfl rfl (by decide) (stp_len_nil rfl sl_S_api_Bind rfl) ?_ | refine awps_stp0 rfl rfl (by decide) (stp_len_vw rfl sl_S_api_Bind rfl) ?_
  refine awps_stp0 rfl rfl (by decide) (stp_binI rfl rfl rfl rfl) ?_; refine awps_stp0 rfl rfl (by decide) (stp_move (.inr rfl) rfl) ?_; refine awps_stp0 rfl rfl (by decide) (stp_move (.inr rfl) rfl) ?_; refine awps_nil ?_; refine thenQ_nil ?_; refine awp_ret ?_
  -- leaf 0F
  refine ret0 (noL hL) (.inl rfl) (resAs_tmp rfl (resAs_tmp rfl (resAs_nil))) ?_ ?_
  · rfl
  first
  | (refine ⟨.inr ?_, rfl⟩
     have e1 : rsetL l s t = setX l s t k := by rw [rsetL, if_pos hgood, hkl, setX_end]
     have e2 : rsetO l s t = decide (((bdDs (setX l s t k)).length : Int) ≤ 16) := by
       rw [rsetO, hgood, hfl, Bool.true_and, Bool.eq_iff_iff]; simp only [decide_eq_true_eq]; omega
     rw [e1, e2]; rfl)
  | (refine ⟨.inl ⟨?_, rfl⟩, rfl⟩
     refine List.all_eq_false.2 ⟨u, List.mem_of_getElem? hu, ?_⟩
     simp only [intoE]
     have h3 : mayT (putT [⟨s, t⟩] u.t) = false := by simpa using c3
     simp [h3]; done)
  | trace_state
end Go.Proofs.YtdecgkhdbfgldaaGreat

set_option linter.unusedVariables false
set_option linter.unusedSimpArgs false
set_option maxRecDepth 8000
namespace Go.Proofs.YtdecgkhdbfgldaaGreat
open Go
theorem sett_set {l : List Bd} {s : ByteArray} {t : Tm} (hb : mayB l = true) (hm : mayT t = true) : setC l s t = settB l s t := by
  have e : (noteL 5 [t]).any (setP l s) = (varsR 5 t).any fun y => decide (y = s) || hasB l y := by
    rw [Bool.eq_iff_iff, List.any_eq_true, List.any_eq_true]
    constructor
    · rintro ⟨y, h1, h2⟩
      exact ⟨y, (varsR_occ hm y).2 ((note5 (may_dle hm) y).1 h1), by simp only [setP, Bool.or_eq_true] at h2 ⊢; exact h2.symm⟩
    · rintro ⟨y, h1, h2⟩
      exact ⟨y, (note5 (may_dle hm) y).2 ((varsR_occ hm y).1 h1), by simp only [setP, Bool.or_eq_true] at h2 ⊢; exact h2.symm⟩
  rw [setC, settB, hb, hm, e]
  cases varB s <;> cases hasB l s <;> simp
theorem setE_of {l : List Bd} {s : ByteArray} {t : Tm} (hb : mayB l = true) (hm : mayT t = true) (hs : settB l s t = true) : setE l s t = (if rsetO l s t = true then 0 else 2) ∧ setL l s t = (if rsetO l s t = true then rsetL l s t else []) := by
  have h := sett_set (s := s) hb hm
  rw [hs] at h
  rw [setE, setL, if_pos h, if_pos h, standE, standL, rsetO, rsetL]
  cases hg : goodB [⟨s, t⟩] l with
  | false => simp
  | true =>
    by_cases hl : l.length ≤ 15
    · simp [hl, show ¬ 16 ≤ l.length by omega]
    · simp [hl, show 16 ≤ l.length by omega]
theorem setE_no {l : List Bd} {s : ByteArray} {t : Tm} (h : ¬ (mayB l = true ∧ mayT t = true ∧ settB l s t = true)) : setE l s t = 1 ∧ setL l s t = [] := by
  have hc : setC l s t = false := by
    cases hc : setC l s t with
    | false => rfl
    | true =>
      have h2 := hc
      simp only [setC, Bool.and_eq_true] at h2
      have := sett_set (s := s) h2.1.1.1 h2.1.2
      exact absurd ⟨h2.1.1.1, h2.1.2, by rw [← this]; exact hc⟩ h
  rw [setE, setL, if_neg (by simp [hc]), if_neg (by simp [hc])]
  exact ⟨rfl, rfl⟩
theorem sett_has {l : List Bd} {s : ByteArray} {t : Tm} (h : settB l s t = true) : hasB l s = false := by
  simp only [settB, Bool.and_eq_true, Bool.not_eq_true'] at h; exact h.1.2
theorem setL_dle {l : List Bd} (hw : ∀ b ∈ l, b.wf) {s : ByteArray} {t : Tm} : ∀ b ∈ setL l s t, dle 5 b.t := by
  intro b hb
  unfold setL at hb
  split at hb
  · rename_i hc
    simp only [setC, Bool.and_eq_true] at hc
    have hbl := mayB_bok hc.1.1.1 hw
    unfold standL at hb
    split at hb
    · cases hb
    · rename_i hn
      simp only [not_or, Bool.not_eq_false] at hn
      simp only [ins, List.mem_append, List.mem_cons] at hb
      have hsub : b ∈ subB [⟨s, t⟩] l → dle 5 b.t := fun h => by
        obtain ⟨x, hx, rfl⟩ := List.mem_map.1 h
        have := List.all_eq_true.1 hn.2 x hx
        simp only [decide_eq_true_eq] at this
        exact may_dle (into_may this).1
      rcases hb with h | rfl | h
      · exact hsub (List.mem_of_mem_take h)
      · exact may_dle hc.1.2
      · exact hsub (List.mem_of_mem_drop h)
  · cases hb
theorem setL_len {l : List Bd} {s : ByteArray} {t : Tm} : (setL l s t).length ≤ 17 := by
  unfold setL
  split
  · unfold standL
    split
    · simp
    · rename_i h
      rw [ins_length _ _ _ (by rw [subB_length]; exact posB_le l s), subB_length]
      simp only [not_or] at h; omega
  · simp
theorem getT_dle {l : List Bd} (hw : ∀ b ∈ l, b.wf) {s : ByteArray} : dle 5 (getT l s) := by
  unfold getT
  split
  · rename_i h
    have hok := mayB_bok h.1 hw
    obtain ⟨b, _, _, hl⟩ := (lookB_has l s hok.ris).2 h.2
    rw [lookT, hl]; exact may_dle (hok.look hl).2
  · intro u hu; cases hu
theorem wgtL_mem {α : Type} (f : α → Int) (m : Int) (hm : m < 1048576) : ∀ (n : Int) (l : List α), (∀ t, t ∈ l → 0 ≤ f t) → 0 ≤ n → wgtL f n l ≤ m → n ≤ m ∧ ∀ u ∈ l, f u ≤ m
  | n, [], _, _, h => ⟨by simpa [wgtL] using h, fun u hu => by cases hu⟩
  | n, a :: l, hf, hn, h => by
    have h1 := wgtL_ge' f n (a :: l) hf
    simp only [wgtL] at h
    rw [if_pos (by omega)] at h
    have h0 := hf a (by simp)
    obtain ⟨h2, h3⟩ := wgtL_mem f m hm (n + f a) l (fun t ht => hf t (by simp [ht])) (by omega) h
    refine ⟨by omega, fun u hu => ?_⟩
    rcases List.mem_cons.1 hu with rfl | hu
    · omega
    · exact h3 u hu
theorem heavy2_no {p : Ask2} (hp : p.wf) (h : heavy2 p = false) : p.B.length ≤ 3000 ∧ p.T.length ≤ 3000 ∧ p.S.length ≤ 3000 ∧ ∀ b ∈ p.B, b.length ≤ 3000 := by
  obtain ⟨l, T, S⟩ := p
  obtain ⟨⟨hl, hwB⟩, ⟨hlT, hwT⟩, hlS, hwS⟩ := hp
  have hrT := wTs_range T hlT hwT
  have hrS := wSs_range S hlS hwS
  have hB : ∀ u, u ∈ l → 0 ≤ wBs u := fun u hu => by
    have := wBs_range u (hwB u hu).1 (hwB u hu).2; omega
  have h1 : wgtL wBs (wTs T + wSs S + l.length) l ≤ 3000 := by
    have := of_decide_eq_false h; simp only at this; omega
  obtain ⟨h2, h3⟩ := wgtL_mem wBs 3000 (by omega) _ l hB (by omega) h1
  have hT : (T.length : Int) ≤ wTs T := wgtL_ge' _ _ T (fun u hu => (wT_range u (Tm.wfs_mem hwT hu)).1)
  have hS : (S.length : Int) ≤ wSs S := wgtL_ge' _ _ S (fun u hu => by simp only [wS]; omega)
  refine ⟨by simp only; omega, by simp only; omega, by simp only; omega, fun b hb => ?_⟩
  have hb2 : (b.length : Int) ≤ wBs b := wgtL_ge' _ _ b (fun u hu => wB_range u ((hwB b hb).2 u hu) |>.1)
  have := h3 b hb
  omega
theorem wgt_dle : ∀ (d : Nat) (t : Tm), wgt d t ≤ 1048575 → dle d t
  | 0, t, h => by
    have h2 : (1048576 : Int) ≤ 1048575 := h
    omega
  | d + 1, t, h => fun u hu => by
    simp only [wgt] at h
    have := (wgtL_mem (wgt d) 1048575 (by omega) _ t.args (fun u _ => wgt_ge d u) (by omega) h).2 u hu
    exact wgt_dle d u this
theorem wBs_dle {l : List Bd} (hw : ∀ b ∈ l, b.wf) (h : wBs l ≤ 1048575) : ∀ b ∈ l, dle 30 b.t := fun b hb => by
  have h1 := (wgtL_mem wB 1048575 (by omega) _ l (fun u hu => (wB_range u (hw u hu)).1) (by omega) h).2 b hb
  have h2 : wgt 30 b.t ≤ 1048575 := by
    simp only [wB, wT] at h1; omega
  exact wgt_dle 30 b.t h2
theorem heavy2_dle {p : Ask2} (hp : p.wf) (h : heavy2 p = false) : ∀ b ∈ p.B, ∀ x ∈ b, dle 30 x.t := by
  obtain ⟨l, T, S⟩ := p
  obtain ⟨⟨hl, hwB⟩, ⟨hlT, hwT⟩, hlS, hwS⟩ := hp
  have hrT := wTs_range T hlT hwT
  have hrS := wSs_range S hlS hwS
  have hB : ∀ u, u ∈ l → 0 ≤ wBs u := fun u hu => by
    have := wBs_range u (hwB u hu).1 (hwB u hu).2; omega
  have h1 : wgtL wBs (wTs T + wSs S + l.length) l ≤ 3000 := by
    have := of_decide_eq_false h; simp only at this; omega
  obtain ⟨h2, h3⟩ := wgtL_mem wBs 3000 (by omega) _ l hB (by omega) h1
  exact fun b hb => wBs_dle (hwB b hb).2 (by have := h3 b hb; omega)
theorem eqT_selfd {d : Nat} {a : Tm} (h : dle d a) : eqT d a a = true := (eqT_iff d a a h).2 rfl
theorem EqBindSelf_ok (d : Nat) (a : Bd) (hd : dle d a.t) (ha : a.wf) : PF 96 [.agg (lift false (bdD a)), .agg (lift false (bdD a))] (bv true) := by
  have ha2 := ha.2
  have key := EqTerm_ok d a.t a.t hd ha2 ha2
  rw [eqT_selfd hd] at key
  refine AC_intro Tryz.func96 rfl Tryz.ntmps96 (Nat.le_of_ble_eq_true rfl) fun c hL hQ hDD => ?_; refine awp_seq ?_; refine awp_region ?_; refine awps_stp1 rfl rfl (by decide) (stp_box 2 rfl rfl rfl) rfl ?_; refine awps_stp1 rfl rfl (by decide) (stp_box 3 rfl rfl rfl) rfl ?_; refine awps_stp0 rfl rfl (by decide) (stp_move (.inr rfl) rfl) ?_; refine awps_nil ?_; refine thenQ_nil ?_
  refine awp_seq ?_; refine awp_region ?_
  first | refine awps_stp0 rfl rfl (by decide) (stp_fieldAddr rfl fo_api_Bind_0 rfl) ?_ | refine awps_stp0 rfl rfl (by decide) (stp_fieldAddr_elp rfl fo_api_Bind_0 rfl) ?_
  first | refine awps_stp0 rfl rfl (by decide) (stp_load rfl tf_string rfl rfl rfl rfl rfl) ?_ | refine awps_stp0 rfl rfl (by decide) (stp_load_elp1 rfl tf_string rfl) ?_ | refine awps_stp0 rfl rfl (by decide) (stp_load_elpn rfl tf_string rfl rfl rfl) ?_
  first | refine awps_stp0 rfl rfl (by decide) (stp_fieldAddr rfl fo_api_Bind_0 rfl) ?_ | refine awps_stp0 rfl rfl (by decide) (stp_fieldAddr_elp rfl fo_api_Bind_0 rfl) ?_
  first | refine awps_stp0 rfl rfl (by decide) (stp_load rfl tf_string rfl rfl rfl rfl rfl) ?_ | refine awps_stp0 rfl rfl (by decide) (stp_load_elp1 rfl tf_string rfl) ?_ | refine awps_stp0 rfl rfl (by decide) (stp_load_elpn rfl tf_string rfl rfl rfl) ?_
  refine awps_stp0 rfl rfl (by decide) (stp_binS rfl rfl rfl rfl) ?_; refine awps_stp0 rfl rfl (by decide) (stp_move (.inl rfl) rfl) ?_; refine awps_split 10 rfl (fun g10 => ?_) (fun g10 => ?_)
  · try simp only [↓str_beq_t, ↓str_beq_f, decide_eq_true_eq, decide_eq_false_iff_not, Bool.not_eq_true', Bool.not_eq_false', Int.not_lt, Int.not_le, beq_iff_eq, beq_eq_false_iff_ne, bne_iff_ne, bne_eq_false_iff_eq, ne_eq] at g10
    first | refine awps_g0 rfl rfl rfl (by decide) rfl (by decide) (stp_fieldAddr rfl fo_api_Bind_1 rfl) ?_ | refine awps_g0 rfl rfl rfl (by decide) rfl (by decide) (stp_fieldAddr_elp rfl fo_api_Bind_1 rfl) ?_
    first | refine awps_g0 rfl rfl rfl (by decide) rfl (by decide) (stp_load_all rfl tf_api_Term rfl rfl rfl rfl) ?_ | refine awps_g0 rfl rfl rfl (by decide) rfl (by decide) (stp_load rfl tf_api_Term rfl rfl rfl rfl rfl) ?_ | refine awps_g0 rfl rfl rfl (by decide) rfl (by decide) (stp_load_elpa rfl tf_api_Term rfl rfl) ?_ | refine awps_g0 rfl rfl rfl (by decide) rfl (by decide) (stp_load_elpn rfl tf_api_Term rfl rfl rfl) ?_
    first | refine awps_g0 rfl rfl rfl (by decide) rfl (by decide) (stp_fieldAddr rfl fo_api_Bind_1 rfl) ?_ | refine awps_g0 rfl rfl rfl (by decide) rfl (by decide) (stp_fieldAddr_elp rfl fo_api_Bind_1 rfl) ?_
    first | refine awps_g0 rfl rfl rfl (by decide) rfl (by decide) (stp_load_all rfl tf_api_Term rfl rfl rfl rfl) ?_ | refine awps_g0 rfl rfl rfl (by decide) rfl (by decide) (stp_load rfl tf_api_Term rfl rfl rfl rfl rfl) ?_ | refine awps_g0 rfl rfl rfl (by decide) rfl (by decide) (stp_load_elpa rfl tf_api_Term rfl rfl) ?_ | refine awps_g0 rfl rfl rfl (by decide) rfl (by decide) (stp_load_elpn rfl tf_api_Term rfl rfl rfl) ?_
    refine awps_g0 rfl rfl rfl (by decide) rfl (by decide) (stp_call (avs := [_, _]) true rfl en_almagestref0_EqTerm rfl rfl (key) (fun _ => rfl) rfl) ?_; refine awps_stp0 rfl rfl (by decide) (stp_pick rfl rfl rfl) ?_; refine awps_stp0 rfl rfl (by decide) (stp_move (.inr rfl) rfl) ?_; refine awps_nil ?_; refine thenQ_nil ?_; refine awp_ret ?_
    -- leaf g10T
    refine ret0 (noL hL) (.inl rfl) (resAs_tmp rfl (resAs_nil)) ?_ ?_
    · rfl
    refine ⟨bool_w ?_, rfl⟩
    first | rfl | simp_all
  try simp only [↓str_beq_t, ↓str_beq_f, decide_eq_true_eq, decide_eq_false_iff_not, Bool.not_eq_true', Bool.not_eq_false', Int.not_lt, Int.not_le, beq_iff_eq, beq_eq_false_iff_ne, bne_iff_ne, bne_eq_false_iff_eq, ne_eq] at g10
  refine awps_gs rfl rfl rfl rfl (by decide) rfl (by decide) ?_; refine awps_gs rfl rfl rfl rfl (by decide) rfl (by decide) ?_; refine awps_gs rfl rfl rfl rfl (by decide) rfl (by decide) ?_; refine awps_gs rfl rfl rfl rfl (by decide) rfl (by decide) ?_; refine awps_gs rfl rfl rfl rfl (by decide) rfl (by decide) ?_; refine awps_stp0 rfl rfl (by decide) (stp_pick rfl rfl rfl) ?_
  refine awps_stp0 rfl rfl (by decide) (stp_move (.inr rfl) rfl) ?_; refine awps_nil ?_; refine thenQ_nil ?_; refine awp_ret ?_
  -- leaf g10F
  refine ret0 (noL hL) (.inl rfl) (resAs_tmp rfl (resAs_nil)) ?_ ?_
  · rfl
  refine ⟨bool_w ?_, rfl⟩
  first | rfl | simp_all
theorem EqBindsSelf_ok (d : Nat) (x : List Bd) (hd : ∀ u ∈ x, dle d u.t) (wx : ∀ u ∈ x, u.wf) (lx : x.length ≤ 140737488351232) : PF 28 [bdA x, bdA x] (bv true) := by
  have hlx := bdDs_length x
  refine AC_intro Tryz.func28 rfl Tryz.ntmps28 (Nat.le_of_ble_eq_true rfl) fun c hL hQ hDD => ?_; refine awp_seq ?_; refine awp_region ?_; refine awps_stp0 rfl rfl (by decide) (stp_move (.inr rfl) rfl) ?_; refine awps_nil ?_; refine thenQ_nil ?_; refine awp_seq ?_; refine awp_seq ?_; refine awp_region ?_; refine awps_stp0 rfl rfl (by decide) (stp_move (.inl rfl) rfl) ?_
  first | refine awps_stp0 rfl rfl (by decide) (stp_len_dat rfl sl_S_api_Bind rfl) ?_ | refine awps_stp0 rfl rfl (by decide) (stp_len_rowd rfl sl_S_api_Bind rfl rfl) ?_ | refine awps_stp0 rfl rfl (by decide) (stp_len_nil rfl sl_S_api_Bind rfl) ?_ | refine awps_stp0 rfl rfl (by decide) (stp_len_vw rfl sl_S_api_Bind rfl) ?_
  refine awps_stp0 rfl rfl (by decide) (stp_move (.inl rfl) rfl) ?_
  first | refine awps_stp0 rfl rfl (by decide) (stp_len_dat rfl sl_S_api_Bind rfl) ?_ | refine awps_stp0 rfl rfl (by decide) (stp_len_rowd rfl sl_S_api_Bind rfl rfl) ?_ | refine awps_stp0 rfl rfl (by decide) (stp_len_nil rfl sl_S_api_Bind rfl) ?_ | refine awps_stp0 rfl rfl (by decide) (stp_len_vw rfl sl_S_api_Bind rfl) ?_
  refine awps_stp0 rfl rfl (by decide) (stp_binI rfl rfl rfl rfl) ?_; refine awps_nil ?_; refine thenQ_nil ?_; refine awp_cond rfl (fun c0 => ?_) (fun c0 => ?_)
  · try simp only [↓str_beq_t, ↓str_beq_f, decide_eq_true_eq, decide_eq_false_iff_not, Bool.not_eq_true', Bool.not_eq_false', Int.not_lt, Int.not_le, beq_iff_eq, beq_eq_false_iff_ne, bne_iff_ne, bne_eq_false_iff_eq, ne_eq] at c0
    refine awp_seq ?_; refine awp_region ?_; refine awps_stp0 rfl rfl (by decide) (stp_move (.inr rfl) rfl) ?_; refine awps_nil ?_; refine thenQ_nil ?_; refine awp_ret ?_; refine thenQ_ret (?_)
    -- leaf 0T
    refine ret0 (noL hL) (.inl rfl) (resAs_tmp rfl (resAs_nil)) ?_ ?_
    · rfl
    first
    | exact ⟨rfl, rfl⟩
    | exact absurd trivial c0
    | exact absurd rfl c0
    | exact absurd c2 (by simp)
    | exact absurd c2 Bool.noConfusion
    | (trace_state; fail)
  try simp only [↓str_beq_t, ↓str_beq_f, decide_eq_true_eq, decide_eq_false_iff_not, Bool.not_eq_true', Bool.not_eq_false', Int.not_lt, Int.not_le, beq_iff_eq, beq_eq_false_iff_ne, bne_iff_ne, bne_eq_false_iff_eq, ne_eq] at c0
  refine awp_skip ?_; refine thenQ_nil ?_; refine awp_seq ?_; refine awp_seq ?_; refine awp_region ?_; refine awps_stp0 rfl rfl (by decide) (stp_move (.inr rfl) rfl) ?_; refine awps_nil ?_; refine thenQ_nil ?_; refine awp_block ?_; refine awp_while (x.length) (fun k => k ≤ x.length) (fun k => ⟨[(0, bdA x), (1, bdA x), (5, iv (k : Int))], []⟩) (by omega) ?_ (fun k hk hp => ?_)
  · exact sub_re (SubT.cons (lk_eq rfl (by first | rfl | simp)) (SubT.cons (lk_eq rfl (by first | rfl | simp)) (SubT.cons (lk_eq rfl (by first | rfl | simp)) (SubT.nil)))) (SubO.nil) rfl rfl (noL' (noL hL) _)
  refine awp_seq ?_; refine awp_seq ?_; refine awp_region ?_; refine awps_stp0 rfl rfl (by decide) (stp_move (.inl rfl) rfl) ?_; refine awps_stp0 rfl rfl (by decide) (stp_move (.inl rfl) rfl) ?_
  first | refine awps_stp0 rfl rfl (by decide) (stp_len_dat rfl sl_S_api_Bind rfl) ?_ | refine awps_stp0 rfl rfl (by decide) (stp_len_rowd rfl sl_S_api_Bind rfl rfl) ?_ | refine awps_stp0 rfl rfl (by decide) (stp_len_nil rfl sl_S_api_Bind rfl) ?_ | refine awps_stp0 rfl rfl (by decide) (stp_len_vw rfl sl_S_api_Bind rfl) ?_
  refine awps_stp0 rfl rfl (by decide) (stp_binI rfl rfl rfl rfl) ?_; refine awps_nil ?_; refine thenQ_nil ?_; refine awp_cond rfl (fun c1 => ?_) (fun c1 => ?_)
  · try simp only [↓str_beq_t, ↓str_beq_f, decide_eq_true_eq, decide_eq_false_iff_not, Bool.not_eq_true', Bool.not_eq_false', Int.not_lt, Int.not_le, beq_iff_eq, beq_eq_false_iff_ne, bne_iff_ne, bne_eq_false_iff_eq, ne_eq] at c1
    obtain ⟨u, hu⟩ := get_of_lt (l := x) (k := k) (by omega)
    refine awp_skip ?_; refine thenQ_nil ?_; refine awp_seq ?_; refine awp_block ?_; refine awp_seq ?_; refine awp_drawG 8 mixed rfl rfl rfl rfl ?_; refine MGo_c0 rfl (by decide) (.run rfl (stp_move (.inl rfl) rfl)) ?_; refine MGo_c0 rfl (by decide) (.run rfl (stp_move (.inl rfl) rfl)) ?_
    first | refine MGo_c0 rfl (by decide) (.run rfl (stp_indexAddr rfl sl_S_api_Bind rfl rfl (by omega) (bdDs_get hu))) ?_ | refine MGo_c0 rfl (by decide) (.run rfl (stp_indexAddr_rowd rfl sl_S_api_Bind rfl rfl rfl (by omega) (bdDs_get hu))) ?_ | refine MGo_c0 rfl (by decide) (.run rfl (stp_indexAddr_row rfl sl_S_api_Bind rfl rfl rfl (by omega) (bdDs_get hu) (by decide))) ?_
    first | refine MGo_c0 rfl (by decide) (.run rfl (stp_load_all rfl tf_api_Bind rfl rfl rfl rfl)) ?_ | refine MGo_c0 rfl (by decide) (.run rfl (stp_load rfl tf_api_Bind rfl rfl rfl rfl rfl)) ?_ | refine MGo_c0 rfl (by decide) (.run rfl (stp_load_elpa rfl tf_api_Bind rfl rfl)) ?_ | refine MGo_c0 rfl (by decide) (.run rfl (stp_load_elpn rfl tf_api_Bind rfl rfl rfl)) ?_
    refine MGo_c0 rfl (by decide) (.run rfl (stp_move (.inl rfl) rfl)) ?_; refine MGo_c0 rfl (by decide) (.run rfl (stp_move (.inl rfl) rfl)) ?_
    first | refine MGo_c0 rfl (by decide) (.run rfl (stp_indexAddr rfl sl_S_api_Bind rfl rfl (by omega) (bdDs_get hu))) ?_ | refine MGo_c0 rfl (by decide) (.run rfl (stp_indexAddr_rowd rfl sl_S_api_Bind rfl rfl rfl (by omega) (bdDs_get hu))) ?_ | refine MGo_c0 rfl (by decide) (.run rfl (stp_indexAddr_row rfl sl_S_api_Bind rfl rfl rfl (by omega) (bdDs_get hu) (by decide))) ?_
    first | refine MGo_c0 rfl (by decide) (.run rfl (stp_load_all rfl tf_api_Bind rfl rfl rfl rfl)) ?_ | refine MGo_c0 rfl (by decide) (.run rfl (stp_load rfl tf_api_Bind rfl rfl rfl rfl rfl)) ?_ | refine MGo_c0 rfl (by decide) (.run rfl (stp_load_elpa rfl tf_api_Bind rfl rfl)) ?_ | refine MGo_c0 rfl (by decide) (.run rfl (stp_load_elpn rfl tf_api_Bind rfl rfl rfl)) ?_
    refine MGo_nil ⟨rfl, rfl, ?_⟩; refine awps_call (avs := [_, _]) true rfl rfl rfl (by decide) en_almagestref0_EqBind rfl rfl (EqBindSelf_ok d u (hd u (List.mem_of_getElem? hu)) (wx u (List.mem_of_getElem? hu))) rfl rfl ?_; refine awps_stp0 rfl rfl (by decide) (stp_not rfl rfl) ?_; refine awps_nil ?_; refine thenQ_nil ?_; refine awp_cond rfl (fun c2 => ?_) (fun c2 => ?_)
    · try simp only [↓str_beq_t, ↓str_beq_f, decide_eq_true_eq, decide_eq_false_iff_not, Bool.not_eq_true', Bool.not_eq_false', Int.not_lt, Int.not_le, beq_iff_eq, beq_eq_false_iff_ne, bne_iff_ne, bne_eq_false_iff_eq, ne_eq] at c2
      refine awp_seq ?_; refine awp_region ?_; refine awps_stp0 rfl rfl (by decide) (stp_move (.inr rfl) rfl) ?_; refine awps_nil ?_; refine thenQ_nil ?_; refine awp_ret ?_; refine inQ_ret (thenQ_ret (thenQ_ret (inQ_ret (thenQ_ret (?_)))))
      -- leaf 0F1T2T
      refine ret0 (noL hL) (.inl rfl) (resAs_tmp rfl (resAs_nil)) ?_ ?_
      · rfl
      first
      | exact ⟨rfl, rfl⟩
      | exact absurd trivial c0
      | exact absurd rfl c0
      | exact absurd c2 (by simp)
      | exact absurd c2 Bool.noConfusion
      | (trace_state; fail)
    try simp only [↓str_beq_t, ↓str_beq_f, decide_eq_true_eq, decide_eq_false_iff_not, Bool.not_eq_true', Bool.not_eq_false', Int.not_lt, Int.not_le, beq_iff_eq, beq_eq_false_iff_ne, bne_iff_ne, bne_eq_false_iff_eq, ne_eq] at c2
    refine awp_skip ?_; refine inQ_nil ?_; refine thenQ_nil ?_; refine awp_region ?_; refine awps_stp0 rfl rfl (by decide) (stp_move (.inl rfl) rfl) ?_; refine awps_stp0 rfl rfl (by decide) (stp_add rfl rfl rfl (by omega)) ?_; refine awps_stp0 rfl rfl (by decide) (stp_move (.inr rfl) rfl) ?_; refine awps_nil ?_; refine thenQ_nil ?_; refine ⟨?_, ?_, ?_⟩
    · skip
      omega
    · skip
      omega
    exact sub_re (SubT.cons (lk_eq rfl (by first | rfl | simp)) (SubT.cons (lk_eq rfl (by first | rfl | simp)) (SubT.cons (lk_eq rfl (by first | rfl | simp)) (SubT.nil)))) (SubO.nil) rfl rfl (noL' (noL hL) _)
  try simp only [↓str_beq_t, ↓str_beq_f, decide_eq_true_eq, decide_eq_false_iff_not, Bool.not_eq_true', Bool.not_eq_false', Int.not_lt, Int.not_le, beq_iff_eq, beq_eq_false_iff_ne, bne_iff_ne, bne_eq_false_iff_eq, ne_eq] at c1
  refine awp_exit ?_; refine thenQ_exit (thenQ_exit (inQ_hit ?_)); refine thenQ_nil ?_; refine awp_seq ?_; refine awp_region ?_; refine awps_stp0 rfl rfl (by decide) (stp_move (.inr rfl) rfl) ?_; refine awps_nil ?_; refine thenQ_nil ?_; refine awp_ret ?_
  -- leaf 0F1F
  refine ret0 (noL hL) (.inl rfl) (resAs_tmp rfl (resAs_nil)) ?_ ?_
  · rfl
  first
  | exact ⟨rfl, rfl⟩
  | exact absurd trivial c0
  | exact absurd rfl c0
  | exact absurd c2 (by simp)
  | exact absurd c2 Bool.noConfusion
  | (trace_state; fail)
theorem applyT_dle2 (l : List Bd) (t : Tm) : dle 5 (applyT l t) := by
  have hz : dle 5 zeroTm := fun u hu => by cases hu
  unfold applyT intoT
  split
  · split
    · rename_i h; exact may_dle h
    · exact hz
  · exact hz
end Go.Proofs.YtdecgkhdbfgldaaGreat
