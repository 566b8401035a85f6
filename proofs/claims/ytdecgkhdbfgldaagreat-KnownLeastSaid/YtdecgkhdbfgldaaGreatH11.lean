/- Part 11 of the proof: Ke, Kg, Kf, Kh, Ki, Kl, La. -/
import Derived.Test.YtdecgkhdbfgldaaGreatH10
set_option linter.unusedVariables false
set_option linter.unusedSimpArgs false
set_option maxRecDepth 8000
namespace Go.Proofs.YtdecgkhdbfgldaaGreat
open Go Go.Maps
def kv (t : Tm) : Lit × List D := (keyM t, tmD t)
def kvT (ts : List Tm) : List (Lit × List D) := ts.map kv
def delT (t : Tm) (m : List Tm) : List Tm := m.filter fun u => !(keyM u).sameKey (keyM t)
def addT (m ts : List Tm) : List Tm := ts.foldl (fun m t => t :: delT t m) m
theorem mvDel_kvT (t : Tm) (m : List Tm) : mvDel (keyM t) (kvT m) = kvT (delT t m) := by
  simp only [mvDel, kvT, delT, List.filter_map]; rfl
theorem addM_kvT : ∀ (ts m : List Tm), addM (kvT m) ts = kvT (addT m ts)
  | [], m => rfl
  | t :: ts, m => by
    have ih := addM_kvT ts (t :: delT t m)
    simp only [addM, addT, List.foldl_cons] at ih ⊢
    rw [← ih]
    have : mvPut (keyM t) (tmD t) (kvT m) = kvT (t :: delT t m) := by rw [mvPut, mvDel_kvT]; rfl
    rw [this]
theorem keyM_eq {a b : Tm} (ha : mayT a = true) (hb : mayT b = true) (h : keyM a = keyM b) : a = b := by
  simp only [keyM, Lit.string.injEq] at h
  exact (keyL_inj 5 a b (may_dle ha) (may_dle hb) (may_shp ha) (may_shp hb) [] [] (by simpa using h)).1
theorem isKey_keyM {t : Tm} (h : mayT t = true) : WideAt.IsKeyLit (keyM t) := (Go.Maps.string_keyed ul_string : Keyed Tryz.prog 9).key (keyOf_key h)
theorem delT_mem {t : Tm} (ht : mayT t = true) {m : List Tm} (hm : ∀ u ∈ m, mayT u = true) {x : Tm} : x ∈ delT t m ↔ x ∈ m ∧ x ≠ t := by
  simp only [delT, List.mem_filter, Bool.not_eq_true']
  refine and_congr_right fun hx => ⟨fun h e => ?_, fun h => Maps.sameKey_ne fun e => h (keyM_eq (hm x hx) ht e)⟩
  rw [e, WideAt.sameKey_self (isKey_keyM ht)] at h; cases h
theorem delT_nodup {t : Tm} {m : List Tm} (h : m.Nodup) : (delT t m).Nodup := h.sublist List.filter_sublist
theorem addT_spec : ∀ (ts m : List Tm), (∀ u ∈ m, mayT u = true) → (∀ u ∈ ts, mayT u = true) → m.Nodup → (addT m ts).Nodup ∧ ∀ x, x ∈ addT m ts ↔ x ∈ m ∨ x ∈ ts
  | [], m, _, _, h => ⟨h, fun x => by simp [addT]⟩
  | t :: ts, m, hm, ht, h => by
    have h0 := ht t (by simp)
    have hmem : ∀ u ∈ t :: delT t m, mayT u = true := fun u hu => by
      rcases List.mem_cons.1 hu with rfl | hu
      · exact h0
      · exact hm u ((delT_mem h0 hm).1 hu).1
    obtain ⟨h1, h2⟩ := addT_spec ts (t :: delT t m) hmem (fun u hu => ht u (by simp [hu])) (List.nodup_cons.2 ⟨fun hx => ((delT_mem h0 hm).1 hx).2 rfl, delT_nodup h⟩)
    refine ⟨h1, fun x => ?_⟩
    rw [addT, List.foldl_cons]
    rw [show (ts.foldl (fun m t => t :: delT t m) (t :: delT t m)) = addT (t :: delT t m) ts from rfl, h2, List.mem_cons, delT_mem h0 hm, List.mem_cons]
    by_cases e : x = t
    · simp [e]
    · simp [e]
def dels (m k : List Tm) : List Tm := k.foldl (fun m t => delT t m) m
theorem dels_spec : ∀ (k m : List Tm), (∀ u ∈ m, mayT u = true) → (∀ u ∈ k, mayT u = true) → m.Nodup → (dels m k).Nodup ∧ ∀ x, x ∈ dels m k ↔ x ∈ m ∧ x ∉ k
  | [], m, _, _, h => ⟨h, fun x => by simp [dels]⟩
  | t :: k, m, hm, hk, h => by
    have h0 := hk t (by simp)
    obtain ⟨h1, h2⟩ := dels_spec k (delT t m) (fun u hu => hm u ((delT_mem h0 hm).1 hu).1) (fun u hu => hk u (by simp [hu])) (delT_nodup h)
    refine ⟨h1, fun x => ?_⟩
    rw [dels, List.foldl_cons, show (k.foldl (fun m t => delT t m) (delT t m)) = dels (delT t m) k from rfl, h2, delT_mem h0 hm, List.mem_cons]
    constructor
    · rintro ⟨⟨a, b⟩, c⟩; exact ⟨a, fun h => h.elim b c⟩
    · rintro ⟨a, b⟩; exact ⟨⟨a, fun e => b (.inl e)⟩, fun e => b (.inr e)⟩
theorem dels_snoc (m : List Tm) {k : List Tm} {j : Nat} {t : Tm} (ht : k[j]? = some t) : dels m (k.take (j + 1)) = delT t (dels m (k.take j)) := by
  rw [take_snoc ht, dels, List.foldl_append]; rfl
theorem delT_perm {t : Tm} (ht : mayT t = true) {m : List Tm} (hm : ∀ u ∈ m, mayT u = true) (hn : m.Nodup) (h : t ∈ m) : (t :: delT t m).Perm m := by
  refine (List.perm_ext_iff_of_nodup (List.nodup_cons.2 ⟨fun hx => ((delT_mem ht hm).1 hx).2 rfl, delT_nodup hn⟩) hn).2 fun x => ?_
  rw [List.mem_cons, delT_mem ht hm]
  by_cases e : x = t
  · subst e; simp [h]
  · simp [e]
theorem kvT_len (m : List Tm) : (kvT m).length = m.length := by simp [kvT]
theorem addT_len (ts m : List Tm) : (addT m ts).length ≤ m.length + ts.length := by
  have := addM_len ts (kvT m)
  rw [addM_kvT, kvT_len, kvT_len] at this
  exact this
noncomputable abbrev wlkK (ts : List Tm) (cur : Option (List D)) : Ob := .mx true Tryz.prog 9 (kvT ts) cur
theorem step_ok (cs : List Cl) (hcl : cs.length ≤ 10000000) (hw : ∀ c ∈ cs, c.wf) (hc : ∀ c ∈ cs, clauseE c = 0) (k : List Tm) (hk : ∀ t ∈ k, AtK t) (hkl : k.length ≤ 1000) (hB : (derL cs k).length ≤ 10000000) :
    PF 133 [.dat false 6 (clDs cs), .dat false 4 (tmDs k)] (.dat false 4 (tmDs (nextL cs k))) := by
  have hlc := clDs_length cs
  have hlk := tmDs_length k
  have hcb : ∀ c ∈ cs, clauseB c = true := fun c hm => by
    have h := hc c hm
    cases h2 : clauseB c with
    | true => rfl
    | false => rw [clauseE, if_pos h2] at h; cases h
  have hder := derL_atk hw hc hk
  have hadd := addT_spec (derL cs k) [] (fun u hu => by cases hu) (fun u hu => (hder u hu).may) List.nodup_nil
  have hmay1 : ∀ u ∈ addT [] (derL cs k), mayT u = true := fun u hu => by
    rcases (hadd.2 u).1 hu with h | h
    · cases h
    · exact (hder u h).may
  have hdel := dels_spec k (addT [] (derL cs k)) hmay1 (fun u hu => (hk u hu).may) hadd.1
  have hmay2 : ∀ u ∈ dels (addT [] (derL cs k)) k, mayT u = true := fun u hu => hmay1 u ((hdel.2 u).1 hu).1
  have hal := addT_len (derL cs k) []
  have hdl : (dels (addT [] (derL cs k)) k).length ≤ (addT [] (derL cs k)).length := (hdel.1.length_le_of_subset fun x hx => ((hdel.2 x).1 hx).1)
  have hadk := fun i => addM_kvT ((cs.take i).flatMap fun c => seekL c.guards c.head k c.body []) []
  have hcur : ∀ i, (k.take i).foldl (fun m t => delT t m) (addT [] (derL cs k)) = dels (addT [] (derL cs k)) (k.take i) := fun i => rfl
  have hnewk : ∀ x ∈ dels (addT [] (derL cs k)) k, AtK x := fun x hx => by
    rcases (hadd.2 x).1 ((hdel.2 x).1 hx).1 with h | h
    · cases h
    · exact hder x h
  have hnewd : ∀ x ∈ newL cs k, dle 5 x := fun x hx => may_dle (hder x (List.mem_filter.1 hx).1).may
  simp only [List.length_nil, Nat.zero_add] at hal
  refine AC_intro Tryz.func133 rfl Tryz.ntmps133 (Nat.le_of_ble_eq_true rfl) fun c hL hQ hDD => ?_; refine awp_seq ?_; refine awp_region ?_; refine awps_stp0 rfl rfl (by decide) (stp_move (.inr rfl) rfl) ?_; refine awps_nil ?_; refine thenQ_nil ?_; refine awp_seq ?_; refine awp_region ?_; refine awps_stp1 rfl rfl (by decide) (stp_makeMx 13 rfl (Go.Maps.string_keyed ul_string)) rfl ?_
  refine awps_stp0 rfl rfl (by decide) (stp_move (.inr rfl) rfl) ?_; refine awps_nil ?_; refine thenQ_nil ?_; refine awp_seq ?_; refine awp_seq ?_; refine awp_region ?_; refine awps_stp0 rfl rfl (by decide) (stp_move (.inl rfl) rfl) ?_
  first | refine awps_stp0 rfl rfl (by decide) (stp_len_dat rfl sl_S_api_Clause rfl) ?_ | refine awps_stp0 rfl rfl (by decide) (stp_len_rowd rfl sl_S_api_Clause rfl rfl) ?_ | refine awps_stp0 rfl rfl (by decide) (stp_len_nil rfl sl_S_api_Clause rfl) ?_ | refine awps_stp0 rfl rfl (by decide) (stp_len_vw rfl sl_S_api_Clause rfl) ?_
  refine awps_stp0 rfl rfl (by decide) (stp_move (.inl rfl) rfl) ?_; refine awps_nil ?_; refine thenQ_nil ?_; refine awp_block ?_
  refine awp_while (cs.length) (fun i => i ≤ cs.length) (fun i => ⟨[(1, .dat false 4 (tmDs k)), (5, .map 13), (14, .dat false 6 (clDs cs)), (15, iv (clDs cs).length), (16, iv (i : Int))], [(13, fndK (addM [] ((cs.take i).flatMap fun c => seekL c.guards c.head k c.body [])))]⟩) (by omega) ?_ (fun i hi hpi => ?_)
  · exact sub_re (SubT.cons (lk_eq rfl (by first | rfl | simp)) (SubT.cons (lk_eq rfl (by first | rfl | simp)) (SubT.cons (lk_eq rfl (by first | rfl | simp)) (SubT.cons (lk_eq rfl (by first | rfl | simp)) (SubT.cons (lk_eq rfl (by first | rfl | simp)) (SubT.nil)))))) (SubO.cons (ok_eq rfl (by rfl)) (SubO.nil)) rfl rfl (noL' (noL hL) _)
  refine awp_seq ?_; refine awp_region ?_; refine awps_stp0 rfl rfl (by decide) (stp_binI rfl rfl rfl rfl) ?_; refine awps_nil ?_; refine thenQ_nil ?_; refine awp_seq ?_; refine awp_cond rfl (fun c0 => ?_) (fun c0 => ?_)
  · try simp only [↓cqA, cqB] at c0
    obtain ⟨q, hq⟩ := get_of_lt (l := cs) (k := i) (by omega)
    have hqm := List.mem_of_getElem? hq
    have hft := flatMap_take (fun c : Cl => seekL c.guards c.head k c.body []) hq
    have hle := flatMap_take_le (fun c : Cl => seekL c.guards c.head k c.body []) cs (i + 1)
    rw [hft, List.length_append] at hle
    have hal2 := addM_len ((cs.take i).flatMap fun c => seekL c.guards c.head k c.body []) []
    have hder2 : (derL cs k).length = (cs.flatMap fun c => seekL c.guards c.head k c.body []).length := rfl
    simp only [List.length_nil, Nat.zero_add] at hal2
    have hsk := seek_ok q (hw q hqm) (hcb q hqm) k hk hkl q.body.length 0 (by omega) [] (addM [] ((cs.take i).flatMap fun c => seekL c.guards c.head k c.body [])) FG_nil (by rw [List.drop_zero]; omega)
    rw [List.drop_zero] at hsk
    have hsk2 := AC_rnE 4 13 (AC_le (.cons .refl (.cons .refl (.cons .refl (.cons .nil (.cons .refl .nil))))) hsk)
    refine awp_skip ?_; refine thenQ_nil ?_; refine awp_seq ?_; refine awp_block ?_; refine awp_seq ?_; refine awp_region ?_
    first | refine awps_stp0 rfl rfl (by decide) (stp_indexAddr rfl sl_S_api_Clause rfl rfl (by omega) (clDs_get hq)) ?_ | refine awps_stp0 rfl rfl (by decide) (stp_indexAddr_rowd rfl sl_S_api_Clause rfl rfl rfl (by omega) (clDs_get hq)) ?_ | refine awps_stp0 rfl rfl (by decide) (stp_indexAddr_row rfl sl_S_api_Clause rfl rfl rfl (by omega) (clDs_get hq) (by decide)) ?_
    first | refine awps_stp0 rfl rfl (by decide) (stp_load_all rfl tf_api_Clause rfl rfl rfl rfl) ?_ | refine awps_stp0 rfl rfl (by decide) (stp_load rfl tf_api_Clause rfl rfl rfl rfl rfl) ?_ | refine awps_stp0 rfl rfl (by decide) (stp_load_elpa rfl tf_api_Clause rfl rfl) ?_ | refine awps_stp0 rfl rfl (by decide) (stp_load_elpn rfl tf_api_Clause rfl rfl rfl) ?_
    refine awps_stp1 rfl rfl (by decide) (stp_alloc 7 rfl zv_api_Clause rfl) rfl ?_; refine awps_store rfl rfl rfl tf_api_Clause rfl rfl rfl rfl rfl rfl rfl rfl rfl ?_; refine awps_nil ?_; refine thenQ_nil ?_; refine awp_region ?_
    first | refine awps_stp0 rfl rfl (by decide) (stp_load_all rfl tf_api_Clause rfl rfl rfl rfl) ?_ | refine awps_stp0 rfl rfl (by decide) (stp_load rfl tf_api_Clause rfl rfl rfl rfl rfl) ?_ | refine awps_stp0 rfl rfl (by decide) (stp_load_elpa rfl tf_api_Clause rfl rfl) ?_ | refine awps_stp0 rfl rfl (by decide) (stp_load_elpn rfl tf_api_Clause rfl rfl rfl) ?_
    refine awps_stp0 rfl rfl (by decide) (stp_move (.inl rfl) rfl) ?_; refine awps_stp0 rfl rfl (by decide) (stp_move (.inl rfl) rfl) ?_; refine awps_callP (avs := [_, _, _, _, _]) false rfl rfl rfl (by decide) en_known_seek rfl rfl (hsk2) (rfl) (passO (.cons rfl trivial rfl .nil)) (by rintro r O' ⟨rfl, rfl⟩; exact frB rfl) (by rintro h; cases h) ?_
    rintro r O' ⟨rfl, rfl⟩
    refine awps_nil ?_; refine inQ_nil ?_; refine thenQ_nil ?_; refine awp_region ?_; refine awps_stp0 rfl rfl (by decide) (stp_add rfl rfl rfl (by omega)) ?_; refine awps_stp0 rfl rfl (by decide) (stp_move (.inl rfl) rfl) ?_; refine awps_nil ?_; refine thenQ_nil ?_; refine ⟨?_, ?_, ?_⟩
    · skip
      omega
    · skip
      omega
    exact sub_re (SubT.cons (lk_eq rfl (by first | rfl | simp)) (SubT.cons (lk_eq rfl (by first | rfl | simp)) (SubT.cons (lk_eq rfl (by first | rfl | simp)) (SubT.cons (lk_eq rfl (by first | rfl | simp)) (SubT.cons (lk_eq rfl (by first | rfl | simp)) (SubT.nil)))))) (SubO.cons (ok_eq rfl (by rw [hft, addM_app]; rfl)) (SubO.nil)) rfl rfl (noL' (noL hL) _)
  try simp only [↓cqA, cqB] at c0
  refine awp_exit ?_; refine thenQ_exit (thenQ_exit (inQ_hit ?_)); refine thenQ_nil ?_; refine awp_seq ?_; refine awp_seq ?_
  rw [List.take_of_length_le (l := cs) (i := i) (by omega), show ([] : List (Lit × List D)) = kvT [] from rfl, addM_kvT]
  refine awp_region ?_; refine awps_stp0 rfl rfl (by decide) (stp_move (.inl rfl) rfl) ?_
  first | refine awps_stp0 rfl rfl (by decide) (stp_len_dat rfl sl_S_api_Term rfl) ?_ | refine awps_stp0 rfl rfl (by decide) (stp_len_rowd rfl sl_S_api_Term rfl rfl) ?_ | refine awps_stp0 rfl rfl (by decide) (stp_len_nil rfl sl_S_api_Term rfl) ?_ | refine awps_stp0 rfl rfl (by decide) (stp_len_vw rfl sl_S_api_Term rfl) ?_
  refine awps_stp0 rfl rfl (by decide) (stp_move (.inl rfl) rfl) ?_; refine awps_nil ?_; refine thenQ_nil ?_; refine awp_block ?_; refine awp_while (k.length) (fun j => j ≤ k.length) (fun j => ⟨[(5, .map 13), (25, .dat false 4 (tmDs k)), (26, iv (tmDs k).length), (27, iv (j : Int))], [(13, fndK (kvT (dels (addT [] (derL cs k)) (k.take j))))]⟩) (by omega) ?_ (fun j hj hpj => ?_)
  · exact sub_re (SubT.cons (lk_eq rfl (by first | rfl | simp)) (SubT.cons (lk_eq rfl (by first | rfl | simp)) (SubT.cons (lk_eq rfl (by first | rfl | simp)) (SubT.cons (lk_eq rfl (by first | rfl | simp)) (SubT.nil))))) (SubO.cons (ok_eq rfl (by rfl)) (SubO.nil)) rfl rfl (noL' (noL hL) _)
  refine awp_seq ?_; refine awp_region ?_; refine awps_stp0 rfl rfl (by decide) (stp_binI rfl rfl rfl rfl) ?_; refine awps_nil ?_; refine thenQ_nil ?_; refine awp_seq ?_; refine awp_cond rfl (fun c1 => ?_) (fun c1 => ?_)
  · try simp only [↓cqA, cqB] at c1
    obtain ⟨t, ht⟩ := get_of_lt (l := k) (k := j) (by omega)
    have hta := hk t (List.mem_of_getElem? ht)
    refine awp_skip ?_; refine thenQ_nil ?_; refine awp_seq ?_; refine awp_block ?_; refine awp_seq ?_; refine awp_region ?_
    first | refine awps_stp0 rfl rfl (by decide) (stp_indexAddr rfl sl_S_api_Term rfl rfl (by omega) (tmDs_get ht)) ?_ | refine awps_stp0 rfl rfl (by decide) (stp_indexAddr_rowd rfl sl_S_api_Term rfl rfl rfl (by omega) (tmDs_get ht)) ?_ | refine awps_stp0 rfl rfl (by decide) (stp_indexAddr_row rfl sl_S_api_Term rfl rfl rfl (by omega) (tmDs_get ht) (by decide)) ?_
    first | refine awps_stp0 rfl rfl (by decide) (stp_load_all rfl tf_api_Term rfl rfl rfl rfl) ?_ | refine awps_stp0 rfl rfl (by decide) (stp_load rfl tf_api_Term rfl rfl rfl rfl rfl) ?_ | refine awps_stp0 rfl rfl (by decide) (stp_load_elpa rfl tf_api_Term rfl rfl) ?_ | refine awps_stp0 rfl rfl (by decide) (stp_load_elpn rfl tf_api_Term rfl rfl rfl) ?_
    refine awps_stp1 rfl rfl (by decide) (stp_alloc 9 rfl zv_api_Term rfl) rfl ?_; refine awps_store rfl rfl rfl tf_api_Term rfl rfl rfl rfl rfl rfl rfl rfl rfl ?_; refine awps_nil ?_; refine thenQ_nil ?_; refine awp_region ?_; refine awps_stp0 rfl rfl (by decide) (stp_move (.inl rfl) rfl) ?_
    first | refine awps_stp0 rfl rfl (by decide) (stp_load_all rfl tf_api_Term rfl rfl rfl rfl) ?_ | refine awps_stp0 rfl rfl (by decide) (stp_load rfl tf_api_Term rfl rfl rfl rfl rfl) ?_ | refine awps_stp0 rfl rfl (by decide) (stp_load_elpa rfl tf_api_Term rfl rfl) ?_ | refine awps_stp0 rfl rfl (by decide) (stp_load_elpn rfl tf_api_Term rfl rfl rfl) ?_
    refine awps_call (avs := [_]) true rfl rfl rfl (by decide) en_term_Key rfl rfl (Key_ok 5 t (may_dle hta.may) (may_shp hta.may) hta.wf (by have := ((mayT_iff _).1 hta.may).2.2; omega)) rfl rfl ?_; refine awps_mxDel rfl rfl rfl um_known_found rfl rfl rfl rfl (keyOf_key hta.may) ?_; refine awps_nil ?_; refine inQ_nil ?_; refine thenQ_nil ?_; refine awp_region ?_
    refine awps_stp0 rfl rfl (by decide) (stp_add rfl rfl rfl (by omega)) ?_; refine awps_stp0 rfl rfl (by decide) (stp_move (.inl rfl) rfl) ?_; refine awps_nil ?_; refine thenQ_nil ?_; refine ⟨?_, ?_, ?_⟩
    · skip
      omega
    · skip
      omega
    exact sub_re (SubT.cons (lk_eq rfl (by first | rfl | simp)) (SubT.cons (lk_eq rfl (by first | rfl | simp)) (SubT.cons (lk_eq rfl (by first | rfl | simp)) (SubT.cons (lk_eq rfl (by first | rfl | simp)) (SubT.nil))))) (SubO.cons (ok_eq rfl (by rw [mvDel_kvT, dels_snoc _ ht])) (SubO.nil)) rfl rfl (noL' (noL hL) _)
  try simp only [↓cqA, cqB] at c1
  refine awp_exit ?_; refine thenQ_exit (thenQ_exit (inQ_hit ?_)); refine thenQ_nil ?_; refine awp_seq ?_
  rw [List.take_of_length_le (l := k) (i := j) (by omega)]
  refine awp_region ?_; refine awps_stp0 rfl rfl (by decide) (stp_move (.inr rfl) rfl) ?_; refine awps_nil ?_; refine thenQ_nil ?_; refine awp_seq ?_; refine awp_seq ?_; refine awp_region ?_; refine awps_stp0 rfl rfl (by decide) (stp_move (.inl rfl) rfl) ?_; refine awps_mxRange (l' := 36) rfl rfl rfl (by decide) um_known_found rfl rfl (noL hL _) rfl ?_; refine awps_nil ?_; refine thenQ_nil ?_
  refine awp_block ?_
  refine awp_whileE (α := List Tm × List Tm × Option (List D)) ((dels (addT [] (derL cs k)) k).length) (fun r a => (a.2.1 ++ a.1).Perm (dels (addT [] (derL cs k)) k) ∧ a.2.1.length = r) (fun r a => ⟨[(10, .row 10), (36, .ptr 36 0)], [(10, .rowd 35 4 false (a.2.1.map tmD)), (36, wlkK a.1 a.2.2)]⟩) ((dels (addT [] (derL cs k)) k, [], none)) (⟨.refl _, rfl⟩) ?_ (fun r a hr hpr => ?_)
  · exact Sub.trans (sub_nil_row (t := 10) (l := 10) 35 4 false rfl rfl) (sub_re (SubT.cons (lk_eq rfl (by first | rfl | simp)) (SubT.cons (lk_eq rfl (by first | rfl | simp)) (SubT.nil))) (SubO.cons (ok_eq rfl (by rfl)) (SubO.cons (ok_eq rfl (by rfl)) (SubO.nil))) rfl rfl (noL' (noL hL) _))
  have hpl := hpr.1.length_eq
  rw [List.length_append] at hpl
  have hml : (a.2.1.map tmD).length ≤ 10000000 := by rw [List.length_map]; omega
  refine awp_seq ?_; refine awp_region ?_; refine awps_mxNext rfl rfl rfl (by decide) rfl rfl (fun h0 => ?_) (fun pe hpe => ?_)
  · skip
    have hnil : a.1 = [] := by cases h : a.1 with
      | nil => rfl
      | cons x y => rw [h] at h0; cases h0
    have hdone : a.2.1.Perm (dels (addT [] (derL cs k)) k) := by have := hpr.1; rw [hnil, List.append_nil] at this; exact this
    refine awps_stp0 rfl rfl (by decide) (stp_extract rfl rfl rfl) ?_; refine awps_nil ?_; refine thenQ_nil ?_; refine awp_seq ?_; refine awp_condF rfl ?_; refine awp_exit ?_; refine thenQ_exit (thenQ_exit (inQ_hit ?_)); refine thenQ_nil ?_; refine awp_seq ?_; refine awp_region ?_; refine awps_stp0 rfl rfl (by decide) (stp_move (.inl rfl) rfl) ?_
    refine awps_sort Tryz.srtT (k := 4) (by decide) tf_api_Term (sf := 134) rfl en_term_Compare en_slices_SortFunc_api_Term_api_Term (toD := tmD) (es := a.2.1) (cf := cmpT 5) rfl rfl (by decide) rfl rfl rfl rfl (by omega) (fun x hx y hy => ?_) (fun x _ => by rw [(TP.tm 5).self]; decide) (fun x _ y _ z _ h1 h2 => (TP.tm 5).lt1 h1 (by omega)) (fun x _ y _ z _ h1 h2 h3 => ?_) (fun es' hp2 hs2 => ?_)
    · have ax := hnewk x (hdone.mem_iff.1 hx)
      have ay := hnewk y (hdone.mem_iff.1 hy)
      exact Compare_ok 5 x y (may_dle ax.may) ax.wf ay.wf
    · have h4 := (TP.tm 5).anti x y
      have h5 := (TP.tm 5).anti y z
      have h6 := (TP.tm 5).anti x z
      have h7 := (TP.tm 5).tr z y x (by omega) (by omega)
      omega
    obtain rfl : es' = nextL cs k := by
      have e1 := perm_ss (fun x hx => may_dle (hnewk x (hdone.mem_iff.1 hx)).may) (hdone.nodup_iff.2 hdel.1) hp2 hs2
      rw [e1, nextL]
      refine SS.uniq (srtU_ss fun x hx => may_dle (hnewk x (hdone.mem_iff.1 hx)).may) (srtU_ss hnewd) (fun x => ?_)
      rw [srtU_mem (fun x hx => may_dle (hnewk x (hdone.mem_iff.1 hx)).may), srtU_mem hnewd, hdone.mem_iff, hdel.2, hadd.2, newL, List.mem_filter]
      simp only [Bool.not_eq_true']
      constructor
      · rintro ⟨h1 | h1, h2⟩
        · cases h1
        · refine ⟨h1, ?_⟩
          cases hm : memK k x with
          | false => rfl
          | true => exact absurd ((memK_iff (fun u hu => may_dle (hk u hu).may)).1 hm) h2
      · rintro ⟨h1, h2⟩
        refine ⟨.inr h1, fun h3 => ?_⟩
        rw [(memK_iff (fun u hu => may_dle (hk u hu).may)).2 h3] at h2; cases h2
    refine awps_nil ?_; refine thenQ_nil ?_; refine awp_seq ?_; refine awp_sub (sub_freeze (l := 10) rfl (by decide) (noL hL _) rfl rfl) ?_; refine awp_region ?_; refine awps_stp0 rfl rfl (by decide) (stp_move (.inl rfl) rfl) ?_; refine awps_stp0 rfl rfl (by decide) (stp_move (.inr rfl) rfl) ?_; refine awps_nil ?_; refine thenQ_nil ?_; refine awp_ret ?_
    -- leaf 0F1Ff14.0_0
    refine ret0 (noL hL) (.inl rfl) (resAs_tmp rfl (resAs_nil)) ?_ ?_
    · rfl
    exact ⟨by rw [tmDs_map]; rfl, rfl⟩
  obtain ⟨t, ht, rfl⟩ := List.mem_map.1 hpe
  have hsub : ∀ x ∈ a.1, mayT x = true := fun x hx => hmay2 x (hpr.1.mem_iff.1 (List.mem_append_right _ hx))
  have hnd : a.1.Nodup := ((List.nodup_append.1 (hpr.1.nodup_iff.2 hdel.1)).2.1)
  have hpm := delT_perm (hsub t ht) hsub hnd ht
  have hpo : 0 < a.1.length := List.length_pos_of_mem ht
  have hlt : r < (dels (addT [] (derL cs k)) k).length := by omega
  rw [show (kv t).1 = keyM t from rfl, show (kv t).2 = tmD t from rfl, mvDel_kvT]
  refine awps_stp0 rfl rfl (by decide) (stp_extract rfl rfl rfl) ?_; refine awps_nil ?_; refine thenQ_nil ?_; refine awp_seq ?_; refine awp_condT rfl ?_; refine awp_skip ?_; refine thenQ_nil ?_; refine awp_block ?_; refine awp_seq ?_; refine awp_region ?_; refine awps_stp0 rfl rfl (by decide) (stp_mxEntry rfl rfl rfl) ?_; refine awps_stp0 rfl rfl (by decide) (stp_extract rfl rfl rfl) ?_
  refine awps_stp1 rfl rfl (by decide) (stp_alloc 12 rfl zv_api_Term rfl) rfl ?_; refine awps_store rfl rfl rfl tf_api_Term rfl rfl rfl rfl rfl rfl rfl rfl rfl ?_; refine awps_nil ?_; refine thenQ_nil ?_; refine awp_region ?_; refine awps_stp0 rfl rfl (by decide) (stp_move (.inl rfl) rfl) ?_
  first | refine awps_stp0 rfl rfl (by decide) (stp_load_all rfl tf_api_Term rfl rfl rfl rfl) ?_ | refine awps_stp0 rfl rfl (by decide) (stp_load rfl tf_api_Term rfl rfl rfl rfl rfl) ?_ | refine awps_stp0 rfl rfl (by decide) (stp_load_elpa rfl tf_api_Term rfl rfl) ?_ | refine awps_stp0 rfl rfl (by decide) (stp_load_elpn rfl tf_api_Term rfl rfl rfl) ?_
  refine awps_stp1 rfl rfl (by decide) (stp_buildSlice 43 rfl sl_S_api_Term zv_api_Term rfl rfl (by decide) (by decide) (by decide) rfl rfl rfl) rfl ?_
  first | refine awps_u rfl rfl (by decide) (stpU_append1 44 ta_S_api_Term rfl rfl rfl rfl rfl rfl rfl rfl (noL hL _) (by omega) rfl) rfl ?_ | refine awps_u rfl rfl (by decide) (stpU_appendd 44 ta_S_api_Term rfl rfl rfl rfl rfl (noL hL _) (by simp) (by omega) rfl) rfl ?_ | refine awps_u rfl rfl (by decide) (stpU_appendi 44 ta_S_api_Term rfl rfl rfl rfl (rfl) rfl (noL hL _) (by simp) (by omega) rfl) rfl ?_
  refine awps_stp0 rfl rfl (by decide) (stp_move (.inr rfl) rfl) ?_; refine awps_nil ?_; refine inQ_nil ?_; refine thenQ_nil ?_; refine ⟨?_, (delT t a.1, a.2.1 ++ [t], some (tmD t)), ?_, ?_⟩
  · skip
    omega
  · skip
    refine ⟨?_, by simp; omega⟩
    have h1 : (a.2.1 ++ [t] ++ delT t a.1).Perm (a.2.1 ++ a.1) := by
      rw [List.append_assoc]
      exact (List.Perm.append_left a.2.1 hpm)
    exact h1.trans hpr.1
  exact Sub.trans (sub_rename 44 10 (noL hL _) (noL hL _)) (sub_re (SubT.cons (lk_eq rfl (by first | rfl | simp)) (SubT.cons (lk_eq rfl (by first | rfl | simp)) (SubT.nil))) (SubO.cons (ok_eq rfl (by rw [List.map_append]; rfl)) (SubO.cons (ok_eq rfl (by rfl)) (SubO.nil))) rfl rfl (noL' (noL hL) _))
end Go.Proofs.YtdecgkhdbfgldaaGreat

set_option linter.unusedVariables false
set_option linter.unusedSimpArgs false
set_option maxRecDepth 8000
namespace Go.Proofs.YtdecgkhdbfgldaaGreat
open Go Go.Maps
theorem nLk {c : Ctx} {Oin : List (Nat × Ob)} (hL : ∀ l, c.L l ↔ inD Oin l = true) {l : Nat} (h : inD Oin l = false) : ¬ c.L l := fun hl => by
  rw [(hL l).1 hl] at h; cases h
theorem seekR_step (q : Cl) (hq : q.wf) (hcb : clauseB q = true) (k : List Tm) (hk : ∀ t ∈ k, AtK t) (hkl : k.length ≤ 1000) (i0 : Nat) (hi0 : i0 ≤ q.body.length) (l : List Bd) (hl : FG l) (kvs : List (Lit × List D)) (hB : kvs.length + (seekL q.guards q.head k (q.body.drop i0) l).length ≤ 10000000)
    (ih : i0 < q.body.length → ∀ (l' : List Bd) (kvs' : List (Lit × List D)), FG l' → kvs'.length + (seekL q.guards q.head k (q.body.drop (i0 + 1)) l').length ≤ 10000000 → AC Tryz.prog 194 [clA q, .row 1, iv ((i0 : Int) + 1), bdA l', .map 4] [(1, .rowd 35 4 false (tmDs k)), (4, fndK kvs')] (fun r O => r = .tup [] ∧ O = [(1, .rowd 35 4 false (tmDs k)), (4, fndK (addM kvs' (seekL q.guards q.head k (q.body.drop (i0 + 1)) l')))])) :
    AC Tryz.prog 194 [clA q, .row 1, iv (i0 : Int), bdA l, .map 4] [(1, .rowd 35 4 false (tmDs k)), (4, fndK kvs)] (fun r O => r = .tup [] ∧ O = [(1, .rowd 35 4 false (tmDs k)), (4, fndK (addM kvs (seekL q.guards q.head k (q.body.drop i0) l)))]) := by
  obtain ⟨hh, ⟨hbl, hbw⟩, hgl, hgw⟩ := id hq
  have hlb := tmDs_length q.body
  have hlg := gdDs_length q.guards
  have hlk := tmDs_length k
  simp only [lenOk] at hbl hgl
  have hcb2 := hcb
  simp only [clauseB, atomB, Bool.and_eq_true, decide_eq_true_eq, List.all_eq_true] at hcb2
  obtain ⟨⟨⟨⟨⟨hhm, hhf⟩, hb3⟩, hg4⟩, hba⟩, hga⟩ := hcb2
  have hbok : BOk l := hl.gg.gb.bok
  have hmx : maxLen = 9223372036854775807 := rfl
  have hpm := hl.put hhm
  refine AC_intro Tryz.func194 rfl Tryz.ntmps194 (Nat.le_of_ble_eq_true rfl) fun c hL hQ hDD => ?_; refine awp_seq ?_; refine awp_region ?_; refine awps_stp1 rfl rfl (by decide) (stp_box 5 rfl rfl rfl) rfl ?_; refine awps_stp1 rfl rfl (by decide) (stp_box 8 rfl rfl rfl) rfl ?_; refine awps_nil ?_; refine thenQ_nil ?_; refine awp_seq ?_; refine awp_seq ?_; refine awp_region ?_
  refine awps_stp0 rfl rfl (by decide) (stp_move (.inl rfl) rfl) ?_
  first | refine awps_stp0 rfl rfl (by decide) (stp_fieldAddr rfl fo_api_Clause_1 rfl) ?_ | refine awps_stp0 rfl rfl (by decide) (stp_fieldAddr_elp rfl fo_api_Clause_1 rfl) ?_
  first | refine awps_stp0 rfl rfl (by decide) (stp_load rfl tf_S_api_Term rfl rfl rfl rfl rfl) ?_ | refine awps_stp0 rfl rfl (by decide) (stp_load_elp1 rfl tf_S_api_Term rfl) ?_ | refine awps_stp0 rfl rfl (by decide) (stp_load_elpn rfl tf_S_api_Term rfl rfl rfl) ?_
  first | refine awps_stp0 rfl rfl (by decide) (stp_len_dat rfl sl_S_api_Term rfl) ?_ | refine awps_stp0 rfl rfl (by decide) (stp_len_rowd rfl sl_S_api_Term rfl rfl) ?_ | refine awps_stp0 rfl rfl (by decide) (stp_len_nil rfl sl_S_api_Term rfl) ?_ | refine awps_stp0 rfl rfl (by decide) (stp_len_vw rfl sl_S_api_Term rfl) ?_
  refine awps_stp0 rfl rfl (by decide) (stp_binI rfl rfl rfl rfl) ?_; refine awps_nil ?_; refine thenQ_nil ?_; refine awp_cond rfl (fun c0 => ?_) (fun c0 => ?_)
  · try simp only [↓cqA, cqB] at c0
    have hn : q.body.drop i0 = [] := List.drop_eq_nil_of_le (by omega)
    rw [hn, seekL] at hB
    rw [hn, seekL]
    refine awp_seq ?_; refine awp_seq ?_; refine awp_region ?_
    first | refine awps_stp0 rfl rfl (by decide) (stp_fieldAddr rfl fo_api_Clause_2 rfl) ?_ | refine awps_stp0 rfl rfl (by decide) (stp_fieldAddr_elp rfl fo_api_Clause_2 rfl) ?_
    first | refine awps_stp0 rfl rfl (by decide) (stp_load rfl tf_S_api_Guard rfl rfl rfl rfl rfl) ?_ | refine awps_stp0 rfl rfl (by decide) (stp_load_elp1 rfl tf_S_api_Guard rfl) ?_ | refine awps_stp0 rfl rfl (by decide) (stp_load_elpn rfl tf_S_api_Guard rfl rfl rfl) ?_
    refine awps_stp0 rfl rfl (by decide) (stp_makeFunc (vs := [_]) rfl rfl) ?_
    refine awps_callP (avs := [_, _]) false rfl rfl rfl (by decide) en_slices_ContainsFunc_api_Guard_api_Guard rfl rfl (ContainsFunc_gd_ok false q.guards _ rfl (by omega) _ [.ptr 8 0] en_known_seek_1 (fun _ => [(8, .box [bdA l])]) (fun j => match q.guards[j]? with | some g => !(holdsC l g) | none => false) ⟨fun k l => rfl, fun k => passO (.cons rfl trivial rfl .nil), fun k => rfl, fun k => rfl, fun k => rfl, fun k => rfl, fun h => by cases h⟩ (fun j g hg _ => by rw [hg]; exact seek1_ok l hl g (hgw g (List.mem_of_getElem? hg)) (hga g (List.mem_of_getElem? hg)))) (rfl) (passO (.cons rfl trivial rfl .nil)) (by rintro r O' ⟨m, n, b, _, _, _, _, rfl⟩; exact frB rfl) (by rintro h; cases h) ?_
    rintro r O' ⟨m, n, b, hm1, hf1, hc1, rfl, rfl⟩
    have hb1 := cont_all (l := q.guards) (p := holdsC l) (fun j x hx => by simp only [hx]) hf1 hc1
    refine awps_stp0 rfl rfl (by decide) (stp_not rfl rfl) ?_; refine awps_nil ?_; refine thenQ_nil ?_; refine awp_cond rfl (fun c1 => ?_) (fun c1 => ?_)
    · try simp only [↓cqA, cqB] at c1
      have hall : q.guards.all (holdsC l) = true := by rw [hb1] at c1; simpa using c1
      rw [if_pos hall] at hB
      rw [if_pos hall]
      refine awp_seq ?_; refine awp_region ?_
      first | refine awps_stp0 rfl rfl (by decide) (stp_load rfl tf_S_api_Bind rfl rfl rfl rfl rfl) ?_ | refine awps_stp0 rfl rfl (by decide) (stp_load_elp1 rfl tf_S_api_Bind rfl) ?_ | refine awps_stp0 rfl rfl (by decide) (stp_load_elpn rfl tf_S_api_Bind rfl rfl rfl) ?_
      first | refine awps_stp0 rfl rfl (by decide) (stp_fieldAddr rfl fo_api_Clause_0 rfl) ?_ | refine awps_stp0 rfl rfl (by decide) (stp_fieldAddr_elp rfl fo_api_Clause_0 rfl) ?_
      first | refine awps_stp0 rfl rfl (by decide) (stp_load_all rfl tf_api_Term rfl rfl rfl rfl) ?_ | refine awps_stp0 rfl rfl (by decide) (stp_load rfl tf_api_Term rfl rfl rfl rfl rfl) ?_ | refine awps_stp0 rfl rfl (by decide) (stp_load_elpa rfl tf_api_Term rfl rfl) ?_ | refine awps_stp0 rfl rfl (by decide) (stp_load_elpn rfl tf_api_Term rfl rfl rfl) ?_
      refine awps_call (avs := [_, _]) true rfl rfl rfl (by decide) en_bind_Put rfl rfl (Put_ok l hbok q.head (may_dle hhm) hh) rfl rfl ?_; refine awps_stp1 rfl rfl (by decide) (stp_alloc 10 rfl zv_api_Term rfl) rfl ?_; refine awps_store rfl rfl rfl tf_api_Term rfl rfl rfl rfl rfl rfl rfl rfl rfl ?_; refine awps_nil ?_; refine thenQ_nil ?_; refine awp_sub (sub_untag hQ) ?_
      refine awp_drawG 4 mixed rfl rfl rfl rfl ?_; refine MGo_c0 rfl (by decide) (.run rfl (stp_move (.inl rfl) rfl)) ?_
      first | refine MGo_c0 rfl (by decide) (.run rfl (stp_load_all rfl tf_api_Term rfl rfl rfl rfl)) ?_ | refine MGo_c0 rfl (by decide) (.run rfl (stp_load rfl tf_api_Term rfl rfl rfl rfl rfl)) ?_ | refine MGo_c0 rfl (by decide) (.run rfl (stp_load_elpa rfl tf_api_Term rfl rfl)) ?_ | refine MGo_c0 rfl (by decide) (.run rfl (stp_load_elpn rfl tf_api_Term rfl rfl rfl)) ?_
      refine MGo_c0 rfl (by decide) (.run rfl (stp_call (avs := [_]) true rfl en_term_Key rfl rfl (Key_ok 5 (putT l q.head) (may_dle hpm) (may_shp hpm) (putT_wf hbok hh) (by have := ((mayT_iff _).1 hpm).2.2; omega)) (fun _ => rfl) rfl)) ?_
      first | refine MGo_c0 rfl (by decide) (.run rfl (stp_load_all rfl tf_api_Term rfl rfl rfl rfl)) ?_ | refine MGo_c0 rfl (by decide) (.run rfl (stp_load rfl tf_api_Term rfl rfl rfl rfl rfl)) ?_ | refine MGo_c0 rfl (by decide) (.run rfl (stp_load_elpa rfl tf_api_Term rfl rfl)) ?_ | refine MGo_c0 rfl (by decide) (.run rfl (stp_load_elpn rfl tf_api_Term rfl rfl rfl)) ?_
      refine MGo_nil ⟨rfl, rfl, ?_⟩; refine awps_mxSet (ds := tmD (putT l q.head)) rfl rfl rfl um_known_found rfl rfl rfl rfl rfl (keyOf_key hpm) (by simp only [List.length_singleton] at hB; omega) ?_; refine awps_nil ?_; refine thenQ_nil ?_; refine awp_ret ?_; refine thenQ_ret (?_)
      -- leaf 0T1T
      change retQ _ _ _ _ _ _ _
      refine retO (O' := [(1, _), (4, _)]) (by first | exact .inl rfl | exact .inr rfl) resAs_nil (SubO.cons rfl (SubO.cons rfl SubO.nil)) ?_ ?_ (LOz hL rfl) ?_
      · rfl
      · rfl
      exact ⟨rfl, by first | rfl | rw [List.take_of_length_le (by omega)]⟩
    try simp only [↓cqA, cqB] at c1
    have hall : q.guards.all (holdsC l) = false := by rw [hb1] at c1; simpa using c1
    rw [if_neg (by simp [hall])]
    refine awp_skip ?_; refine thenQ_nil ?_; refine awp_ret ?_; refine thenQ_ret (?_)
    -- leaf 0T1F
    change retQ _ _ _ _ _ _ _
    refine retO (O' := [(1, _), (4, _)]) (by first | exact .inl rfl | exact .inr rfl) resAs_nil (SubO.cons rfl (SubO.cons rfl SubO.nil)) ?_ ?_ (LOz hL rfl) ?_
    · rfl
    · rfl
    exact ⟨rfl, by first | rfl | rw [List.take_of_length_le (by omega)]⟩
  try simp only [↓cqA, cqB] at c0
  obtain ⟨a, ha⟩ := get_of_lt (l := q.body) (k := i0) (by omega)
  have ham := List.mem_of_getElem? ha
  have haw := Tm.wfs_mem hbw ham
  obtain ⟨ha1, ha2⟩ := hba a ham
  have hdr : q.body.drop i0 = a :: q.body.drop (i0 + 1) := by
    obtain ⟨h1, h2⟩ := List.getElem?_eq_some_iff.1 ha
    rw [List.drop_eq_getElem_cons h1, h2]
  have hih := ih (by omega)
  rw [hdr, seekL] at hB
  rw [hdr, seekL]
  refine awp_skip ?_; refine thenQ_nil ?_; refine awp_seq ?_; refine awp_region ?_; refine awps_stp0 rfl rfl (by decide) (stp_move (.inl rfl) rfl) ?_
  first | refine awps_stp0 rfl rfl (by decide) (stp_len_dat rfl sl_S_api_Term rfl) ?_ | refine awps_stp0 rfl rfl (by decide) (stp_len_rowd rfl sl_S_api_Term rfl rfl) ?_ | refine awps_stp0 rfl rfl (by decide) (stp_len_nil rfl sl_S_api_Term rfl) ?_ | refine awps_stp0 rfl rfl (by decide) (stp_len_vw rfl sl_S_api_Term rfl) ?_
  refine awps_stp0 rfl rfl (by decide) (stp_move (.inl rfl) rfl) ?_; refine awps_nil ?_; refine thenQ_nil ?_; refine awp_block ?_
  refine awp_while (k.length) (fun i => i ≤ k.length) (fun i => ⟨[(1, .row 1), (2, iv (i0 : Int)), (4, .map 4), (5, .ptr 5 0), (8, .ptr 8 0), (33, .row 1), (34, iv (tmDs k).length), (35, iv (i : Int))], [(1, .rowd 35 4 false (tmDs k)), (4, fndK (addM kvs ((k.take i).flatMap fun t => if (fitR 5 l a t).2 = 0 then seekL q.guards q.head k (q.body.drop (i0 + 1)) (fitR 5 l a t).1 else []))), (5, .box (lift false (clD q))), (8, .box [bdA l])]⟩) (by omega) ?_ (fun i hi hpi => ?_)
  · exact sub_re (SubT.cons (lk_eq rfl (by first | rfl | simp)) (SubT.cons (lk_eq rfl (by first | rfl | simp)) (SubT.cons (lk_eq rfl (by first | rfl | simp)) (SubT.cons (lk_eq rfl (by first | rfl | simp)) (SubT.cons (lk_eq rfl (by first | rfl | simp)) (SubT.cons (lk_eq rfl (by first | rfl | simp)) (SubT.cons (lk_eq rfl (by first | rfl | simp)) (SubT.cons (lk_eq rfl (by first | rfl | simp)) (SubT.nil))))))))) (SubO.cons (ok_eq rfl (by rfl)) (SubO.cons (ok_eq rfl (by rfl)) (SubO.cons (ok_eq rfl (by rfl)) (SubO.cons (ok_eq rfl (by rfl)) (SubO.nil))))) rfl rfl (LOz hL rfl)
  refine awp_seq ?_; refine awp_region ?_; refine awps_stp0 rfl rfl (by decide) (stp_binI rfl rfl rfl rfl) ?_; refine awps_nil ?_; refine thenQ_nil ?_; refine awp_seq ?_; refine awp_cond rfl (fun c2 => ?_) (fun c2 => ?_)
  · try simp only [↓cqA, cqB] at c2
    obtain ⟨t, ht⟩ := get_of_lt (l := k) (k := i) (by omega)
    have hta := hk t (List.mem_of_getElem? ht)
    have hft := flatMap_take (fun t => if (fitR 5 l a t).2 = 0 then seekL q.guards q.head k (q.body.drop (i0 + 1)) (fitR 5 l a t).1 else []) ht
    have hle := flatMap_take_le (fun t => if (fitR 5 l a t).2 = 0 then seekL q.guards q.head k (q.body.drop (i0 + 1)) (fitR 5 l a t).1 else []) k (i + 1)
    rw [hft, List.length_append] at hle
    have hal := addM_len ((k.take i).flatMap fun t => if (fitR 5 l a t).2 = 0 then seekL q.guards q.head k (q.body.drop (i0 + 1)) (fitR 5 l a t).1 else []) kvs
    refine awp_skip ?_; refine thenQ_nil ?_; refine awp_seq ?_; refine awp_block ?_; refine awp_seq ?_; refine awp_region ?_
    first | refine awps_stp0 rfl rfl (by decide) (stp_indexAddr rfl sl_S_api_Term rfl rfl (by omega) (by omega)) ?_ | refine awps_stp0 rfl rfl (by decide) (stp_indexAddr_rowd rfl sl_S_api_Term rfl rfl rfl (by omega) (by omega)) ?_ | refine awps_stp0 rfl rfl (by decide) (stp_indexAddr_row rfl sl_S_api_Term rfl rfl rfl (by omega) (by omega) (by decide)) ?_
    refine awps_stp0 rfl rfl (by decide) (stp_load_rowdi i 0 rfl tf_api_Term rfl rfl (by omega) (tmDs_get ht) rfl rfl rfl) ?_; refine awps_stp1 rfl rfl (by decide) (stp_alloc 12 rfl zv_api_Term rfl) rfl ?_; refine awps_store rfl rfl rfl tf_api_Term rfl rfl rfl rfl rfl rfl rfl rfl rfl ?_; refine awps_nil ?_; refine thenQ_nil ?_; refine awp_seq ?_; refine awp_drawG 12 mixed rfl rfl rfl rfl ?_
    first | refine MGo_c0 rfl (by decide) (.run rfl (stp_load rfl tf_S_api_Bind rfl rfl rfl rfl rfl)) ?_ | refine MGo_c0 rfl (by decide) (.run rfl (stp_load_elp1 rfl tf_S_api_Bind rfl)) ?_ | refine MGo_c0 rfl (by decide) (.run rfl (stp_load_elpn rfl tf_S_api_Bind rfl rfl rfl)) ?_
    first | refine MGo_c0 rfl (by decide) (.run rfl (stp_fieldAddr rfl fo_api_Clause_1 rfl)) ?_ | refine MGo_c0 rfl (by decide) (.run rfl (stp_fieldAddr_elp rfl fo_api_Clause_1 rfl)) ?_
    first | refine MGo_c0 rfl (by decide) (.run rfl (stp_load rfl tf_S_api_Term rfl rfl rfl rfl rfl)) ?_ | refine MGo_c0 rfl (by decide) (.run rfl (stp_load_elp1 rfl tf_S_api_Term rfl)) ?_ | refine MGo_c0 rfl (by decide) (.run rfl (stp_load_elpn rfl tf_S_api_Term rfl rfl rfl)) ?_
    refine MGo_c0 rfl (by decide) (.run rfl (stp_move (.inl rfl) rfl)) ?_
    first | refine MGo_c0 rfl (by decide) (.run rfl (stp_indexAddr rfl sl_S_api_Term rfl rfl (by omega) (tmDs_get ha))) ?_ | refine MGo_c0 rfl (by decide) (.run rfl (stp_indexAddr_rowd rfl sl_S_api_Term rfl rfl rfl (by omega) (tmDs_get ha))) ?_ | refine MGo_c0 rfl (by decide) (.run rfl (stp_indexAddr_row rfl sl_S_api_Term rfl rfl rfl (by omega) (tmDs_get ha) (by decide))) ?_
    first | refine MGo_c0 rfl (by decide) (.run rfl (stp_load_all rfl tf_api_Term rfl rfl rfl rfl)) ?_ | refine MGo_c0 rfl (by decide) (.run rfl (stp_load rfl tf_api_Term rfl rfl rfl rfl rfl)) ?_ | refine MGo_c0 rfl (by decide) (.run rfl (stp_load_elpa rfl tf_api_Term rfl rfl)) ?_ | refine MGo_c0 rfl (by decide) (.run rfl (stp_load_elpn rfl tf_api_Term rfl rfl rfl)) ?_
    first | refine MGo_c0 rfl (by decide) (.run rfl (stp_load_all rfl tf_api_Term rfl rfl rfl rfl)) ?_ | refine MGo_c0 rfl (by decide) (.run rfl (stp_load rfl tf_api_Term rfl rfl rfl rfl rfl)) ?_ | refine MGo_c0 rfl (by decide) (.run rfl (stp_load_elpa rfl tf_api_Term rfl rfl)) ?_ | refine MGo_c0 rfl (by decide) (.run rfl (stp_load_elpn rfl tf_api_Term rfl rfl rfl)) ?_
    refine MGo_c0 rfl (by decide) (.run rfl (stp_call (avs := [_, _, _]) false rfl en_unify_Fit rfl rfl (Fit_ok 5 l a t (may_dle ha1) (may_shp ha1) haw hbok hta.wf hta.may) (fun _ => rfl) rfl)) ?_; refine MGo_c0 rfl (by decide) (.run rfl (stp_move (.inl rfl) rfl)) ?_; refine MGo_c0 rfl (by decide) (.run rfl (stp_extract rfl rfl rfl)) ?_
    refine MGo_c0 rfl (by decide) (.run rfl (stp_extract rfl rfl rfl)) ?_; refine MGo_c0 rfl (by decide) (.run rfl (stp_move (.inr rfl) rfl)) ?_; refine MGo_nil ⟨rfl, rfl, ?_⟩; refine awps_stp0 rfl rfl (by decide) (stp_move (.inr rfl) rfl) ?_; refine awps_nil ?_; refine thenQ_nil ?_; refine awp_seq ?_; refine awp_region ?_; refine awps_stp0 rfl rfl (by decide) (stp_move (.inl rfl) rfl) ?_
    refine awps_stp0 rfl rfl (by decide) (stp_binI rfl rfl rfl rfl) ?_; refine awps_nil ?_; refine thenQ_nil ?_; refine awp_cond rfl (fun c3 => ?_) (fun c3 => ?_)
    · try simp only [↓cqA, cqB] at c3
      obtain ⟨hfg, _, _⟩ := fit_leaf hl ha1 haw ha2 hta c3
      rw [if_pos c3] at hft hle
      refine awp_region ?_
      first | refine awps_stp0 rfl rfl (by decide) (stp_load_all rfl tf_api_Clause rfl rfl rfl rfl) ?_ | refine awps_stp0 rfl rfl (by decide) (stp_load rfl tf_api_Clause rfl rfl rfl rfl rfl) ?_ | refine awps_stp0 rfl rfl (by decide) (stp_load_elpa rfl tf_api_Clause rfl rfl) ?_ | refine awps_stp0 rfl rfl (by decide) (stp_load_elpn rfl tf_api_Clause rfl rfl rfl) ?_
      refine awps_stp0 rfl rfl (by decide) (stp_move (.inl rfl) rfl) ?_; refine awps_stp0 rfl rfl (by decide) (stp_move (.inl rfl) rfl) ?_; refine awps_stp0 rfl rfl (by decide) (stp_add rfl rfl rfl (by omega)) ?_; refine awps_stp0 rfl rfl (by decide) (stp_move (.inl rfl) rfl) ?_; refine awps_stp0 rfl rfl (by decide) (stp_move (.inl rfl) rfl) ?_
      refine awps_callP (avs := [_, _, _, _, _]) false rfl rfl rfl (by decide) en_known_seek rfl rfl (hih (fitR 5 l a t).1 _ hfg (by omega)) (rfl) (passO (.cons rfl trivial rfl (.cons rfl trivial rfl .nil))) (by rintro r O' ⟨_, rfl⟩; exact frB rfl) (by rintro h; cases h) ?_
      rintro r O' ⟨rfl, rfl⟩
      refine awps_nil ?_; refine inQ_nil ?_; refine thenQ_nil ?_; refine awp_region ?_; refine awps_stp0 rfl rfl (by decide) (stp_add rfl rfl rfl (by omega)) ?_; refine awps_stp0 rfl rfl (by decide) (stp_move (.inl rfl) rfl) ?_; refine awps_nil ?_; refine thenQ_nil ?_; refine ⟨?_, ?_, ?_⟩
      · skip
        omega
      · skip
        omega
      exact sub_re (SubT.cons (lk_eq rfl (by first | rfl | simp)) (SubT.cons (lk_eq rfl (by first | rfl | simp)) (SubT.cons (lk_eq rfl (by first | rfl | simp)) (SubT.cons (lk_eq rfl (by first | rfl | simp)) (SubT.cons (lk_eq rfl (by first | rfl | simp)) (SubT.cons (lk_eq rfl (by first | rfl | simp)) (SubT.cons (lk_eq rfl (by first | rfl | simp)) (SubT.cons (lk_eq rfl (by first | rfl | simp)) (SubT.nil))))))))) (SubO.cons (ok_eq rfl (by rfl)) (SubO.cons (ok_eq rfl (by first | (rw [hft, addM_app]; done) | (rw [hft, addM_app]; rfl) | (rw [hft, List.append_nil]; done) | (rw [hft, List.append_nil]; rfl))) (SubO.cons (ok_eq rfl (by rfl)) (SubO.cons (ok_eq rfl (by rfl)) (SubO.nil))))) rfl rfl (LOz hL rfl)
    try simp only [↓cqA, cqB] at c3
    rw [if_neg c3] at hft
    refine awp_skip ?_; refine inQ_nil ?_; refine thenQ_nil ?_; refine awp_region ?_; refine awps_stp0 rfl rfl (by decide) (stp_add rfl rfl rfl (by omega)) ?_; refine awps_stp0 rfl rfl (by decide) (stp_move (.inl rfl) rfl) ?_; refine awps_nil ?_; refine thenQ_nil ?_; refine ⟨?_, ?_, ?_⟩
    · skip
      omega
    · skip
      omega
    exact sub_re (SubT.cons (lk_eq rfl (by first | rfl | simp)) (SubT.cons (lk_eq rfl (by first | rfl | simp)) (SubT.cons (lk_eq rfl (by first | rfl | simp)) (SubT.cons (lk_eq rfl (by first | rfl | simp)) (SubT.cons (lk_eq rfl (by first | rfl | simp)) (SubT.cons (lk_eq rfl (by first | rfl | simp)) (SubT.cons (lk_eq rfl (by first | rfl | simp)) (SubT.cons (lk_eq rfl (by first | rfl | simp)) (SubT.nil))))))))) (SubO.cons (ok_eq rfl (by rfl)) (SubO.cons (ok_eq rfl (by first | (rw [hft, addM_app]; done) | (rw [hft, addM_app]; rfl) | (rw [hft, List.append_nil]; done) | (rw [hft, List.append_nil]; rfl))) (SubO.cons (ok_eq rfl (by rfl)) (SubO.cons (ok_eq rfl (by rfl)) (SubO.nil))))) rfl rfl (LOz hL rfl)
  try simp only [↓cqA, cqB] at c2
  refine awp_exit ?_; refine thenQ_exit (thenQ_exit (inQ_hit ?_))
  -- leaf 0F2F
  change retQ _ _ _ _ _ _ _
  refine retO (O' := [(1, _), (4, _)]) (by first | exact .inl rfl | exact .inr rfl) resAs_nil (SubO.cons rfl (SubO.cons rfl SubO.nil)) ?_ ?_ (LOz hL rfl) ?_
  · rfl
  · rfl
  exact ⟨rfl, by first | rfl | rw [List.take_of_length_le (by omega)]⟩
theorem seekR_ok (q : Cl) (hq : q.wf) (hcb : clauseB q = true) (k : List Tm) (hk : ∀ t ∈ k, AtK t) (hkl : k.length ≤ 1000) : ∀ (n i0 : Nat), i0 + n = q.body.length → ∀ (l : List Bd) (kvs : List (Lit × List D)), FG l → kvs.length + (seekL q.guards q.head k (q.body.drop i0) l).length ≤ 10000000 →
    AC Tryz.prog 194 [clA q, .row 1, iv (i0 : Int), bdA l, .map 4] [(1, .rowd 35 4 false (tmDs k)), (4, fndK kvs)] (fun r O => r = .tup [] ∧ O = [(1, .rowd 35 4 false (tmDs k)), (4, fndK (addM kvs (seekL q.guards q.head k (q.body.drop i0) l)))])
  | 0, i0, h, l, kvs, hl, hB => seekR_step q hq hcb k hk hkl i0 (by omega) l hl kvs hB (fun h2 => by omega)
  | n + 1, i0, h, l, kvs, hl, hB => seekR_step q hq hcb k hk hkl i0 (by omega) l hl kvs hB (fun _ l' kvs' hl' hB' => seekR_ok q hq hcb k hk hkl n (i0 + 1) (by omega) l' kvs' hl' hB')
theorem stepR_ok (cs : List Cl) (hcl : cs.length ≤ 10000000) (hw : ∀ c ∈ cs, c.wf) (hc : ∀ c ∈ cs, clauseE c = 0) (k : List Tm) (hk : ∀ t ∈ k, AtK t) (hkl : k.length ≤ 1000) (hB : (derL cs k).length ≤ 10000000) :
    AC Tryz.prog 133 [.dat false 6 (clDs cs), .row 1] [(1, .rowd 35 4 false (tmDs k))] (fun r O => r = .dat false 4 (tmDs (nextL cs k)) ∧ O = [(1, .rowd 35 4 false (tmDs k))]) := by
  have hlc := clDs_length cs
  have hlk := tmDs_length k
  have hcb : ∀ c ∈ cs, clauseB c = true := fun c hm => by
    have h := hc c hm
    cases h2 : clauseB c with
    | true => rfl
    | false => rw [clauseE, if_pos h2] at h; cases h
  have hder := derL_atk hw hc hk
  have hadd := addT_spec (derL cs k) [] (fun u hu => by cases hu) (fun u hu => (hder u hu).may) List.nodup_nil
  have hmay1 : ∀ u ∈ addT [] (derL cs k), mayT u = true := fun u hu => by
    rcases (hadd.2 u).1 hu with h | h
    · cases h
    · exact (hder u h).may
  have hdel := dels_spec k (addT [] (derL cs k)) hmay1 (fun u hu => (hk u hu).may) hadd.1
  have hmay2 : ∀ u ∈ dels (addT [] (derL cs k)) k, mayT u = true := fun u hu => hmay1 u ((hdel.2 u).1 hu).1
  have hal := addT_len (derL cs k) []
  have hdl : (dels (addT [] (derL cs k)) k).length ≤ (addT [] (derL cs k)).length := (hdel.1.length_le_of_subset fun x hx => ((hdel.2 x).1 hx).1)
  have hadk := fun i => addM_kvT ((cs.take i).flatMap fun c => seekL c.guards c.head k c.body []) []
  have hcur : ∀ i, (k.take i).foldl (fun m t => delT t m) (addT [] (derL cs k)) = dels (addT [] (derL cs k)) (k.take i) := fun i => rfl
  have hnewk : ∀ x ∈ dels (addT [] (derL cs k)) k, AtK x := fun x hx => by
    rcases (hadd.2 x).1 ((hdel.2 x).1 hx).1 with h | h
    · cases h
    · exact hder x h
  have hnewd : ∀ x ∈ newL cs k, dle 5 x := fun x hx => may_dle (hder x (List.mem_filter.1 hx).1).may
  simp only [List.length_nil, Nat.zero_add] at hal
  refine AC_intro Tryz.func133 rfl Tryz.ntmps133 (Nat.le_of_ble_eq_true rfl) fun c hL hQ hDD => ?_; refine awp_seq ?_; refine awp_region ?_; refine awps_stp0 rfl rfl (by decide) (stp_move (.inr rfl) rfl) ?_; refine awps_nil ?_; refine thenQ_nil ?_; refine awp_seq ?_; refine awp_region ?_; refine awps_stp1 rfl rfl (by decide) (stp_makeMx 13 rfl (Go.Maps.string_keyed ul_string)) rfl ?_
  refine awps_stp0 rfl rfl (by decide) (stp_move (.inr rfl) rfl) ?_; refine awps_nil ?_; refine thenQ_nil ?_; refine awp_seq ?_; refine awp_seq ?_; refine awp_region ?_; refine awps_stp0 rfl rfl (by decide) (stp_move (.inl rfl) rfl) ?_
  first | refine awps_stp0 rfl rfl (by decide) (stp_len_dat rfl sl_S_api_Clause rfl) ?_ | refine awps_stp0 rfl rfl (by decide) (stp_len_rowd rfl sl_S_api_Clause rfl rfl) ?_ | refine awps_stp0 rfl rfl (by decide) (stp_len_nil rfl sl_S_api_Clause rfl) ?_ | refine awps_stp0 rfl rfl (by decide) (stp_len_vw rfl sl_S_api_Clause rfl) ?_
  refine awps_stp0 rfl rfl (by decide) (stp_move (.inl rfl) rfl) ?_; refine awps_nil ?_; refine thenQ_nil ?_; refine awp_block ?_
  refine awp_while (cs.length) (fun i => i ≤ cs.length) (fun i => ⟨[(1, .row 1), (5, .map 13), (14, .dat false 6 (clDs cs)), (15, iv (clDs cs).length), (16, iv (i : Int))], [(1, .rowd 35 4 false (tmDs k)), (13, fndK (addM [] ((cs.take i).flatMap fun c => seekL c.guards c.head k c.body [])))]⟩) (by omega) ?_ (fun i hi hpi => ?_)
  · exact sub_re (SubT.cons (lk_eq rfl (by first | rfl | simp)) (SubT.cons (lk_eq rfl (by first | rfl | simp)) (SubT.cons (lk_eq rfl (by first | rfl | simp)) (SubT.cons (lk_eq rfl (by first | rfl | simp)) (SubT.cons (lk_eq rfl (by first | rfl | simp)) (SubT.nil)))))) (SubO.cons (ok_eq rfl (by rfl)) (SubO.cons (ok_eq rfl (by rfl)) (SubO.nil))) rfl rfl (LOz hL rfl)
  refine awp_seq ?_; refine awp_region ?_; refine awps_stp0 rfl rfl (by decide) (stp_binI rfl rfl rfl rfl) ?_; refine awps_nil ?_; refine thenQ_nil ?_; refine awp_seq ?_; refine awp_cond rfl (fun c0 => ?_) (fun c0 => ?_)
  · try simp only [↓cqA, cqB] at c0
    obtain ⟨q, hq⟩ := get_of_lt (l := cs) (k := i) (by omega)
    have hqm := List.mem_of_getElem? hq
    have hft := flatMap_take (fun c : Cl => seekL c.guards c.head k c.body []) hq
    have hle := flatMap_take_le (fun c : Cl => seekL c.guards c.head k c.body []) cs (i + 1)
    rw [hft, List.length_append] at hle
    have hal2 := addM_len ((cs.take i).flatMap fun c => seekL c.guards c.head k c.body []) []
    have hder2 : (derL cs k).length = (cs.flatMap fun c => seekL c.guards c.head k c.body []).length := rfl
    simp only [List.length_nil, Nat.zero_add] at hal2
    have hsk := seekR_ok q (hw q hqm) (hcb q hqm) k hk hkl q.body.length 0 (by omega) [] (addM [] ((cs.take i).flatMap fun c => seekL c.guards c.head k c.body [])) FG_nil (by rw [List.drop_zero]; omega)
    rw [List.drop_zero] at hsk
    have hsk2 := AC_rnE 4 13 (AC_le (.cons .refl (.cons .refl (.cons .refl (.cons .nil (.cons .refl .nil))))) hsk)
    refine awp_skip ?_; refine thenQ_nil ?_; refine awp_seq ?_; refine awp_block ?_; refine awp_seq ?_; refine awp_region ?_
    first | refine awps_stp0 rfl rfl (by decide) (stp_indexAddr rfl sl_S_api_Clause rfl rfl (by omega) (clDs_get hq)) ?_ | refine awps_stp0 rfl rfl (by decide) (stp_indexAddr_rowd rfl sl_S_api_Clause rfl rfl rfl (by omega) (clDs_get hq)) ?_ | refine awps_stp0 rfl rfl (by decide) (stp_indexAddr_row rfl sl_S_api_Clause rfl rfl rfl (by omega) (clDs_get hq) (by decide)) ?_
    first | refine awps_stp0 rfl rfl (by decide) (stp_load_all rfl tf_api_Clause rfl rfl rfl rfl) ?_ | refine awps_stp0 rfl rfl (by decide) (stp_load rfl tf_api_Clause rfl rfl rfl rfl rfl) ?_ | refine awps_stp0 rfl rfl (by decide) (stp_load_elpa rfl tf_api_Clause rfl rfl) ?_ | refine awps_stp0 rfl rfl (by decide) (stp_load_elpn rfl tf_api_Clause rfl rfl rfl) ?_
    refine awps_stp1 rfl rfl (by decide) (stp_alloc 7 rfl zv_api_Clause rfl) rfl ?_; refine awps_store rfl rfl rfl tf_api_Clause rfl rfl rfl rfl rfl rfl rfl rfl rfl ?_; refine awps_nil ?_; refine thenQ_nil ?_; refine awp_region ?_
    first | refine awps_stp0 rfl rfl (by decide) (stp_load_all rfl tf_api_Clause rfl rfl rfl rfl) ?_ | refine awps_stp0 rfl rfl (by decide) (stp_load rfl tf_api_Clause rfl rfl rfl rfl rfl) ?_ | refine awps_stp0 rfl rfl (by decide) (stp_load_elpa rfl tf_api_Clause rfl rfl) ?_ | refine awps_stp0 rfl rfl (by decide) (stp_load_elpn rfl tf_api_Clause rfl rfl rfl) ?_
    refine awps_stp0 rfl rfl (by decide) (stp_move (.inl rfl) rfl) ?_; refine awps_stp0 rfl rfl (by decide) (stp_move (.inl rfl) rfl) ?_; refine awps_callP (avs := [_, _, _, _, _]) false rfl rfl rfl (by decide) en_known_seek rfl rfl (hsk2) (rfl) (passO (.cons rfl trivial rfl (.cons rfl trivial rfl .nil))) (by rintro r O' ⟨rfl, rfl⟩; exact frB rfl) (by rintro h; cases h) ?_
    rintro r O' ⟨rfl, rfl⟩
    refine awps_nil ?_; refine inQ_nil ?_; refine thenQ_nil ?_; refine awp_region ?_; refine awps_stp0 rfl rfl (by decide) (stp_add rfl rfl rfl (by omega)) ?_; refine awps_stp0 rfl rfl (by decide) (stp_move (.inl rfl) rfl) ?_; refine awps_nil ?_; refine thenQ_nil ?_; refine ⟨?_, ?_, ?_⟩
    · skip
      omega
    · skip
      omega
    exact sub_re (SubT.cons (lk_eq rfl (by first | rfl | simp)) (SubT.cons (lk_eq rfl (by first | rfl | simp)) (SubT.cons (lk_eq rfl (by first | rfl | simp)) (SubT.cons (lk_eq rfl (by first | rfl | simp)) (SubT.cons (lk_eq rfl (by first | rfl | simp)) (SubT.nil)))))) (SubO.cons (ok_eq rfl (by rfl)) (SubO.cons (ok_eq rfl (by rw [hft, addM_app]; rfl)) (SubO.nil))) rfl rfl (LOz hL rfl)
  try simp only [↓cqA, cqB] at c0
  refine awp_exit ?_; refine thenQ_exit (thenQ_exit (inQ_hit ?_)); refine thenQ_nil ?_; refine awp_seq ?_; refine awp_seq ?_
  rw [List.take_of_length_le (l := cs) (i := i) (by omega), show ([] : List (Lit × List D)) = kvT [] from rfl, addM_kvT]
  refine awp_region ?_; refine awps_stp0 rfl rfl (by decide) (stp_move (.inl rfl) rfl) ?_
  first | refine awps_stp0 rfl rfl (by decide) (stp_len_dat rfl sl_S_api_Term rfl) ?_ | refine awps_stp0 rfl rfl (by decide) (stp_len_rowd rfl sl_S_api_Term rfl rfl) ?_ | refine awps_stp0 rfl rfl (by decide) (stp_len_nil rfl sl_S_api_Term rfl) ?_ | refine awps_stp0 rfl rfl (by decide) (stp_len_vw rfl sl_S_api_Term rfl) ?_
  refine awps_stp0 rfl rfl (by decide) (stp_move (.inl rfl) rfl) ?_; refine awps_nil ?_; refine thenQ_nil ?_; refine awp_block ?_; refine awp_while (k.length) (fun j => j ≤ k.length) (fun j => ⟨[(5, .map 13), (25, .row 1), (26, iv (tmDs k).length), (27, iv (j : Int))], [(1, .rowd 35 4 false (tmDs k)), (13, fndK (kvT (dels (addT [] (derL cs k)) (k.take j))))]⟩) (by omega) ?_ (fun j hj hpj => ?_)
  · exact sub_re (SubT.cons (lk_eq rfl (by first | rfl | simp)) (SubT.cons (lk_eq rfl (by first | rfl | simp)) (SubT.cons (lk_eq rfl (by first | rfl | simp)) (SubT.cons (lk_eq rfl (by first | rfl | simp)) (SubT.nil))))) (SubO.cons (ok_eq rfl (by rfl)) (SubO.cons (ok_eq rfl (by rfl)) (SubO.nil))) rfl rfl (LOz hL rfl)
  refine awp_seq ?_; refine awp_region ?_; refine awps_stp0 rfl rfl (by decide) (stp_binI rfl rfl rfl rfl) ?_; refine awps_nil ?_; refine thenQ_nil ?_; refine awp_seq ?_; refine awp_cond rfl (fun c1 => ?_) (fun c1 => ?_)
  · try simp only [↓cqA, cqB] at c1
    obtain ⟨t, ht⟩ := get_of_lt (l := k) (k := j) (by omega)
    have hta := hk t (List.mem_of_getElem? ht)
    refine awp_skip ?_; refine thenQ_nil ?_; refine awp_seq ?_; refine awp_block ?_; refine awp_seq ?_; refine awp_region ?_
    first | refine awps_stp0 rfl rfl (by decide) (stp_indexAddr rfl sl_S_api_Term rfl rfl (by omega) (by omega)) ?_ | refine awps_stp0 rfl rfl (by decide) (stp_indexAddr_rowd rfl sl_S_api_Term rfl rfl rfl (by omega) (by omega)) ?_ | refine awps_stp0 rfl rfl (by decide) (stp_indexAddr_row rfl sl_S_api_Term rfl rfl rfl (by omega) (by omega) (by decide)) ?_
    refine awps_stp0 rfl rfl (by decide) (stp_load_rowdi j 0 rfl tf_api_Term rfl rfl (by omega) (tmDs_get ht) rfl rfl rfl) ?_; refine awps_stp1 rfl rfl (by decide) (stp_alloc 9 rfl zv_api_Term rfl) rfl ?_; refine awps_store rfl rfl rfl tf_api_Term rfl rfl rfl rfl rfl rfl rfl rfl rfl ?_; refine awps_nil ?_; refine thenQ_nil ?_; refine awp_region ?_
    refine awps_stp0 rfl rfl (by decide) (stp_move (.inl rfl) rfl) ?_
    first | refine awps_stp0 rfl rfl (by decide) (stp_load_all rfl tf_api_Term rfl rfl rfl rfl) ?_ | refine awps_stp0 rfl rfl (by decide) (stp_load rfl tf_api_Term rfl rfl rfl rfl rfl) ?_ | refine awps_stp0 rfl rfl (by decide) (stp_load_elpa rfl tf_api_Term rfl rfl) ?_ | refine awps_stp0 rfl rfl (by decide) (stp_load_elpn rfl tf_api_Term rfl rfl rfl) ?_
    refine awps_call (avs := [_]) true rfl rfl rfl (by decide) en_term_Key rfl rfl (Key_ok 5 t (may_dle hta.may) (may_shp hta.may) hta.wf (by have := ((mayT_iff _).1 hta.may).2.2; omega)) rfl rfl ?_; refine awps_mxDel rfl rfl rfl um_known_found rfl rfl rfl rfl (keyOf_key hta.may) ?_; refine awps_nil ?_; refine inQ_nil ?_; refine thenQ_nil ?_; refine awp_region ?_
    refine awps_stp0 rfl rfl (by decide) (stp_add rfl rfl rfl (by omega)) ?_; refine awps_stp0 rfl rfl (by decide) (stp_move (.inl rfl) rfl) ?_; refine awps_nil ?_; refine thenQ_nil ?_; refine ⟨?_, ?_, ?_⟩
    · skip
      omega
    · skip
      omega
    exact sub_re (SubT.cons (lk_eq rfl (by first | rfl | simp)) (SubT.cons (lk_eq rfl (by first | rfl | simp)) (SubT.cons (lk_eq rfl (by first | rfl | simp)) (SubT.cons (lk_eq rfl (by first | rfl | simp)) (SubT.nil))))) (SubO.cons (ok_eq rfl (by rfl)) (SubO.cons (ok_eq rfl (by rw [mvDel_kvT, dels_snoc _ ht])) (SubO.nil))) rfl rfl (LOz hL rfl)
  try simp only [↓cqA, cqB] at c1
  refine awp_exit ?_; refine thenQ_exit (thenQ_exit (inQ_hit ?_)); refine thenQ_nil ?_; refine awp_seq ?_
  rw [List.take_of_length_le (l := k) (i := j) (by omega)]
  refine awp_region ?_; refine awps_stp0 rfl rfl (by decide) (stp_move (.inr rfl) rfl) ?_; refine awps_nil ?_; refine thenQ_nil ?_; refine awp_seq ?_; refine awp_seq ?_; refine awp_region ?_; refine awps_stp0 rfl rfl (by decide) (stp_move (.inl rfl) rfl) ?_; refine awps_mxRange (l' := 36) rfl rfl rfl (by decide) um_known_found rfl rfl (nLk hL rfl) rfl ?_; refine awps_nil ?_; refine thenQ_nil ?_
  refine awp_block ?_
  refine awp_whileE (α := List Tm × List Tm × Option (List D)) ((dels (addT [] (derL cs k)) k).length) (fun r a => (a.2.1 ++ a.1).Perm (dels (addT [] (derL cs k)) k) ∧ a.2.1.length = r) (fun r a => ⟨[(10, .row 10), (36, .ptr 36 0)], [(1, .rowd 35 4 false (tmDs k)), (10, .rowd 35 4 false (a.2.1.map tmD)), (36, wlkK a.1 a.2.2)]⟩) ((dels (addT [] (derL cs k)) k, [], none)) (⟨.refl _, rfl⟩) ?_ (fun r a hr hpr => ?_)
  · exact Sub.trans (sub_nil_row (t := 10) (l := 10) 35 4 false rfl rfl) (sub_re (SubT.cons (lk_eq rfl (by first | rfl | simp)) (SubT.cons (lk_eq rfl (by first | rfl | simp)) (SubT.nil))) (SubO.cons (ok_eq rfl (by rfl)) (SubO.cons (ok_eq rfl (by rfl)) (SubO.cons (ok_eq rfl (by rfl)) (SubO.nil)))) rfl rfl (LOz hL rfl))
  have hpl := hpr.1.length_eq
  rw [List.length_append] at hpl
  have hml : (a.2.1.map tmD).length ≤ 10000000 := by rw [List.length_map]; omega
  refine awp_seq ?_; refine awp_region ?_; refine awps_mxNext rfl rfl rfl (by decide) rfl rfl (fun h0 => ?_) (fun pe hpe => ?_)
  · skip
    have hnil : a.1 = [] := by cases h : a.1 with
      | nil => rfl
      | cons x y => rw [h] at h0; cases h0
    have hdone : a.2.1.Perm (dels (addT [] (derL cs k)) k) := by have := hpr.1; rw [hnil, List.append_nil] at this; exact this
    refine awps_stp0 rfl rfl (by decide) (stp_extract rfl rfl rfl) ?_; refine awps_nil ?_; refine thenQ_nil ?_; refine awp_seq ?_; refine awp_condF rfl ?_; refine awp_exit ?_; refine thenQ_exit (thenQ_exit (inQ_hit ?_)); refine thenQ_nil ?_; refine awp_seq ?_; refine awp_region ?_; refine awps_stp0 rfl rfl (by decide) (stp_move (.inl rfl) rfl) ?_
    refine awps_sort Tryz.srtT (k := 4) (by decide) tf_api_Term (sf := 134) rfl en_term_Compare en_slices_SortFunc_api_Term_api_Term (toD := tmD) (es := a.2.1) (cf := cmpT 5) rfl rfl (by decide) rfl rfl rfl rfl (by omega) (fun x hx y hy => ?_) (fun x _ => by rw [(TP.tm 5).self]; decide) (fun x _ y _ z _ h1 h2 => (TP.tm 5).lt1 h1 (by omega)) (fun x _ y _ z _ h1 h2 h3 => ?_) (fun es' hp2 hs2 => ?_)
    · have ax := hnewk x (hdone.mem_iff.1 hx)
      have ay := hnewk y (hdone.mem_iff.1 hy)
      exact Compare_ok 5 x y (may_dle ax.may) ax.wf ay.wf
    · have h4 := (TP.tm 5).anti x y
      have h5 := (TP.tm 5).anti y z
      have h6 := (TP.tm 5).anti x z
      have h7 := (TP.tm 5).tr z y x (by omega) (by omega)
      omega
    obtain rfl : es' = nextL cs k := by
      have e1 := perm_ss (fun x hx => may_dle (hnewk x (hdone.mem_iff.1 hx)).may) (hdone.nodup_iff.2 hdel.1) hp2 hs2
      rw [e1, nextL]
      refine SS.uniq (srtU_ss fun x hx => may_dle (hnewk x (hdone.mem_iff.1 hx)).may) (srtU_ss hnewd) (fun x => ?_)
      rw [srtU_mem (fun x hx => may_dle (hnewk x (hdone.mem_iff.1 hx)).may), srtU_mem hnewd, hdone.mem_iff, hdel.2, hadd.2, newL, List.mem_filter]
      simp only [Bool.not_eq_true']
      constructor
      · rintro ⟨h1 | h1, h2⟩
        · cases h1
        · refine ⟨h1, ?_⟩
          cases hm : memK k x with
          | false => rfl
          | true => exact absurd ((memK_iff (fun u hu => may_dle (hk u hu).may)).1 hm) h2
      · rintro ⟨h1, h2⟩
        refine ⟨.inr h1, fun h3 => ?_⟩
        rw [(memK_iff (fun u hu => may_dle (hk u hu).may)).2 h3] at h2; cases h2
    refine awps_nil ?_; refine thenQ_nil ?_; refine awp_seq ?_; refine awp_sub (sub_freeze (l := 10) rfl (by decide) (nLk hL rfl) rfl rfl) ?_; refine awp_region ?_; refine awps_stp0 rfl rfl (by decide) (stp_move (.inl rfl) rfl) ?_; refine awps_stp0 rfl rfl (by decide) (stp_move (.inr rfl) rfl) ?_; refine awps_nil ?_; refine thenQ_nil ?_; refine awp_ret ?_
    -- leaf 0F1Ff14.0_0
    change retQ _ _ _ _ _ _ _
    refine retO (O' := [(1, _)]) (by first | exact .inl rfl | exact .inr rfl) (resAs_tmp rfl resAs_nil) (SubO.cons rfl SubO.nil) ?_ ?_ (LOz hL rfl) ?_
    · rfl
    · rfl
    exact ⟨by rw [tmDs_map]; rfl, rfl⟩
  obtain ⟨t, ht, rfl⟩ := List.mem_map.1 hpe
  have hsub : ∀ x ∈ a.1, mayT x = true := fun x hx => hmay2 x (hpr.1.mem_iff.1 (List.mem_append_right _ hx))
  have hnd : a.1.Nodup := ((List.nodup_append.1 (hpr.1.nodup_iff.2 hdel.1)).2.1)
  have hpm := delT_perm (hsub t ht) hsub hnd ht
  have hpo : 0 < a.1.length := List.length_pos_of_mem ht
  have hlt : r < (dels (addT [] (derL cs k)) k).length := by omega
  rw [show (kv t).1 = keyM t from rfl, show (kv t).2 = tmD t from rfl, mvDel_kvT]
  refine awps_stp0 rfl rfl (by decide) (stp_extract rfl rfl rfl) ?_; refine awps_nil ?_; refine thenQ_nil ?_; refine awp_seq ?_; refine awp_condT rfl ?_; refine awp_skip ?_; refine thenQ_nil ?_; refine awp_block ?_; refine awp_seq ?_; refine awp_region ?_; refine awps_stp0 rfl rfl (by decide) (stp_mxEntry rfl rfl rfl) ?_; refine awps_stp0 rfl rfl (by decide) (stp_extract rfl rfl rfl) ?_
  refine awps_stp1 rfl rfl (by decide) (stp_alloc 12 rfl zv_api_Term rfl) rfl ?_; refine awps_store rfl rfl rfl tf_api_Term rfl rfl rfl rfl rfl rfl rfl rfl rfl ?_; refine awps_nil ?_; refine thenQ_nil ?_; refine awp_region ?_; refine awps_stp0 rfl rfl (by decide) (stp_move (.inl rfl) rfl) ?_
  first | refine awps_stp0 rfl rfl (by decide) (stp_load_all rfl tf_api_Term rfl rfl rfl rfl) ?_ | refine awps_stp0 rfl rfl (by decide) (stp_load rfl tf_api_Term rfl rfl rfl rfl rfl) ?_ | refine awps_stp0 rfl rfl (by decide) (stp_load_elpa rfl tf_api_Term rfl rfl) ?_ | refine awps_stp0 rfl rfl (by decide) (stp_load_elpn rfl tf_api_Term rfl rfl rfl) ?_
  refine awps_stp1 rfl rfl (by decide) (stp_buildSlice 43 rfl sl_S_api_Term zv_api_Term rfl rfl (by decide) (by decide) (by decide) rfl rfl rfl) rfl ?_
  first | refine awps_u rfl rfl (by decide) (stpU_append1 44 ta_S_api_Term rfl rfl rfl rfl rfl rfl rfl rfl (nLk hL rfl) (by omega) rfl) rfl ?_ | refine awps_u rfl rfl (by decide) (stpU_appendd 44 ta_S_api_Term rfl rfl rfl rfl rfl (nLk hL rfl) (by simp) (by omega) rfl) rfl ?_ | refine awps_u rfl rfl (by decide) (stpU_appendi 44 ta_S_api_Term rfl rfl rfl rfl (rfl) rfl (nLk hL rfl) (by simp) (by omega) rfl) rfl ?_
  refine awps_stp0 rfl rfl (by decide) (stp_move (.inr rfl) rfl) ?_; refine awps_nil ?_; refine inQ_nil ?_; refine thenQ_nil ?_; refine ⟨?_, (delT t a.1, a.2.1 ++ [t], some (tmD t)), ?_, ?_⟩
  · skip
    omega
  · skip
    refine ⟨?_, by simp; omega⟩
    have h1 : (a.2.1 ++ [t] ++ delT t a.1).Perm (a.2.1 ++ a.1) := by
      rw [List.append_assoc]
      exact (List.Perm.append_left a.2.1 hpm)
    exact h1.trans hpr.1
  exact Sub.trans (sub_rename 44 10 (nLk hL rfl) (nLk hL rfl)) (sub_re (SubT.cons (lk_eq rfl (by first | rfl | simp)) (SubT.cons (lk_eq rfl (by first | rfl | simp)) (SubT.nil))) (SubO.cons (ok_eq rfl (by rfl)) (SubO.cons (ok_eq rfl (by rw [List.map_append]; rfl)) (SubO.cons (ok_eq rfl (by rfl)) (SubO.nil)))) rfl rfl (LOz hL rfl))
end Go.Proofs.YtdecgkhdbfgldaaGreat

set_option linter.unusedVariables false
set_option linter.unusedSimpArgs false
set_option maxRecDepth 8000
namespace Go.Proofs.YtdecgkhdbfgldaaGreat
open Go Go.Maps
theorem srtU_perm {l : List Tm} (hd : ∀ a ∈ l, dle 5 a) (hn : l.Nodup) : (srtU l).Perm l :=
  (List.perm_ext_iff_of_nodup (srtU_ss hd).nodup hn).2 fun _ => srtU_mem hd
def allR (cs : List Cl) : Nat → List Tm → List Tm × Int
  | 0, _ => ([], 2)
  | n + 1, k => if (nextL cs k).length = 0 then (k, 0) else if 60 < k.length + (nextL cs k).length then ([], 2) else allR cs n (srtU (k ++ nextL cs k))
def okC (c : Cl) : Bool := decide (clauseE c = 0)
def allC (cs : List Cl) : List Tm × Int := if cs.all okC then allR cs 61 [] else ([], 1)
structure Kn (k : List Tm) : Prop where
  atk : ∀ t ∈ k, AtK t
  ss : SS k
  len : k.length ≤ 60
theorem Kn.nil : Kn [] := ⟨fun t ht => (by cases ht), List.Pairwise.nil, by simp⟩
theorem Kn.dl {k : List Tm} (h : Kn k) : ∀ t ∈ k, dle 5 t := fun t ht => may_dle (h.atk t ht).may
theorem nextL_mem {cs : List Cl} (hw : ∀ c ∈ cs, c.wf) (hc : ∀ c ∈ cs, clauseE c = 0) {k : List Tm} (h : ∀ t ∈ k, AtK t) {x : Tm} : x ∈ nextL cs k ↔ x ∈ derL cs k ∧ x ∉ k := by
  have hd : ∀ a ∈ newL cs k, dle 5 a := fun a ha => may_dle (derL_atk hw hc h a (List.mem_filter.1 ha).1).may
  rw [nextL, srtU_mem hd, newL, List.mem_filter, Bool.not_eq_true', ← Bool.not_eq_true, memK_iff fun t ht => may_dle (h t ht).may]
theorem grow_perm {cs : List Cl} (hw : ∀ c ∈ cs, c.wf) (hc : ∀ c ∈ cs, clauseE c = 0) {k : List Tm} (h : Kn k) : (srtU (k ++ nextL cs k)).Perm (k ++ nextL cs k) ∧ (∀ t ∈ k ++ nextL cs k, AtK t) ∧ (k ++ nextL cs k).Nodup := by
  have ha : ∀ t ∈ k ++ nextL cs k, AtK t := fun t ht => by
    rcases List.mem_append.1 ht with ht | ht
    · exact h.atk t ht
    · exact nextL_atk hw hc h.atk t ht
  have hd : ∀ a ∈ newL cs k, dle 5 a := fun a ha => may_dle (derL_atk hw hc h.atk a (List.mem_filter.1 ha).1).may
  have hn : (k ++ nextL cs k).Nodup := List.nodup_append.2 ⟨h.ss.nodup, (srtU_ss hd).nodup, fun x hx y hy e => by
    subst e; exact ((nextL_mem hw hc h.atk).1 hy).2 hx⟩
  exact ⟨srtU_perm (fun t ht => may_dle (ha t ht).may) hn, ha, hn⟩
theorem Kn.grow {cs : List Cl} (hw : ∀ c ∈ cs, c.wf) (hc : ∀ c ∈ cs, clauseE c = 0) {k : List Tm} (h : Kn k) (hl : k.length + (nextL cs k).length ≤ 60) : Kn (srtU (k ++ nextL cs k)) := by
  obtain ⟨h1, h2, h3⟩ := grow_perm hw hc h
  refine ⟨fun t ht => h2 t (h1.mem_iff.1 ht), srtU_ss fun t ht => may_dle (h2 t ht).may, ?_⟩
  rw [h1.length_eq, List.length_append]; exact hl
theorem nextL_len {cs : List Cl} (hw : ∀ c ∈ cs, c.wf) (hc : ∀ c ∈ cs, clauseE c = 0) {k : List Tm} (h : ∀ t ∈ k, AtK t) : (nextL cs k).length ≤ (derL cs k).length := by
  have hd : ∀ a ∈ newL cs k, dle 5 a := fun a ha => may_dle (derL_atk hw hc h a (List.mem_filter.1 ha).1).may
  refine List.Nodup.length_le_of_subset (srtU_ss hd).nodup fun x hx => ?_
  exact (List.mem_filter.1 ((srtU_mem hd).1 hx)).1
theorem IndexFunc_cl_ok (B : Bool) (ts : List Cl) (es : List (List D)) (hes : es = ts.map clD) (hlen : ts.length ≤ 140737488351232) (g : FuncId) (caps : List AV) (hen : Enters Tryz.prog g) (Os : Nat → List (Nat × Ob)) (p : Nat → Bool) (hO : Thread B caps Os)
    (hstep : ∀ k u, ts[k]? = some u → (∀ j, j < k → p j = false) → AC Tryz.prog g (clA u :: caps) (Os k) (fun r O => r = bv (p k) ∧ O = Os (k + 1))) :
    AC Tryz.prog 192 [.dat false 6 es, .fn g caps] (Os 0) (fun r O => ∃ m n i, m ≤ ts.length ∧ (∀ j, j < m → p j = false) ∧ ((m < ts.length ∧ p m = true ∧ i = (m : Int) ∧ n = m + 1) ∨ (m = ts.length ∧ i = -1 ∧ n = m)) ∧ r = iv i ∧ O = Os n) := by
  have hl : es.length = ts.length := by rw [hes, List.length_map]
  refine AC_intro Tryz.func192 rfl Tryz.ntmps192 (Nat.le_of_ble_eq_true rfl) fun c hL hQ hDD => ?_; refine awp_seq ?_; refine awp_region ?_; refine awps_stp0 rfl rfl (by decide) (stp_move (.inr rfl) rfl) ?_; refine awps_nil ?_; refine thenQ_nil ?_; refine awp_seq ?_; refine awp_seq ?_; refine awp_region ?_; refine awps_stp0 rfl rfl (by decide) (stp_move (.inl rfl) rfl) ?_
  first | refine awps_stp0 rfl rfl (by decide) (stp_len_dat rfl sl_S_api_Clause rfl) ?_ | refine awps_stp0 rfl rfl (by decide) (stp_len_rowd rfl sl_S_api_Clause rfl rfl) ?_ | refine awps_stp0 rfl rfl (by decide) (stp_len_nil rfl sl_S_api_Clause rfl) ?_ | refine awps_stp0 rfl rfl (by decide) (stp_len_vw rfl sl_S_api_Clause rfl) ?_
  refine awps_stp0 rfl rfl (by decide) (stp_move (.inl rfl) rfl) ?_; refine awps_nil ?_; refine thenQ_nil ?_; refine awp_block ?_; refine awp_while (ts.length) (fun k => k ≤ ts.length ∧ ∀ j, j < k → p j = false) (fun k => ⟨[(0, .dat false 6 es), (1, .fn g caps), (7, iv es.length), (8, iv (k : Int))], Os k⟩) (⟨by omega, fun j hj => absurd hj (by omega)⟩) ?_ (fun k hk hp => ?_)
  · exact sub_re (SubT.cons (lk_eq rfl (by first | rfl | simp)) (SubT.cons (lk_eq rfl (by first | rfl | simp)) (SubT.cons (lk_eq rfl (by first | rfl | simp)) (SubT.cons (lk_eq rfl (by first | rfl | simp)) (SubT.nil))))) (fun _ _ h => h) (by simp [allT, AV.allL, hO.all]) (hO.self _) (fun l hl => by rw [hO.dom]; exact (hL l).1 hl)
  refine awp_seq ?_; refine awp_region ?_; refine awps_stp0 rfl rfl (by decide) (stp_binI rfl rfl rfl rfl) ?_; refine awps_nil ?_; refine thenQ_nil ?_; refine awp_seq ?_; refine awp_cond rfl (fun c0 => ?_) (fun c0 => ?_)
  · try simp only [↓cqA, cqB] at c0
    obtain ⟨u, hu⟩ := get_of_lt (l := ts) (k := k) (by omega)
    refine awp_skip ?_; refine thenQ_nil ?_; refine awp_seq ?_; refine awp_block ?_; refine awp_seq ?_; refine awp_region ?_; refine awps_stp0 rfl rfl (by decide) (stp_move (.inl rfl) rfl) ?_; refine awps_stp0 rfl rfl (by decide) (stp_move (.inr rfl) rfl) ?_; refine awps_nil ?_; refine thenQ_nil ?_; refine awp_seq ?_; refine awp_region ?_
    refine awps_stp0 rfl rfl (by decide) (stp_move (.inl rfl) rfl) ?_; refine awps_stp0 rfl rfl (by decide) (stp_move (.inl rfl) rfl) ?_; refine awps_stp0 rfl rfl (by decide) (stp_move (.inl rfl) rfl) ?_
    first | refine awps_stp0 rfl rfl (by decide) (stp_indexAddr rfl sl_S_api_Clause rfl rfl (by omega) (by rw [hes, List.getElem?_map]; exact congrArg (Option.map clD) hu)) ?_ | refine awps_stp0 rfl rfl (by decide) (stp_indexAddr_rowd rfl sl_S_api_Clause rfl rfl rfl (by omega) (by rw [hes, List.getElem?_map]; exact congrArg (Option.map clD) hu)) ?_ | refine awps_stp0 rfl rfl (by decide) (stp_indexAddr_row rfl sl_S_api_Clause rfl rfl rfl (by omega) (by rw [hes, List.getElem?_map]; exact congrArg (Option.map clD) hu) (by decide)) ?_
    first | refine awps_stp0 rfl rfl (by decide) (stp_load_all rfl tf_api_Clause rfl rfl rfl rfl) ?_ | refine awps_stp0 rfl rfl (by decide) (stp_load rfl tf_api_Clause rfl rfl rfl rfl rfl) ?_ | refine awps_stp0 rfl rfl (by decide) (stp_load_elpa rfl tf_api_Clause rfl rfl) ?_ | refine awps_stp0 rfl rfl (by decide) (stp_load_elpn rfl tf_api_Clause rfl rfl rfl) ?_
    refine awps_callP (avs := [_]) B rfl rfl rfl (by decide) hen rfl rfl (hstep k u hu hp.2) (by rw [List.cons_append, List.nil_append]; simp only [AV.cvs, hO.cvs]; rfl) (hO.pass k) (by rintro r O' ⟨_, rfl⟩ l hl; left; rw [hO.dom] at hl ⊢; exact hl) (by rintro hB r O' ⟨rfl, rfl⟩; exact ⟨rfl, hO.q hB _⟩) ?_
    rintro r O' ⟨rfl, rfl⟩
    refine awps_nil ?_; refine thenQ_nil ?_; refine awp_cond rfl (fun c1 => ?_) (fun c1 => ?_)
    · try simp only [↓cqA, cqB] at c1
      refine awp_seq ?_; refine awp_region ?_; refine awps_stp0 rfl rfl (by decide) (stp_move (.inl rfl) rfl) ?_; refine awps_stp0 rfl rfl (by decide) (stp_move (.inr rfl) rfl) ?_; refine awps_nil ?_; refine thenQ_nil ?_; refine awp_ret ?_; refine inQ_ret (thenQ_ret (thenQ_ret (inQ_ret (thenQ_ret (?_)))))
      change retQ _ _ _ _ _ _ _
      refine retO (.inl rfl) (resAs_tmp rfl resAs_nil) SubO.left rfl (hO.self _) (fun l hl => by rw [hO.dom]; exact (hL l).1 hl) ?_
      exact ⟨k, _, _, by omega, hp.2, .inl ⟨by omega, c1, rfl, rfl⟩, rfl, rfl⟩
    try simp only [↓cqA, cqB] at c1
    refine awp_skip ?_; refine inQ_nil ?_; refine thenQ_nil ?_; refine awp_region ?_; refine awps_stp0 rfl rfl (by decide) (stp_add rfl rfl rfl (by omega)) ?_; refine awps_stp0 rfl rfl (by decide) (stp_move (.inl rfl) rfl) ?_; refine awps_nil ?_; refine thenQ_nil ?_; refine ⟨?_, ?_, ?_⟩
    · skip
      omega
    · skip
      refine ⟨by omega, fun j hj => ?_⟩
      by_cases hjk : j < k
      · exact hp.2 j hjk
      · rw [show j = k by omega]; exact c1
    exact sub_re (SubT.cons (lk_eq rfl (by first | rfl | simp)) (SubT.cons (lk_eq rfl (by first | rfl | simp)) (SubT.cons (lk_eq rfl (by first | rfl | simp)) (SubT.cons (lk_eq rfl (by first | rfl | simp)) (SubT.nil))))) (SubO.left) (by simp [allT, AV.allL, hO.all]) (hO.self _) (fun l hl => by rw [hO.dom]; exact (hL l).1 hl)
  try simp only [↓cqA, cqB] at c0
  refine awp_exit ?_; refine thenQ_exit (thenQ_exit (inQ_hit ?_)); refine thenQ_nil ?_; refine awp_seq ?_; refine awp_region ?_; refine awps_stp0 rfl rfl (by decide) (stp_move (.inr rfl) rfl) ?_; refine awps_nil ?_; refine thenQ_nil ?_; refine awp_ret ?_
  change retQ _ _ _ _ _ _ _
  refine retO (.inl rfl) (resAs_tmp rfl resAs_nil) (fun _ _ h => h) rfl (hO.self _) (fun l hl => by rw [hO.dom]; exact (hL l).1 hl) ?_
  exact ⟨k, _, _, by omega, hp.2, .inr ⟨by omega, rfl, rfl⟩, rfl, rfl⟩
theorem ContainsFunc_cl_ok (B : Bool) (ts : List Cl) (es : List (List D)) (hes : es = ts.map clD) (hlen : ts.length ≤ 140737488351232) (g : FuncId) (caps : List AV) (hen : Enters Tryz.prog g) (Os : Nat → List (Nat × Ob)) (p : Nat → Bool) (hO : Thread B caps Os)
    (hstep : ∀ k u, ts[k]? = some u → (∀ j, j < k → p j = false) → AC Tryz.prog g (clA u :: caps) (Os k) (fun r O => r = bv (p k) ∧ O = Os (k + 1))) :
    AC Tryz.prog 131 [.dat false 6 es, .fn g caps] (Os 0) (fun r O => ∃ m n b, m ≤ ts.length ∧ (∀ j, j < m → p j = false) ∧ ((m < ts.length ∧ p m = true ∧ b = true ∧ n = m + 1) ∨ (m = ts.length ∧ b = false ∧ n = m)) ∧ r = bv b ∧ O = Os n) := by
  refine AC_intro Tryz.func131 rfl Tryz.ntmps131 (Nat.le_of_ble_eq_true rfl) fun c hL hQ hDD => ?_; refine awp_seq ?_; refine awp_region ?_; refine awps_stp0 rfl rfl (by decide) (stp_move (.inr rfl) rfl) ?_; refine awps_nil ?_; refine thenQ_nil ?_; refine awp_seq ?_; refine awp_region ?_; refine awps_stp0 rfl rfl (by decide) (stp_move (.inl rfl) rfl) ?_
  refine awps_stp0 rfl rfl (by decide) (stp_move (.inl rfl) rfl) ?_
  refine awps_callP (avs := [_, _]) B rfl rfl rfl (by decide) en_slices_IndexFunc_api_Clause_api_Clause rfl rfl (IndexFunc_cl_ok B ts es hes hlen g caps hen Os p hO hstep) (by simp only [List.append_nil, AV.cvs, AV.cv, hO.cvs]; rfl) (hO.pass 0) (by rintro r O' ⟨m, n, i, _, _, _, _, rfl⟩ l hl; left; rw [hO.dom] at hl ⊢; exact hl) (by rintro hB r O' ⟨m, n, i, _, _, _, rfl, rfl⟩; exact ⟨rfl, hO.q hB _⟩) ?_
  rintro r O' ⟨m, n, i, hm, hf, hc, rfl, rfl⟩
  refine awps_stp0 rfl rfl (by decide) (stp_binI rfl rfl rfl rfl) ?_; refine awps_stp0 rfl rfl (by decide) (stp_move (.inr rfl) rfl) ?_; refine awps_nil ?_; refine thenQ_nil ?_; refine awp_ret ?_
  -- leaf 
  change retQ _ _ _ _ _ _ _
  refine retO (.inl rfl) (resAs_tmp rfl resAs_nil) SubO.left rfl (hO.self _) (fun l hl => by rw [hO.dom]; exact (hL l).1 hl) ?_; refine ⟨m, n, _, hm, hf, ?_, rfl, rfl⟩
  rcases hc with ⟨h1, h2, rfl, h3⟩ | ⟨h1, rfl, h3⟩
  · exact .inl ⟨h1, h2, by simp, h3⟩
  · exact .inr ⟨h1, by simp, h3⟩
theorem badC_ok (q : Cl) (hc : q.wf) : PF 132 [clA q] (bv (!(okC q))) := by
  refine AC_intro Tryz.func132 rfl Tryz.ntmps132 (Nat.le_of_ble_eq_true rfl) fun c hL hQ hDD => ?_; refine awp_seq ?_; refine awp_region ?_; refine awps_stp1 rfl rfl (by decide) (stp_box 1 rfl rfl rfl) rfl ?_; refine awps_stp0 rfl rfl (by decide) (stp_move (.inr rfl) rfl) ?_; refine awps_nil ?_; refine thenQ_nil ?_; refine awp_seq ?_; refine awp_region ?_
  first | refine awps_stp0 rfl rfl (by decide) (stp_load_all rfl tf_api_Clause rfl rfl rfl rfl) ?_ | refine awps_stp0 rfl rfl (by decide) (stp_load rfl tf_api_Clause rfl rfl rfl rfl rfl) ?_ | refine awps_stp0 rfl rfl (by decide) (stp_load_elpa rfl tf_api_Clause rfl rfl) ?_ | refine awps_stp0 rfl rfl (by decide) (stp_load_elpn rfl tf_api_Clause rfl rfl rfl) ?_
  refine awps_call (avs := [_]) true rfl rfl rfl (by decide) en_check_Clause rfl rfl (checkClause_ok q hc) rfl rfl ?_; refine awps_stp0 rfl rfl (by decide) (stp_binI rfl rfl rfl rfl) ?_; refine awps_stp0 rfl rfl (by decide) (stp_move (.inr rfl) rfl) ?_; refine awps_nil ?_; refine thenQ_nil ?_; refine awp_ret ?_
  -- leaf 
  refine ret0 (noL hL) (.inl rfl) (resAs_tmp rfl (resAs_nil)) ?_ ?_
  · rfl
  exact ⟨bool_w (by first | rfl | (rw [okC, ← decide_not]; done) | (simp [okC]; done)), rfl⟩
theorem tmDs_len4 (l : List Tm) : ∀ d ∈ tmDs l, d.length = 4 := fun d hd => by
  rw [tmDs_map] at hd; obtain ⟨t, _, rfl⟩ := List.mem_map.1 hd; rfl
theorem All_ok (cs : List Cl) (hcl : cs.length ≤ 10000000) (hw : ∀ c ∈ cs, c.wf) (hB : ∀ k, Kn k → (derL cs k).length ≤ 10000000) :
    PF 68 [.dat false 6 (clDs cs)] (.tup [.dat false 4 (tmDs (allC cs).1), iv (allC cs).2]) := by
  have hlc := clDs_length cs
  refine AC_leP (Post := fun r O => (((allC cs).1 = [] ∧ r = .tup [.imm (.slice none 0 0), iv (allC cs).2]) ∨ r = .tup [.dat false 4 (tmDs (allC cs).1), iv (allC cs).2]) ∧ O = []) ?_ (fun r O' h => by
    obtain ⟨⟨h1, rfl⟩ | rfl, rfl⟩ := h
    · exact ⟨_, .tup (.cons (.nil (f := false) (k := 4)) (.cons .refl .nil)), by rw [h1]; rfl, rfl⟩
    · exact ⟨_, .refl, rfl, rfl⟩)
  refine AC_intro Tryz.func68 rfl Tryz.ntmps68 (Nat.le_of_ble_eq_true rfl) fun c hL hQ hDD => ?_; refine awp_seq ?_; refine awp_region ?_; refine awps_stp0 rfl rfl (by decide) (stp_move (.inr rfl) rfl) ?_; refine awps_stp0 rfl rfl (by decide) (stp_move (.inr rfl) rfl) ?_; refine awps_nil ?_; refine thenQ_nil ?_; refine awp_seq ?_; refine awp_seq ?_; refine awp_region ?_
  refine awps_stp0 rfl rfl (by decide) (stp_move (.inl rfl) rfl) ?_
  refine awps_callP (avs := [_, _]) false rfl rfl rfl (by decide) en_slices_ContainsFunc_api_Clause_api_Clause rfl rfl (ContainsFunc_cl_ok false cs _ rfl (by omega) _ [] en_known_bad (fun _ => []) (fun k => match cs[k]? with | some t => !(okC t) | none => false) ⟨fun k l => rfl, fun k => passO .nil, fun k => rfl, fun k => rfl, fun k => rfl, fun k => rfl, fun h => by cases h⟩ (fun k g hg _ => by rw [hg]; exact badC_ok g (hw g (List.mem_of_getElem? hg)))) (rfl) (passO .nil) (by rintro r O' ⟨m, n, b, _, _, _, _, rfl⟩; exact frB rfl) (by rintro h; cases h) ?_
  rintro r O' ⟨m, n, b, hm1, hf1, hc1, rfl, rfl⟩
  have hb1 := cont_all (l := cs) (p := okC) (fun j x hx => by simp only [hx]) hf1 hc1
  refine awps_nil ?_; refine thenQ_nil ?_; refine awp_cond rfl (fun c0 => ?_) (fun c0 => ?_)
  · try simp only [↓cqA, cqB] at c0
    have hbad : cs.all okC = false := by rw [hb1] at c0; simpa using c0
    refine awp_seq ?_; refine awp_region ?_; refine awps_stp0 rfl rfl (by decide) (stp_move (.inr rfl) rfl) ?_; refine awps_stp0 rfl rfl (by decide) (stp_move (.inr rfl) rfl) ?_; refine awps_nil ?_; refine thenQ_nil ?_; refine awp_ret ?_; refine thenQ_ret (?_)
    -- leaf 0T
    refine ret0 (noL hL) (.inl rfl) (resAs_tmp rfl (resAs_tmp rfl (resAs_nil))) ?_ ?_
    · rfl
    exact ⟨.inl ⟨by rw [allC, hbad]; rfl, by rw [allC, hbad]; rfl⟩, rfl⟩
  try simp only [↓cqA, cqB] at c0
  have hgood : cs.all okC = true := by rw [hb1] at c0; simpa using c0
  have hc : ∀ c ∈ cs, clauseE c = 0 := fun c hm => by have := List.all_eq_true.1 hgood c hm; simpa [okC] using this
  have hall : allC cs = allR cs 61 [] := by rw [allC, if_pos hgood]
  refine awp_skip ?_; refine thenQ_nil ?_; refine awp_seq ?_; refine awp_region ?_; refine awps_stp0 rfl rfl (by decide) (stp_move (.inr rfl) rfl) ?_; refine awps_nil ?_; refine thenQ_nil ?_; refine awp_block ?_
  refine awp_whileE (α := List Tm) (61) (fun k a => Kn a ∧ k ≤ a.length ∧ allC cs = allR cs (61 - k) a) (fun k a => ⟨[(0, .dat false 6 (clDs cs)), (4, .row 4)], [(4, .rowd 35 4 false (tmDs a))]⟩) ([]) (⟨Kn.nil, by simp, hall⟩) ?_ (fun k a hk hp => ?_)
  · exact Sub.trans (sub_nil_row (t := 4) (l := 4) 35 4 false rfl rfl) (sub_re (SubT.cons (lk_eq rfl (by first | rfl | simp)) (SubT.cons (lk_eq rfl (by first | rfl | simp)) (SubT.nil))) (SubO.cons (ok_eq rfl (by rfl)) (SubO.nil)) rfl rfl (noL' (noL hL) _))
  obtain ⟨hkn, hka, hkr⟩ := hp
  have hal := tmDs_length a
  have han := tmDs_length (nextL cs a)
  have hk60 := hkn.len
  have hnl := nextL_len hw hc hkn.atk
  have hbd := hB a hkn
  obtain ⟨hgp, hga, hgn⟩ := grow_perm hw hc hkn
  have hru : allR cs (61 - k) a = if (nextL cs a).length = 0 then (a, 0) else if 60 < a.length + (nextL cs a).length then ([], 2) else allR cs (61 - (k + 1)) (srtU (a ++ nextL cs a)) := by
    rw [show 61 - k = (61 - (k + 1)) + 1 by omega]; rfl
  have hap : tmDs a ++ tmDs (nextL cs a) = tmDs (a ++ nextL cs a) := by rw [tmDs_map, tmDs_map, tmDs_map, List.map_append]
  have hapl := tmDs_length (a ++ nextL cs a)
  rw [List.length_append] at hapl
  have hst := AC_rnE 1 4 (stepR_ok cs hcl hw hc a hkn.atk (by omega) hbd)
  refine awp_block ?_; refine awp_seq ?_; refine awp_region ?_; refine awps_stp0 rfl rfl (by decide) (stp_move (.inl rfl) rfl) ?_; refine awps_stp0 rfl rfl (by decide) (stp_move (.inl rfl) rfl) ?_; refine awps_callP (avs := [_, _]) false rfl rfl rfl (by decide) en_known_step rfl rfl (hst) (rfl) (passO (.cons rfl trivial rfl .nil)) (by rintro r O' ⟨_, rfl⟩; exact frB rfl) (by rintro h; cases h) ?_
  rintro r O' ⟨rfl, rfl⟩
  refine awps_stp0 rfl rfl (by decide) (stp_move (.inr rfl) rfl) ?_; refine awps_nil ?_; refine thenQ_nil ?_; refine awp_seq ?_; refine awp_seq ?_; refine awp_region ?_; refine awps_stp0 rfl rfl (by decide) (stp_move (.inl rfl) rfl) ?_
  first | refine awps_stp0 rfl rfl (by decide) (stp_len_dat rfl sl_S_api_Term rfl) ?_ | refine awps_stp0 rfl rfl (by decide) (stp_len_rowd rfl sl_S_api_Term rfl rfl) ?_ | refine awps_stp0 rfl rfl (by decide) (stp_len_nil rfl sl_S_api_Term rfl) ?_ | refine awps_stp0 rfl rfl (by decide) (stp_len_vw rfl sl_S_api_Term rfl) ?_
  refine awps_stp0 rfl rfl (by decide) (stp_binI rfl rfl rfl rfl) ?_; refine awps_nil ?_; refine thenQ_nil ?_; refine awp_cond rfl (fun c1 => ?_) (fun c1 => ?_)
  · try simp only [↓cqA, cqB] at c1
    refine awp_sub (sub_freeze (l := 4) rfl (by decide) (noL hL _) rfl rfl) ?_; refine awp_seq ?_; refine awp_region ?_; refine awps_stp0 rfl rfl (by decide) (stp_move (.inl rfl) rfl) ?_; refine awps_stp0 rfl rfl (by decide) (stp_move (.inr rfl) rfl) ?_; refine awps_stp0 rfl rfl (by decide) (stp_move (.inr rfl) rfl) ?_; refine awps_nil ?_; refine thenQ_nil ?_; refine awp_ret ?_
    refine thenQ_ret (inQ_ret (thenQ_ret (inQ_ret (?_))))
    -- leaf 0F1T
    refine ret0 (noL hL) (.inl rfl) (resAs_tmp rfl (resAs_tmp rfl (resAs_nil))) ?_ ?_
    · rfl
    exact ⟨.inr (by rw [hkr, hru, if_pos (by omega)]; rfl), rfl⟩
  try simp only [↓cqA, cqB] at c1
  refine awp_skip ?_; refine thenQ_nil ?_; refine awp_seq ?_; refine awp_region ?_; refine awps_stp0 rfl rfl (by decide) (stp_move (.inl rfl) rfl) ?_; refine awps_stp0 rfl rfl (by decide) (stp_move (.inl rfl) rfl) ?_; refine awps_append_src 17 ta_S_api_Term rfl rfl (by decide) rfl rfl rfl (src_dat (tmDs_len4 _) rfl) rfl (tmDs_len4 _) (noL hL _) rfl (by omega) rfl ?_
  refine awps_stp0 rfl rfl (by decide) (stp_move (.inr rfl) rfl) ?_; refine awps_nil ?_; refine thenQ_nil ?_; refine awp_seq ?_; refine awp_seq ?_
  rw [hap]
  refine awp_region ?_; refine awps_stp0 rfl rfl (by decide) (stp_move (.inl rfl) rfl) ?_
  first | refine awps_stp0 rfl rfl (by decide) (stp_len_dat rfl sl_S_api_Term rfl) ?_ | refine awps_stp0 rfl rfl (by decide) (stp_len_rowd rfl sl_S_api_Term rfl rfl) ?_ | refine awps_stp0 rfl rfl (by decide) (stp_len_nil rfl sl_S_api_Term rfl) ?_ | refine awps_stp0 rfl rfl (by decide) (stp_len_vw rfl sl_S_api_Term rfl) ?_
  refine awps_stp0 rfl rfl (by decide) (stp_binI rfl rfl rfl rfl) ?_; refine awps_nil ?_; refine thenQ_nil ?_; refine awp_cond rfl (fun c2 => ?_) (fun c2 => ?_)
  · try simp only [↓cqA, cqB] at c2
    refine awp_seq ?_; refine awp_region ?_; refine awps_stp0 rfl rfl (by decide) (stp_move (.inr rfl) rfl) ?_; refine awps_stp0 rfl rfl (by decide) (stp_move (.inr rfl) rfl) ?_; refine awps_nil ?_; refine thenQ_nil ?_; refine awp_ret ?_; refine thenQ_ret (inQ_ret (thenQ_ret (inQ_ret (?_))))
    -- leaf 0F1F2T
    refine ret0 (noL hL) (.inl rfl) (resAs_tmp rfl (resAs_tmp rfl (resAs_nil))) ?_ ?_
    · rfl
    exact ⟨.inl ⟨by rw [hkr, hru, if_neg (by omega), if_pos (by omega)], by rw [hkr, hru, if_neg (by omega), if_pos (by omega)]; rfl⟩, rfl⟩
  try simp only [↓cqA, cqB] at c2
  refine awp_skip ?_; refine thenQ_nil ?_; refine awp_region ?_; refine awps_stp0 rfl rfl (by decide) (stp_move (.inl rfl) rfl) ?_
  refine awps_sort Tryz.srtT (k := 4) (by decide) tf_api_Term (sf := 134) rfl en_term_Compare en_slices_SortFunc_api_Term_api_Term (toD := tmD) (es := a ++ nextL cs a) (cf := cmpT 5) rfl rfl (by decide) rfl rfl rfl (by rw [← tmDs_map]; rfl) (by rw [List.length_append]; omega) (fun x hx y hy => ?_) (fun x _ => by rw [(TP.tm 5).self]; decide) (fun x _ y _ z _ h1 h2 => (TP.tm 5).lt1 h1 (by omega)) (fun x _ y _ z _ h1 h2 h3 => ?_) (fun es' hp2 hs2 => ?_)
  · exact Compare_ok 5 x y (may_dle (hga x hx).may) (hga x hx).wf (hga y hy).wf
  · have h4 := (TP.tm 5).anti x y
    have h5 := (TP.tm 5).anti y z
    have h6 := (TP.tm 5).anti x z
    have h7 := (TP.tm 5).tr z y x (by omega) (by omega)
    omega
  obtain rfl : es' = srtU (a ++ nextL cs a) := perm_ss (fun x hx => may_dle (hga x hx).may) hgn hp2 hs2
  refine awps_nil ?_; refine inQ_nil ?_; refine thenQ_nil ?_; refine ⟨?_, srtU (a ++ nextL cs a), ?_, ?_⟩
  · skip
    omega
  · skip
    refine ⟨hkn.grow hw hc (by omega), ?_, ?_⟩
    · rw [hgp.length_eq, List.length_append]; omega
    · rw [hkr, hru, if_neg (by omega), if_neg (by omega)]
  exact Sub.trans (sub_rename 17 4 (noL hL _) (noL hL _)) (sub_re (SubT.cons (lk_eq rfl (by first | rfl | simp)) (SubT.cons (lk_eq rfl (by first | rfl | simp)) (SubT.nil))) (SubO.cons (ok_eq rfl (by rw [tmDs_map]; rfl)) (SubO.nil)) rfl rfl (noL' (noL hL) _))
end Go.Proofs.YtdecgkhdbfgldaaGreat

set_option linter.unusedVariables false
set_option linter.unusedSimpArgs false
namespace Go.Proofs.YtdecgkhdbfgldaaGreat
open Go
def fitL2 (f : List Bd → Tm → Tm → List Bd × Int) : List (Tm × Tm) → List Bd → List Bd × Int
  | [], l => (l, 0)
  | p :: ps, l => if (f l p.1 p.2).2 ≠ 0 then ([], (f l p.1 p.2).2) else fitL2 f ps (f l p.1 p.2).1
def fitR2 : Nat → List Bd → Tm → Tm → List Bd × Int
  | 0, _, _, _ => ([], 3)
  | d + 1, l, a, b => if a.kind = 1 then (if hasB l a.name = true then (if cmpT 5 (lookT l a.name) b = 0 then (l, 0) else ([], 3)) else (standL l a.name b, standE l a.name b)) else if argsB a b = true then fitL2 (fitR2 d) (a.args.zip b.args) l else ([], 3)
theorem fitL_eq2 {d : Nat} (h : ∀ l a b, fitR d l a b = fitR2 d l a b) : ∀ (ps : List (Tm × Tm)) (l : List Bd), fitL d l ps = fitL2 (fitR2 d) ps l
  | [], l => by rw [fitL, fitL2]
  | p :: ps, l => by rw [fitL, fitL2, h, fitL_eq2 h ps]
theorem fitR_eq2 : ∀ (d : Nat) (l : List Bd) (a b : Tm), fitR d l a b = fitR2 d l a b
  | 0, l, a, b => by rw [fitR, fitR2]
  | d + 1, l, a, b => by rw [fitR, fitR2, fitL_eq2 (fitR_eq2 d)]
def seekL2 (gs : List Gd) (head : Tm) (k : List Tm) : List Tm → List Bd → List Tm
  | [], l => if gs.all (holdsC l) = true then [putT l head] else []
  | a :: bs, l => k.flatMap fun t => if (fitR2 5 l a t).2 = 0 then seekL2 gs head k bs (fitR2 5 l a t).1 else []
theorem seekL_eq2 (gs : List Gd) (head : Tm) (k : List Tm) : ∀ (bs : List Tm) (l : List Bd), seekL gs head k bs l = seekL2 gs head k bs l
  | [], l => rfl
  | a :: bs, l => by
    rw [seekL, seekL2]
    congr 1
    funext t
    rw [fitR_eq2, seekL_eq2 gs head k bs]
def derL2 (cs : List Cl) (k : List Tm) : List Tm := cs.flatMap fun c => seekL2 c.guards c.head k c.body []
theorem derL_eq2 (cs : List Cl) (k : List Tm) : derL cs k = derL2 cs k := by
  rw [derL, derL2]; congr 1; funext c; rw [seekL_eq2]
def newL2 (cs : List Cl) (k : List Tm) : List Tm := (derL2 cs k).filter fun t => !memK k t
def nextL2 (cs : List Cl) (k : List Tm) : List Tm := srtU (newL2 cs k)
theorem nextL_eq2 (cs : List Cl) (k : List Tm) : nextL cs k = nextL2 cs k := by rw [nextL, newL, derL_eq2]; rfl
def allR2 (cs : List Cl) : Nat → List Tm → List Tm × Int
  | 0, _ => ([], 2)
  | n + 1, k => (fun m => if m.length = 0 then (k, 0) else if 60 < k.length + m.length then ([], 2) else allR2 cs n (srtU (k ++ m))) (nextL2 cs k)
theorem allR_eq2 (cs : List Cl) : ∀ (n : Nat) (k : List Tm), allR cs n k = allR2 cs n k
  | 0, k => rfl
  | n + 1, k => by rw [allR, allR2, nextL_eq2, allR_eq2 cs n]
theorem flatMap_le {α β : Type} (f : α → List β) (n : Nat) : ∀ l : List α, (∀ x ∈ l, (f x).length ≤ n) → (l.flatMap f).length ≤ l.length * n
  | [], _ => by simp
  | x :: l, h => by
    have h1 := h x (by simp)
    have h2 := flatMap_le f n l (fun y hy => h y (by simp [hy]))
    rw [List.flatMap_cons, List.length_append, List.length_cons, Nat.add_mul]
    omega
theorem seekL_len (gs : List Gd) (head : Tm) (k : List Tm) : ∀ (bs : List Tm) (l : List Bd), (seekL gs head k bs l).length ≤ k.length ^ bs.length
  | [], l => by
    rw [seekL]; split <;> simp
  | a :: bs, l => by
    rw [seekL, List.length_cons, Nat.pow_succ, Nat.mul_comm]
    refine flatMap_le _ _ k fun t ht => ?_
    split
    · exact seekL_len gs head k bs _
    · simp
theorem derL_small {cs : List Cl} (hb : ∀ c ∈ cs, c.body.length ≤ 2) (hn : cs.length ≤ 200) {k : List Tm} (hk : Kn k) : (derL cs k).length ≤ 10000000 := by
  have : (derL cs k).length ≤ cs.length * 3600 := by
    refine flatMap_le _ _ cs fun q hq => Nat.le_trans (seekL_len q.guards q.head k q.body []) ?_
    have h1 := hb q hq
    have h2 := hk.len
    rcases (show q.body.length = 0 ∨ q.body.length = 1 ∨ q.body.length = 2 by omega) with e | e | e
    · rw [e]; simp
    · rw [e, Nat.pow_one]; omega
    · rw [e, Nat.pow_two]; exact Nat.le_trans (Nat.mul_le_mul h2 h2) (by decide)
  omega
theorem allC_of {cs : List Cl} (h : cs.all okC = true) {r : List Tm × Int} (hr : allR2 cs 61 [] = r) : allC cs = r := by rw [allC, if_pos h, allR_eq2, hr]
end Go.Proofs.YtdecgkhdbfgldaaGreat

set_option linter.unusedVariables false
set_option linter.unusedSimpArgs false
set_option maxRecDepth 8000
namespace Go.Proofs.YtdecgkhdbfgldaaGreat
open Go
theorem num11_ok (x : Int) : PF 69 [iv x] (iv x) := by
  refine AC_intro Tryz.func69 rfl Tryz.ntmps69 (Nat.le_of_ble_eq_true rfl) fun c hL hQ hDD => ?_; refine awp_seq ?_; refine awp_region ?_; refine awps_stp0 rfl rfl (by decide) (stp_move (.inr rfl) rfl) ?_; refine awps_nil ?_; refine thenQ_nil ?_; refine awp_seq ?_; refine awp_region ?_; refine awps_stp0 rfl rfl (by decide) (stp_move (.inl rfl) rfl) ?_
  refine awps_stp0 rfl rfl (by decide) (stp_move (.inr rfl) rfl) ?_; refine awps_nil ?_; refine thenQ_nil ?_; refine awp_ret ?_
  -- leaf 
  refine ret0 (noL hL) (.inl rfl) (resAs_tmp rfl (resAs_nil)) ?_ ?_
  · rfl
  exact ⟨rfl, rfl⟩
def fTm (t : Tm) : Tm := nmT ⟨#[102]⟩ [t]
def gTm (t : Tm) : Tm := nmT ⟨#[103]⟩ [t]
def fct (i : Nat) : Cl := ⟨fTm (numT (i : Int)), [], []⟩
def twc : Cl := ⟨gTm (varT sX), [fTm (varT sX)], []⟩
theorem fTm_w {t : Tm} (h : t.wf) : (fTm t).wf := nmT_w _ _ (by decide) (by simp) (all1 h)
theorem gTm_w {t : Tm} (h : t.wf) : (gTm t).wf := nmT_w _ _ (by decide) (by simp) (all1 h)
theorem wfs1 {a : Tm} (h : a.wf) : Tm.wfs [a] := wfs_of (all1 h)
theorem cl_w {q : Tm} {b : List Tm} (h : q.wf) (hb : Tm.wfs b) (hl : b.length ≤ 100) : (Cl.mk q b []).wf := ⟨h, ⟨by simp only [lenOk]; omega, hb⟩, ⟨by simp only [lenOk]; simp, fun g hg => (by cases hg)⟩⟩
theorem fct_w (i : Nat) (h : i ≤ 1000000) : (fct i).wf := cl_w (fTm_w (numT_w _ (by omega))) trivial (by simp)
theorem twc_w : twc.wf := cl_w (gTm_w (varT_w _ (by decide))) (wfs1 (fTm_w (varT_w _ (by decide)))) (by simp [fTm])
def wkC : List Cl := [fct 1, twc]
theorem wkC_all : allC wkC = ([fTm (numT 1), gTm (numT 1)], 0) := allC_of (by decide +kernel) (by kernel_rfl)
theorem head_le (q : Tm) : Le (.agg ((lift false (tmD q)) ++ [.imm (.slice none 0 0), .imm (.slice none 0 0)])) (.agg (lift false (clD ⟨q, [], []⟩))) := .agg (.cons .refl (.cons .refl (.cons .refl (.cons .refl (.cons .nil (.cons .nil .nil))))))
theorem body_le (q : Tm) (b : List Tm) : Le (.agg ((lift false (tmD q)) ++ [.dat false 4 (tmDs b), .imm (.slice none 0 0)])) (.agg (lift false (clD ⟨q, b, []⟩))) := .agg (.cons .refl (.cons .refl (.cons .refl (.cons .refl (.cons .refl (.cons .nil .nil))))))
theorem wakes11_ok : PF 70 [] (bv true) := by
  have key := All_ok wkC (by decide) (fun q hq => by
    simp only [wkC, List.mem_cons, List.not_mem_nil, or_false] at hq
    rcases hq with rfl | rfl
    · exact fct_w 1 (by decide)
    · exact twc_w) (fun k hk => derL_small (fun q hq => by
    simp only [wkC, List.mem_cons, List.not_mem_nil, or_false] at hq
    rcases hq with rfl | rfl <;> simp [fct, twc]) (by decide) hk)
  rw [wkC_all] at key
  refine AC_intro Tryz.func70 rfl Tryz.ntmps70 (Nat.le_of_ble_eq_true rfl) fun c hL hQ hDD => ?_; refine awp_seq ?_; refine awp_region ?_; refine awps_stp0 rfl rfl (by decide) (stp_move (.inr rfl) rfl) ?_; refine awps_nil ?_; refine thenQ_nil ?_; refine awp_seq ?_; refine awp_region ?_; refine awps_stp0 rfl rfl (by decide) (stp_build rfl zv_api_Term rfl pl_api_Term rfl rfl) ?_
  refine awps_sub (sub_le 6 rfl (var_le false sX)) ?_; refine awps_stp1 rfl rfl (by decide) (stp_alloc 1 rfl zv_api_Term rfl) rfl ?_; refine awps_store rfl rfl rfl tf_api_Term rfl rfl rfl rfl rfl rfl rfl rfl rfl ?_; refine awps_nil ?_; refine thenQ_nil ?_; refine awp_seq ?_; refine awp_region ?_; refine awps_stp0 rfl rfl (by decide) (stp_build rfl zv_api_Term rfl pl_api_Term rfl rfl) ?_
  refine awps_sub (sub_le 7 rfl (num_le false 1)) ?_; refine awps_stp1 rfl rfl (by decide) (stp_alloc 2 rfl zv_api_Term rfl) rfl ?_; refine awps_store rfl rfl rfl tf_api_Term rfl rfl rfl rfl rfl rfl rfl rfl rfl ?_; refine awps_nil ?_; refine thenQ_nil ?_; refine awp_seq ?_; refine awp_region ?_
  first | refine awps_stp0 rfl rfl (by decide) (stp_load_all rfl tf_api_Term rfl rfl rfl rfl) ?_ | refine awps_stp0 rfl rfl (by decide) (stp_load rfl tf_api_Term rfl rfl rfl rfl rfl) ?_ | refine awps_stp0 rfl rfl (by decide) (stp_load_elpa rfl tf_api_Term rfl rfl) ?_ | refine awps_stp0 rfl rfl (by decide) (stp_load_elpn rfl tf_api_Term rfl rfl rfl) ?_
  refine awps_stp0 rfl rfl (by decide) (stp_buildSliceD false rfl sl_S_api_Term zv_api_Term rfl rfl (by decide) (by decide) (by decide) rfl rfl rfl rfl) ?_; refine awps_stp0 rfl rfl (by decide) (stp_build rfl zv_api_Term rfl pl_api_Term rfl rfl) ?_; refine awps_stp1 rfl rfl (by decide) (stp_alloc 3 rfl zv_api_Term rfl) rfl ?_
  refine awps_store rfl rfl rfl tf_api_Term rfl rfl rfl rfl rfl rfl rfl rfl rfl ?_; refine awps_nil ?_; refine thenQ_nil ?_; refine awp_seq ?_; refine awp_region ?_
  first | refine awps_stp0 rfl rfl (by decide) (stp_load_all rfl tf_api_Term rfl rfl rfl rfl) ?_ | refine awps_stp0 rfl rfl (by decide) (stp_load rfl tf_api_Term rfl rfl rfl rfl rfl) ?_ | refine awps_stp0 rfl rfl (by decide) (stp_load_elpa rfl tf_api_Term rfl rfl) ?_ | refine awps_stp0 rfl rfl (by decide) (stp_load_elpn rfl tf_api_Term rfl rfl rfl) ?_
  refine awps_stp0 rfl rfl (by decide) (stp_build rfl zv_api_Clause rfl pl_api_Clause rfl rfl) ?_; refine awps_sub (sub_le 13 rfl (head_le (fTm (numT 1)))) ?_
  first | refine awps_stp0 rfl rfl (by decide) (stp_load_all rfl tf_api_Term rfl rfl rfl rfl) ?_ | refine awps_stp0 rfl rfl (by decide) (stp_load rfl tf_api_Term rfl rfl rfl rfl rfl) ?_ | refine awps_stp0 rfl rfl (by decide) (stp_load_elpa rfl tf_api_Term rfl rfl) ?_ | refine awps_stp0 rfl rfl (by decide) (stp_load_elpn rfl tf_api_Term rfl rfl rfl) ?_
  refine awps_stp0 rfl rfl (by decide) (stp_buildSliceD false rfl sl_S_api_Term zv_api_Term rfl rfl (by decide) (by decide) (by decide) rfl rfl rfl rfl) ?_; refine awps_stp0 rfl rfl (by decide) (stp_build rfl zv_api_Term rfl pl_api_Term rfl rfl) ?_
  first | refine awps_stp0 rfl rfl (by decide) (stp_load_all rfl tf_api_Term rfl rfl rfl rfl) ?_ | refine awps_stp0 rfl rfl (by decide) (stp_load rfl tf_api_Term rfl rfl rfl rfl rfl) ?_ | refine awps_stp0 rfl rfl (by decide) (stp_load_elpa rfl tf_api_Term rfl rfl) ?_ | refine awps_stp0 rfl rfl (by decide) (stp_load_elpn rfl tf_api_Term rfl rfl rfl) ?_
  refine awps_stp0 rfl rfl (by decide) (stp_buildSliceD false rfl sl_S_api_Term zv_api_Term rfl rfl (by decide) (by decide) (by decide) rfl rfl rfl rfl) ?_; refine awps_stp0 rfl rfl (by decide) (stp_build rfl zv_api_Term rfl pl_api_Term rfl rfl) ?_
  refine awps_stp0 rfl rfl (by decide) (stp_buildSliceD false rfl sl_S_api_Term zv_api_Term rfl rfl (by decide) (by decide) (by decide) rfl rfl rfl rfl) ?_; refine awps_stp0 rfl rfl (by decide) (stp_build rfl zv_api_Clause rfl pl_api_Clause rfl rfl) ?_; refine awps_sub (sub_le 21 rfl (body_le (gTm (varT sX)) [fTm (varT sX)])) ?_
  refine awps_stp0 rfl rfl (by decide) (stp_buildSliceD false rfl sl_S_api_Clause zv_api_Clause rfl rfl (by decide) (by decide) (by decide) rfl rfl rfl rfl) ?_; refine awps_call (avs := [_]) false rfl rfl rfl (by decide) en_known_All rfl rfl (key) rfl rfl ?_; refine awps_stp0 rfl rfl (by decide) (stp_move (.inl rfl) rfl) ?_; refine awps_stp0 rfl rfl (by decide) (stp_extract rfl rfl rfl) ?_
  refine awps_stp0 rfl rfl (by decide) (stp_extract rfl rfl rfl) ?_; refine awps_stp0 rfl rfl (by decide) (stp_move (.inr rfl) rfl) ?_; refine awps_stp0 rfl rfl (by decide) (stp_move (.inr rfl) rfl) ?_; refine awps_nil ?_; refine thenQ_nil ?_; refine awp_seq ?_; refine awp_region ?_; refine awps_stp0 rfl rfl (by decide) (stp_move (.inl rfl) rfl) ?_
  refine awps_call (avs := [_]) true rfl rfl rfl (by decide) en_almagestlaw11_num rfl rfl (num11_ok _) rfl rfl ?_; refine awps_stp0 rfl rfl (by decide) (stp_binI rfl rfl rfl rfl) ?_; refine awps_stp0 rfl rfl (by decide) (stp_move (.inl rfl) rfl) ?_; refine awps_split 29 rfl (fun g29 => ?_) (fun g29 => ?_)
  · try simp only [↓cqA, cqB] at g29
    refine awps_g0 rfl rfl rfl (by decide) rfl (by decide) (stp_move (.inl rfl) rfl) ?_
    first | refine awps_g0 rfl rfl rfl (by decide) rfl (by decide) (stp_len_dat rfl sl_S_api_Term rfl) ?_ | refine awps_g0 rfl rfl rfl (by decide) rfl (by decide) (stp_len_rowd rfl sl_S_api_Term rfl rfl) ?_ | refine awps_g0 rfl rfl rfl (by decide) rfl (by decide) (stp_len_nil rfl sl_S_api_Term rfl) ?_ | refine awps_g0 rfl rfl rfl (by decide) rfl (by decide) (stp_len_vw rfl sl_S_api_Term rfl) ?_
    refine awps_g0 rfl rfl rfl (by decide) rfl (by decide) (stp_binI rfl rfl rfl rfl) ?_; refine awps_stp0 rfl rfl (by decide) (stp_pick rfl rfl rfl) ?_; refine awps_stp0 rfl rfl (by decide) (stp_move (.inr rfl) rfl) ?_; refine awps_nil ?_; refine thenQ_nil ?_; refine awp_ret ?_
    -- leaf g29T
    refine ret0 (noL hL) (.inl rfl) (resAs_tmp rfl (resAs_nil)) ?_ ?_
    · rfl
    first
    | exact ⟨rfl, rfl⟩
    | exact absurd trivial (by assumption)
    | exact absurd rfl (by assumption)
    | trace_state
  try simp only [↓cqA, cqB] at g29
  refine awps_gs rfl rfl rfl rfl (by decide) rfl (by decide) ?_; refine awps_gs rfl rfl rfl rfl (by decide) rfl (by decide) ?_; refine awps_gs rfl rfl rfl rfl (by decide) rfl (by decide) ?_; refine awps_stp0 rfl rfl (by decide) (stp_pick rfl rfl rfl) ?_; refine awps_stp0 rfl rfl (by decide) (stp_move (.inr rfl) rfl) ?_; refine awps_nil ?_; refine thenQ_nil ?_; refine awp_ret ?_
  -- leaf g29F
  refine ret0 (noL hL) (.inl rfl) (resAs_tmp rfl (resAs_nil)) ?_ ?_
  · rfl
  first
  | exact ⟨rfl, rfl⟩
  | exact absurd trivial (by assumption)
  | exact absurd rfl (by assumption)
  | trace_state
end Go.Proofs.YtdecgkhdbfgldaaGreat

set_option linter.unusedVariables false
set_option linter.unusedSimpArgs false
namespace Go.Proofs.YtdecgkhdbfgldaaGreat
open Go
theorem allR_kn {cs : List Cl} (hw : ∀ q ∈ cs, q.wf) (hc : ∀ q ∈ cs, clauseE q = 0) : ∀ (n : Nat) (k : List Tm), Kn k → Kn (allR cs n k).1
  | 0, k, h => Kn.nil
  | n + 1, k, h => by
    rw [allR]
    split
    · exact h
    · split
      · exact Kn.nil
      · exact allR_kn hw hc n _ (h.grow hw hc (by omega))
theorem okC_all {cs : List Cl} (h : cs.all okC = true) : ∀ q ∈ cs, clauseE q = 0 := fun q hq => by
  have := List.all_eq_true.1 h q hq; simpa [okC] using this
theorem allC_kn {cs : List Cl} (hw : ∀ q ∈ cs, q.wf) : Kn (allC cs).1 := by
  rw [allC]
  split
  · rename_i h; exact allR_kn hw (okC_all h) 61 [] Kn.nil
  · exact Kn.nil
def wy (a b : Tm) : Tm := nmT ⟨#[119, 97, 121]⟩ [a, b]
end Go.Proofs.YtdecgkhdbfgldaaGreat

set_option linter.unusedVariables false
set_option linter.unusedSimpArgs false
namespace Go.Proofs.YtdecgkhdbfgldaaGreat
open Go
theorem Kn.atoms {k : List Tm} (h : Kn k) : atomsB k = true := by
  simp only [atomsB, Bool.and_eq_true, decide_eq_true_eq, List.all_eq_true]
  refine ⟨h.len, fun i hi => ?_⟩
  have hi := List.mem_range.1 hi
  obtain ⟨t, ht⟩ := get_of_lt (l := k) (k := i) hi
  have ha := h.atk t (List.mem_of_getElem? ht)
  simp only [atomK, ht, Bool.and_eq_true, Bool.or_eq_true, decide_eq_true_eq]
  refine ⟨⟨⟨ha.may, leafs_flat ha.kind ha.leaf⟩, (groundB_iff (may_dle ha.may)).2 ha.gr⟩, ?_⟩
  by_cases h0 : i = 0
  · exact .inl h0
  · right
    obtain ⟨u, hu⟩ := get_of_lt (l := k) (k := i - 1) (by omega)
    rw [hu]
    simp only [decide_eq_true_eq]
    obtain ⟨h1, h2⟩ := List.getElem?_eq_some_iff.1 ht
    obtain ⟨h3, h4⟩ := List.getElem?_eq_some_iff.1 hu
    have := List.pairwise_iff_getElem.1 h.ss (i - 1) i h3 h1 (by omega)
    rw [h2, h4] at this
    exact this
theorem seekL_mono (gs : List Gd) (head : Tm) {k k' : List Tm} (h : ∀ t ∈ k, t ∈ k') : ∀ (bs : List Tm) (l : List Bd) (x : Tm), x ∈ seekL gs head k bs l → x ∈ seekL gs head k' bs l
  | [], l, x, hx => hx
  | a :: bs, l, x, hx => by
    rw [seekL] at hx ⊢
    obtain ⟨t, ht, hx⟩ := List.mem_flatMap.1 hx
    refine List.mem_flatMap.2 ⟨t, h t ht, ?_⟩
    split at hx
    · rename_i h0
      rw [if_pos h0]
      exact seekL_mono gs head h bs _ x hx
    · cases hx
theorem derL_mono {cs cs' : List Cl} (hc : ∀ q ∈ cs', q ∈ cs) {k k' : List Tm} (h : ∀ t ∈ k, t ∈ k') {x : Tm} (hx : x ∈ derL cs' k) : x ∈ derL cs k' := by
  obtain ⟨q, hq, hx⟩ := List.mem_flatMap.1 hx
  exact List.mem_flatMap.2 ⟨q, hc q hq, seekL_mono _ _ h _ _ x hx⟩
section
variable {cs : List Cl} (hw : ∀ q ∈ cs, q.wf) (hc : ∀ q ∈ cs, clauseE q = 0)
include hw hc
theorem allR_end : ∀ (n : Nat) (l k : List Tm), Kn l → allR cs n l = (k, 0) → nextL cs k = [] ∧ l.length ≤ k.length ∧ ∀ t ∈ l, t ∈ k
  | 0, l, k, _, h => by rw [allR] at h; cases h
  | n + 1, l, k, hl, h => by
    rw [allR] at h
    split at h
    · rename_i h0
      cases h
      exact ⟨List.eq_nil_of_length_eq_zero h0, Nat.le_refl _, fun t ht => ht⟩
    · split at h
      · cases h
      · rename_i h0 h1
        obtain ⟨g1, g2, g3⟩ := grow_perm hw hc hl
        obtain ⟨i1, i2, i3⟩ := allR_end n _ k (hl.grow hw hc (by omega)) h
        refine ⟨i1, ?_, fun t ht => i3 t (g1.mem_iff.2 (List.mem_append_left _ ht))⟩
        rw [g1.length_eq, List.length_append] at i2
        omega
theorem next_in {k : List Tm} (hk : Kn k) (hcl : nextL cs k = []) {cs' : List Cl} (hs : ∀ q ∈ cs', q ∈ cs) {l : List Tm} (hl : Kn l) (hlk : ∀ t ∈ l, t ∈ k) : ∀ x ∈ nextL cs' l, x ∈ k := fun x hx => by
  have h1 := ((nextL_mem (fun q hq => hw q (hs q hq)) (fun q hq => hc q (hs q hq)) hl.atk).1 hx).1
  have h2 := derL_mono hs hlk h1
  by_cases hxk : x ∈ k
  · exact hxk
  · have := (nextL_mem hw hc hk.atk).2 ⟨h2, hxk⟩
    rw [hcl] at this; cases this
theorem allR_in {k : List Tm} (hk : Kn k) (hcl : nextL cs k = []) {cs' : List Cl} (hs : ∀ q ∈ cs', q ∈ cs) : ∀ (n : Nat) (l : List Tm), Kn l → (∀ t ∈ l, t ∈ k) → k.length < n + l.length → ∃ y, allR cs' n l = (y, 0) ∧ ∀ t ∈ y, t ∈ k
  | 0, l, hl, hlk, hn => by
    have := hl.ss.nodup.length_le_of_subset hlk
    omega
  | n + 1, l, hl, hlk, hn => by
    have hw' := fun q hq => hw q (hs q hq)
    have hc' := fun q hq => hc q (hs q hq)
    have hin := next_in hw hc hk hcl hs hl hlk
    obtain ⟨g1, g2, g3⟩ := grow_perm hw' hc' hl
    have hsub : ∀ t ∈ l ++ nextL cs' l, t ∈ k := fun t ht => by
      rcases List.mem_append.1 ht with h | h
      · exact hlk t h
      · exact hin t h
    have hlen := g3.length_le_of_subset hsub
    rw [List.length_append] at hlen
    have hk60 := hk.len
    rw [allR]
    split
    · exact ⟨l, rfl, hlk⟩
    · rw [if_neg (by omega)]
      refine allR_in hk hcl hs n _ (hl.grow hw' hc' (by omega)) (fun t ht => hsub t (g1.mem_iff.1 ht)) ?_
      rw [g1.length_eq, List.length_append]
      omega
end
def mrg : List Tm → List Tm → List Tm
  | [], b => b
  | x :: a, b => ins1 x (mrg a) b
where ins1 (x : Tm) (f : List Tm → List Tm) : List Tm → List Tm
  | [] => x :: f []
  | y :: b => if ordT 5 x y < 0 then x :: f (y :: b) else y :: ins1 x f b
theorem mrg_nil (a : List Tm) : mrg a [] = a := by
  induction a with
  | nil => rfl
  | cons x a ih => rw [mrg, mrg.ins1, ih]
theorem mrg_cons (x y : Tm) (a b : List Tm) : mrg (x :: a) (y :: b) = if ordT 5 x y < 0 then x :: mrg a (y :: b) else y :: mrg (x :: a) b := by
  rw [mrg, mrg.ins1]; split <;> rfl
theorem mrg_mem : ∀ (a b : List Tm) (x : Tm), x ∈ mrg a b ↔ x ∈ a ∨ x ∈ b
  | [], b, x => by rw [mrg]; simp
  | u :: a, [], x => by rw [mrg_nil]; simp
  | u :: a, v :: b, x => by
    have h1 := mrg_mem a (v :: b) x
    have h2 := mrg_mem (u :: a) b x
    rw [mrg_cons]
    split
    · rw [List.mem_cons, h1, List.mem_cons, List.mem_cons]
      constructor
      · rintro (h | h | h)
        · exact .inl (.inl h)
        · exact .inl (.inr h)
        · exact .inr h
      · rintro ((h | h) | h)
        · exact .inl h
        · exact .inr (.inl h)
        · exact .inr (.inr h)
    · rw [List.mem_cons, h2, List.mem_cons, List.mem_cons]
      constructor
      · rintro (h | h | h)
        · exact .inr (.inl h)
        · exact .inl h
        · exact .inr (.inr h)
      · rintro (h | h | h)
        · exact .inr (.inl h)
        · exact .inl h
        · exact .inr (.inr h)
termination_by a b => a.length + b.length
theorem mrg_ss : ∀ (a b : List Tm), (∀ t ∈ a ++ b, mayT t = true) → SS a → SS b → (∀ x ∈ a, x ∉ b) → SS (mrg a b)
  | [], b, _, _, h, _ => by rw [mrg]; exact h
  | u :: a, [], _, h, _, _ => by rw [mrg_nil]; exact h
  | u :: a, v :: b, hm, ha, hb, hd => by
    have h1 := mrg_ss a (v :: b) (fun t ht => hm t (by
      rcases List.mem_append.1 ht with h | h
      · exact List.mem_append_left _ (List.mem_cons_of_mem _ h)
      · exact List.mem_append_right _ h)) (List.pairwise_cons.1 ha).2 hb (fun x hx => hd x (List.mem_cons_of_mem _ hx))
    have h2 := mrg_ss (u :: a) b (fun t ht => hm t (by
      rcases List.mem_append.1 ht with h | h
      · exact List.mem_append_left _ h
      · exact List.mem_append_right _ (List.mem_cons_of_mem _ h))) ha (List.pairwise_cons.1 hb).2 (fun x hx hx2 => hd x hx (List.mem_cons_of_mem _ hx2))
    have hu := hm u (by simp)
    have hv := hm v (by simp)
    have hcmp : cmpT 5 u v = ordT 5 u v := cmp_ord 5 u v (may_dle hu) (may_shp hu) (may_shp hv)
    have hne : cmpT 5 u v ≠ 0 := fun e => by
      have := (cmpT_eq (may_dle hu)).1 e
      subst this
      exact hd u (by simp) (by simp)
    have hau := (List.pairwise_cons.1 ha).1
    have hbv := (List.pairwise_cons.1 hb).1
    rw [mrg_cons]
    split
    · rename_i h
      refine List.pairwise_cons.2 ⟨fun y hy => ?_, h1⟩
      rcases (mrg_mem _ _ _).1 hy with h3 | h3
      · exact hau y h3
      · rcases List.mem_cons.1 h3 with rfl | h3
        · omega
        · exact (TP.tm 5).lt1 (a := u) (b := v) (c := y) (by omega) (by have := hbv y h3; omega)
    · rename_i h
      have h4 : cmpT 5 v u < 0 := by have := (TP.tm 5).anti u v; omega
      refine List.pairwise_cons.2 ⟨fun y hy => ?_, h2⟩
      rcases (mrg_mem _ _ _).1 hy with h3 | h3
      · rcases List.mem_cons.1 h3 with rfl | h3
        · exact h4
        · exact (TP.tm 5).lt1 (a := v) (b := u) (c := y) h4 (by have := hau y h3; omega)
      · exact hbv y h3
termination_by a b => a.length + b.length
theorem mrg_next {cs : List Cl} (hw : ∀ q ∈ cs, q.wf) (hc : ∀ q ∈ cs, clauseE q = 0) {l : List Tm} (h : Kn l) : mrg l (nextL cs l) = srtU (l ++ nextL cs l) := by
  obtain ⟨g1, g2, g3⟩ := grow_perm hw hc h
  have hd : ∀ a ∈ newL cs l, dle 5 a := fun a ha => may_dle (derL_atk hw hc h.atk a (List.mem_filter.1 ha).1).may
  refine SS.uniq (mrg_ss _ _ (fun t ht => (g2 t ht).may) h.ss (srtU_ss hd) (fun x hx hx2 => ((nextL_mem hw hc h.atk).1 hx2).2 hx)) (srtU_ss fun t ht => may_dle (g2 t ht).may) fun x => ?_
  rw [mrg_mem, srtU_mem fun t ht => may_dle (g2 t ht).may, List.mem_append]
def pw : Nat → Int
  | 0 => 1
  | n + 1 => if pw n < 1048576 then pw n * 30 else pw n
theorem pw_range : ∀ n, 1 ≤ pw n ∧ pw n ≤ 31457280
  | 0 => by simp [pw]
  | n + 1 => by
    have := pw_range n
    rw [pw]; split <;> omega
theorem pw_stop (n : Nat) (h : ¬ pw n < 1048576) : ∀ m, pw (n + m) = pw n
  | 0 => rfl
  | m + 1 => by rw [← Nat.add_assoc, pw, pw_stop n h m, if_neg h]
def pws (l : List Cl) : Int := (l.map fun q => pw q.body.length).sum
theorem pws_snoc (l : List Cl) (q : Cl) : pws (l ++ [q]) = pws l + pw q.body.length := by simp [pws]
theorem pws_take {l : List Cl} {i : Nat} {q : Cl} (h : l[i]? = some q) : pws (l.take (i + 1)) = pws (l.take i) + pw q.body.length := by rw [take_snoc h, pws_snoc]
theorem pws_range : ∀ l : List Cl, (l.length : Int) ≤ pws l ∧ pws l ≤ 31457280 * (l.length : Int)
  | [] => by simp [pws]
  | q :: l => by
    have h1 := pws_range l
    have h2 := pw_range q.body.length
    simp only [pws, List.map_cons, List.sum_cons, List.length_cons] at h1 ⊢
    omega
theorem derL_light {cs : List Cl} (hb : ∀ q ∈ cs, q.body.length ≤ 3) (hl : pws cs < 300000) {k : List Tm} (hk : Kn k) : (derL cs k).length ≤ 10000000 := by
  have key : ∀ l : List Cl, (∀ q ∈ l, q.body.length ≤ 3) → ((derL l k).length : Int) ≤ 8 * pws l := by
    intro l
    induction l with
    | nil => intro _; simp [derL, pws]
    | cons q l ih =>
      intro hb
      have h1 := ih fun x hx => hb x (by simp [hx])
      have h2 := hb q (by simp)
      have h3 := seekL_len q.guards q.head k q.body []
      have hk := hk.len
      have e1 : (derL (q :: l) k).length = (seekL q.guards q.head k q.body []).length + (derL l k).length := by rw [derL, List.flatMap_cons, List.length_append]; rfl
      have e2 : pws (q :: l) = pw q.body.length + pws l := by simp [pws]
      have h4 : ((seekL q.guards q.head k q.body []).length : Int) ≤ 8 * pw q.body.length := by
        rcases (show q.body.length = 0 ∨ q.body.length = 1 ∨ q.body.length = 2 ∨ q.body.length = 3 by omega) with e | e | e | e
        · rw [e] at h3 ⊢; simp only [pw]; simp at h3; omega
        · rw [e] at h3 ⊢; have : pw 1 = 30 := by decide
          simp at h3; omega
        · rw [e, Nat.pow_two] at h3
          have h5 := Nat.mul_le_mul hk hk
          rw [e, show pw 2 = 900 by decide]; omega
        · rw [e, Nat.pow_succ, Nat.pow_two] at h3
          have h5 := Nat.mul_le_mul (Nat.mul_le_mul hk hk) hk
          rw [e, show pw 3 = 27000 by decide]; omega
      rw [e1, e2]; omega
  have := key cs hb
  omega
theorem okC_body {q : Cl} (h : clauseE q = 0) : q.body.length ≤ 3 := by
  rw [clauseE] at h
  split at h
  · cases h
  · rename_i hb
    have hcb : clauseB q = true := by simpa using hb
    simp only [clauseB, Bool.and_eq_true, decide_eq_true_eq] at hcb
    exact hcb.1.1.1.2
end Go.Proofs.YtdecgkhdbfgldaaGreat
