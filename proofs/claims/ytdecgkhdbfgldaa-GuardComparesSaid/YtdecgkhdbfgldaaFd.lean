/- Walks: a term's variables. -/
import Derived.Test.YtdecgkhdbfgldaaFc
import Derived.Test.YtdecgkhdbfgldaaSymO
import Derived.Test.YtdecgkhdbfgldaaIter

set_option linter.unusedVariables false
set_option linter.unusedSimpArgs false
set_option maxRecDepth 8000
namespace Go.Proofs.Ytdecgkhdbfgldaa
open Go Go.Maps Go.Sort Go.Shelf Go.RowKit

def noteS : Nat → Tm → List ByteArray → List ByteArray
  | 0, _, ss => ss
  | d + 1, t, ss => t.args.foldl (fun s u => noteS d u s) (if t.kind = 1 then t.name :: ss else ss)
def nodes : Nat → Tm → Nat
  | 0, _ => 0
  | d + 1, t => 1 + (t.args.map (nodes d)).sum
theorem noteS_len : ∀ (d : Nat) (t : Tm) (ss : List ByteArray), (noteS d t ss).length ≤ ss.length + nodes d t
  | 0, t, ss => by simp [noteS, nodes]
  | d + 1, t, ss => by
    have key : ∀ (l : List Tm) (ss : List ByteArray), (l.foldl (fun s u => noteS d u s) ss).length ≤ ss.length + (l.map (nodes d)).sum := fun l => by
      induction l with
      | nil => intro ss; simp
      | cons a l ih =>
        intro ss
        have h1 := ih (noteS d a ss)
        have h2 := noteS_len d a ss
        simp only [List.foldl_cons, List.map_cons, List.sum_cons]; omega
    simp only [noteS, nodes]
    have := key t.args (if t.kind = 1 then t.name :: ss else ss)
    have h3 : (if t.kind = 1 then t.name :: ss else ss).length ≤ ss.length + 1 := by split <;> simp
    omega
theorem noteL_len (d : Nat) : ∀ (l : List Tm) (ss : List ByteArray), (l.foldl (fun s u => noteS d u s) ss).length ≤ ss.length + (l.map (nodes d)).sum
  | [], ss => by simp
  | a :: l, ss => by
    have h1 := noteL_len d l (noteS d a ss)
    have h2 := noteS_len d a ss
    simp only [List.foldl_cons, List.map_cons, List.sum_cons]; omega
theorem sum_split {l : List Tm} {k : Nat} {u : Tm} (f : Tm → Nat) (h : l[k]? = some u) : ((l.take k).map f).sum + f u ≤ (l.map f).sum := by
  have h2 := List.getElem?_eq_some_iff.1 h
  have : l = l.take k ++ l.drop k := (List.take_append_drop k l).symm
  rw [List.drop_eq_getElem_cons h2.1, h2.2] at this
  have h3 := congrArg (fun l => (l.map f).sum) this
  simp only [List.map_append, List.sum_append, List.map_cons, List.sum_cons] at h3
  omega

theorem Note_ok : ∀ (d : Nat) (t : Tm) (ss : List ByteArray), dle d t → t.wf → ss.length + nodes d t ≤ 1000000 → AC Try.prog 109 [tmA false t, .map 0] [(0, .mp ss)] (fun r O => r = .tup [] ∧ O = [(0, .mp (noteS d t ss))])
  | 0, t, ss, h, _, _ => h.elim
  | d + 1, t, ss, h, ht, hn => by
    have hal := ht.2.2.2.1
    have hnm := ht.2.1
    have hlen := tmDs_length t.args
    have hmx : maxLen = 9223372036854775807 := rfl
    simp only [nodes] at hn
    refine AC_intro Try.func109 rfl Try.ntmps109 (Nat.le_of_ble_eq_true rfl) fun c hL => ?_
    refine awp_seq ?_
    refine awp_region ?_
    refine awps_stp1 rfl rfl (by decide) (stp_box 2 rfl rfl rfl) rfl ?_
    refine awps_nil ?_
    refine thenQ_nil ?_
    refine awp_seq ?_
    refine awp_seq ?_
    refine awp_region ?_
    first | refine awps_stp0 rfl rfl (by decide) (stp_fieldAddr rfl fo_api_Term_0 rfl) ?_ | refine awps_stp0 rfl rfl (by decide) (stp_fieldAddr_elp rfl fo_api_Term_0 rfl) ?_
    first | refine awps_stp0 rfl rfl (by decide) (stp_load rfl tf_int rfl rfl rfl rfl rfl) ?_ | refine awps_stp0 rfl rfl (by decide) (stp_load_elp1 rfl tf_int rfl) ?_ | refine awps_stp0 rfl rfl (by decide) (stp_load_elpn rfl tf_int rfl rfl rfl) ?_
    refine awps_stp0 rfl rfl (by decide) (stp_binI rfl rfl rfl rfl) ?_
    refine awps_nil ?_
    refine thenQ_nil ?_
    refine awp_cond rfl (fun c0 => ?_) (fun c0 => ?_)
    · try simp only [↓str_beq_t, ↓str_beq_f, decide_eq_true_eq, decide_eq_false_iff_not, Bool.not_eq_true', Bool.not_eq_false', Int.not_lt, Int.not_le, beq_iff_eq, beq_eq_false_iff_ne, bne_iff_ne, bne_eq_false_iff_eq, ne_eq] at c0
      refine awp_region ?_
      refine awps_stp0 rfl rfl (by decide) (stp_move (.inl rfl) rfl) ?_
      first | refine awps_stp0 rfl rfl (by decide) (stp_fieldAddr rfl fo_api_Term_1 rfl) ?_ | refine awps_stp0 rfl rfl (by decide) (stp_fieldAddr_elp rfl fo_api_Term_1 rfl) ?_
      first | refine awps_stp0 rfl rfl (by decide) (stp_load rfl tf_string rfl rfl rfl rfl rfl) ?_ | refine awps_stp0 rfl rfl (by decide) (stp_load_elp1 rfl tf_string rfl) ?_ | refine awps_stp0 rfl rfl (by decide) (stp_load_elpn rfl tf_string rfl rfl rfl) ?_
      refine awps_mapSet rfl rfl rfl um_map_string_bool ul_string rfl rfl rfl rfl (by omega) (by omega) ?_
      refine awps_nil ?_
      refine thenQ_nil ?_
      refine awp_seq ?_
      refine awp_region ?_
      first | refine awps_stp0 rfl rfl (by decide) (stp_fieldAddr rfl fo_api_Term_3 rfl) ?_ | refine awps_stp0 rfl rfl (by decide) (stp_fieldAddr_elp rfl fo_api_Term_3 rfl) ?_
      first | refine awps_stp0 rfl rfl (by decide) (stp_load rfl tf_S_api_Term rfl rfl rfl rfl rfl) ?_ | refine awps_stp0 rfl rfl (by decide) (stp_load_elp1 rfl tf_S_api_Term rfl) ?_ | refine awps_stp0 rfl rfl (by decide) (stp_load_elpn rfl tf_S_api_Term rfl rfl rfl) ?_
      first | refine awps_stp0 rfl rfl (by decide) (stp_len_dat rfl sl_S_api_Term rfl) ?_ | refine awps_stp0 rfl rfl (by decide) (stp_len_rowd rfl sl_S_api_Term rfl rfl) ?_ | refine awps_stp0 rfl rfl (by decide) (stp_len_nil rfl sl_S_api_Term rfl) ?_
      refine awps_stp0 rfl rfl (by decide) (stp_move (.inl rfl) rfl) ?_
      refine awps_nil ?_
      refine thenQ_nil ?_
      refine awp_block ?_
      refine awp_while (t.args.length) (fun k => k ≤ t.args.length) (fun k => ⟨[(1, .map 0), (13, .dat false 4 (tmDs t.args)), (14, iv (tmDs t.args).length), (15, iv (k : Int))], [(0, .mp ((t.args.take k).foldl (fun s u => noteS d u s) (if t.kind = 1 then t.name :: ss else ss)))]⟩) (by omega) ?_ (fun k hk hp => ?_)
      · exact sub_re (SubT.cons (lk_eq rfl (by first | rfl | simp)) (SubT.cons (lk_eq rfl (by first | rfl | simp)) (SubT.cons (lk_eq rfl (by first | rfl | simp)) (SubT.cons (lk_eq rfl (by first | rfl | simp)) (SubT.nil))))) (SubO.cons (ok_eq rfl (by simp [c0])) (SubO.nil)) rfl rfl (LO hL rfl)
      refine awp_seq ?_
      refine awp_region ?_
      refine awps_stp0 rfl rfl (by decide) (stp_binI rfl rfl rfl rfl) ?_
      refine awps_nil ?_
      refine thenQ_nil ?_
      refine awp_seq ?_
      refine awp_cond rfl (fun c1 => ?_) (fun c1 => ?_)
      · try simp only [↓str_beq_t, ↓str_beq_f, decide_eq_true_eq, decide_eq_false_iff_not, Bool.not_eq_true', Bool.not_eq_false', Int.not_lt, Int.not_le, beq_iff_eq, beq_eq_false_iff_ne, bne_iff_ne, bne_eq_false_iff_eq, ne_eq] at c1
        obtain ⟨u, hu⟩ := get_of_lt (l := t.args) (k := k) (by omega)
        have hum := List.mem_of_getElem? hu
        have hs1 := noteL_len d (t.args.take k) (if t.kind = 1 then t.name :: ss else ss)
        have hs2 := sum_split (nodes d) hu
        have hs3 : (if t.kind = 1 then t.name :: ss else ss).length ≤ ss.length + 1 := by split <;> simp
        refine awp_skip ?_
        refine thenQ_nil ?_
        refine awp_seq ?_
        refine awp_block ?_
        refine awp_seq ?_
        refine awp_region ?_
        first | refine awps_stp0 rfl rfl (by decide) (stp_indexAddr rfl sl_S_api_Term rfl rfl (by omega) (tmDs_get hu)) ?_ | refine awps_stp0 rfl rfl (by decide) (stp_indexAddr_rowd rfl sl_S_api_Term rfl rfl rfl (by omega) (tmDs_get hu)) ?_ | refine awps_stp0 rfl rfl (by decide) (stp_indexAddr_row rfl sl_S_api_Term rfl rfl rfl (by omega) (tmDs_get hu) (by decide)) ?_
        first | refine awps_stp0 rfl rfl (by decide) (stp_load_all rfl tf_api_Term rfl rfl rfl rfl) ?_ | refine awps_stp0 rfl rfl (by decide) (stp_load rfl tf_api_Term rfl rfl rfl rfl rfl) ?_ | refine awps_stp0 rfl rfl (by decide) (stp_load_elpa rfl tf_api_Term rfl rfl) ?_ | refine awps_stp0 rfl rfl (by decide) (stp_load_elpn rfl tf_api_Term rfl rfl rfl) ?_
        refine awps_stp1 rfl rfl (by decide) (stp_alloc 5 rfl zv_api_Term rfl) rfl ?_
        refine awps_store rfl rfl rfl tf_api_Term rfl rfl rfl rfl rfl rfl rfl rfl rfl ?_
        refine awps_nil ?_
        refine thenQ_nil ?_
        refine awp_region ?_
        first | refine awps_stp0 rfl rfl (by decide) (stp_load_all rfl tf_api_Term rfl rfl rfl rfl) ?_ | refine awps_stp0 rfl rfl (by decide) (stp_load rfl tf_api_Term rfl rfl rfl rfl rfl) ?_ | refine awps_stp0 rfl rfl (by decide) (stp_load_elpa rfl tf_api_Term rfl rfl) ?_ | refine awps_stp0 rfl rfl (by decide) (stp_load_elpn rfl tf_api_Term rfl rfl rfl) ?_
        refine awps_stp0 rfl rfl (by decide) (stp_move (.inl rfl) rfl) ?_
        refine awps_callP (avs := [_, _]) true rfl rfl rfl (by decide) en_term_Note rfl rfl (Note_ok d u _ (h u hum) (Tm.wfs_mem ht.2.2.2.2 hum) (by omega)) (rfl) (passO (.cons rfl trivial rfl .nil)) (by rintro r O' ⟨rfl, rfl⟩ l hl; exact .inl ((inD_dom (by rfl) l).trans hl)) (by rintro - r O' ⟨rfl, rfl⟩; exact ⟨rfl, rfl⟩) ?_
        rintro r O' ⟨rfl, rfl⟩
        refine awps_nil ?_
        refine inQ_nil ?_
        refine thenQ_nil ?_
        refine awp_region ?_
        refine awps_stp0 rfl rfl (by decide) (stp_add rfl rfl rfl (by omega)) ?_
        refine awps_stp0 rfl rfl (by decide) (stp_move (.inl rfl) rfl) ?_
        refine awps_nil ?_
        refine thenQ_nil ?_
        refine ⟨?_, ?_, ?_⟩
        · skip
          omega
        · skip
          omega
        exact sub_re (SubT.cons (lk_eq rfl (by first | rfl | simp)) (SubT.cons (lk_eq rfl (by first | rfl | simp)) (SubT.cons (lk_eq rfl (by first | rfl | simp)) (SubT.cons (lk_eq rfl (by first | rfl | simp)) (SubT.nil))))) (SubO.cons (ok_eq rfl (by rw [take_snoc hu, List.foldl_append]; rfl)) (SubO.nil)) rfl rfl (LO hL rfl)
      try simp only [↓str_beq_t, ↓str_beq_f, decide_eq_true_eq, decide_eq_false_iff_not, Bool.not_eq_true', Bool.not_eq_false', Int.not_lt, Int.not_le, beq_iff_eq, beq_eq_false_iff_ne, bne_iff_ne, bne_eq_false_iff_eq, ne_eq] at c1
      refine awp_exit ?_
      refine thenQ_exit (thenQ_exit (inQ_hit ?_))
      -- leaf 0T1F
      change retQ _ _ _ _ _ _ _
      refine retO (O' := [(0, _)]) (.inr rfl) resAs_nil (SubO.cons rfl SubO.nil) ?_ ?_ ?_ ?_
      · rfl
      · rfl
      · exact LO hL rfl
      exact ⟨rfl, by rw [noteS, List.take_of_length_le (by omega)]⟩
    try simp only [↓str_beq_t, ↓str_beq_f, decide_eq_true_eq, decide_eq_false_iff_not, Bool.not_eq_true', Bool.not_eq_false', Int.not_lt, Int.not_le, beq_iff_eq, beq_eq_false_iff_ne, bne_iff_ne, bne_eq_false_iff_eq, ne_eq] at c0
    refine awp_skip ?_
    refine thenQ_nil ?_
    refine awp_seq ?_
    refine awp_region ?_
    first | refine awps_stp0 rfl rfl (by decide) (stp_fieldAddr rfl fo_api_Term_3 rfl) ?_ | refine awps_stp0 rfl rfl (by decide) (stp_fieldAddr_elp rfl fo_api_Term_3 rfl) ?_
    first | refine awps_stp0 rfl rfl (by decide) (stp_load rfl tf_S_api_Term rfl rfl rfl rfl rfl) ?_ | refine awps_stp0 rfl rfl (by decide) (stp_load_elp1 rfl tf_S_api_Term rfl) ?_ | refine awps_stp0 rfl rfl (by decide) (stp_load_elpn rfl tf_S_api_Term rfl rfl rfl) ?_
    first | refine awps_stp0 rfl rfl (by decide) (stp_len_dat rfl sl_S_api_Term rfl) ?_ | refine awps_stp0 rfl rfl (by decide) (stp_len_rowd rfl sl_S_api_Term rfl rfl) ?_ | refine awps_stp0 rfl rfl (by decide) (stp_len_nil rfl sl_S_api_Term rfl) ?_
    refine awps_stp0 rfl rfl (by decide) (stp_move (.inl rfl) rfl) ?_
    refine awps_nil ?_
    refine thenQ_nil ?_
    refine awp_block ?_
    refine awp_while (t.args.length) (fun k => k ≤ t.args.length) (fun k => ⟨[(1, .map 0), (13, .dat false 4 (tmDs t.args)), (14, iv (tmDs t.args).length), (15, iv (k : Int))], [(0, .mp ((t.args.take k).foldl (fun s u => noteS d u s) (if t.kind = 1 then t.name :: ss else ss)))]⟩) (by omega) ?_ (fun k hk hp => ?_)
    · exact sub_re (SubT.cons (lk_eq rfl (by first | rfl | simp)) (SubT.cons (lk_eq rfl (by first | rfl | simp)) (SubT.cons (lk_eq rfl (by first | rfl | simp)) (SubT.cons (lk_eq rfl (by first | rfl | simp)) (SubT.nil))))) (SubO.cons (ok_eq rfl (by simp [c0])) (SubO.nil)) rfl rfl (LO hL rfl)
    refine awp_seq ?_
    refine awp_region ?_
    refine awps_stp0 rfl rfl (by decide) (stp_binI rfl rfl rfl rfl) ?_
    refine awps_nil ?_
    refine thenQ_nil ?_
    refine awp_seq ?_
    refine awp_cond rfl (fun c1 => ?_) (fun c1 => ?_)
    · try simp only [↓str_beq_t, ↓str_beq_f, decide_eq_true_eq, decide_eq_false_iff_not, Bool.not_eq_true', Bool.not_eq_false', Int.not_lt, Int.not_le, beq_iff_eq, beq_eq_false_iff_ne, bne_iff_ne, bne_eq_false_iff_eq, ne_eq] at c1
      obtain ⟨u, hu⟩ := get_of_lt (l := t.args) (k := k) (by omega)
      have hum := List.mem_of_getElem? hu
      have hs1 := noteL_len d (t.args.take k) (if t.kind = 1 then t.name :: ss else ss)
      have hs2 := sum_split (nodes d) hu
      have hs3 : (if t.kind = 1 then t.name :: ss else ss).length ≤ ss.length + 1 := by split <;> simp
      refine awp_skip ?_
      refine thenQ_nil ?_
      refine awp_seq ?_
      refine awp_block ?_
      refine awp_seq ?_
      refine awp_region ?_
      first | refine awps_stp0 rfl rfl (by decide) (stp_indexAddr rfl sl_S_api_Term rfl rfl (by omega) (tmDs_get hu)) ?_ | refine awps_stp0 rfl rfl (by decide) (stp_indexAddr_rowd rfl sl_S_api_Term rfl rfl rfl (by omega) (tmDs_get hu)) ?_ | refine awps_stp0 rfl rfl (by decide) (stp_indexAddr_row rfl sl_S_api_Term rfl rfl rfl (by omega) (tmDs_get hu) (by decide)) ?_
      first | refine awps_stp0 rfl rfl (by decide) (stp_load_all rfl tf_api_Term rfl rfl rfl rfl) ?_ | refine awps_stp0 rfl rfl (by decide) (stp_load rfl tf_api_Term rfl rfl rfl rfl rfl) ?_ | refine awps_stp0 rfl rfl (by decide) (stp_load_elpa rfl tf_api_Term rfl rfl) ?_ | refine awps_stp0 rfl rfl (by decide) (stp_load_elpn rfl tf_api_Term rfl rfl rfl) ?_
      refine awps_stp1 rfl rfl (by decide) (stp_alloc 5 rfl zv_api_Term rfl) rfl ?_
      refine awps_store rfl rfl rfl tf_api_Term rfl rfl rfl rfl rfl rfl rfl rfl rfl ?_
      refine awps_nil ?_
      refine thenQ_nil ?_
      refine awp_region ?_
      first | refine awps_stp0 rfl rfl (by decide) (stp_load_all rfl tf_api_Term rfl rfl rfl rfl) ?_ | refine awps_stp0 rfl rfl (by decide) (stp_load rfl tf_api_Term rfl rfl rfl rfl rfl) ?_ | refine awps_stp0 rfl rfl (by decide) (stp_load_elpa rfl tf_api_Term rfl rfl) ?_ | refine awps_stp0 rfl rfl (by decide) (stp_load_elpn rfl tf_api_Term rfl rfl rfl) ?_
      refine awps_stp0 rfl rfl (by decide) (stp_move (.inl rfl) rfl) ?_
      refine awps_callP (avs := [_, _]) true rfl rfl rfl (by decide) en_term_Note rfl rfl (Note_ok d u _ (h u hum) (Tm.wfs_mem ht.2.2.2.2 hum) (by omega)) (rfl) (passO (.cons rfl trivial rfl .nil)) (by rintro r O' ⟨rfl, rfl⟩ l hl; exact .inl ((inD_dom (by rfl) l).trans hl)) (by rintro - r O' ⟨rfl, rfl⟩; exact ⟨rfl, rfl⟩) ?_
      rintro r O' ⟨rfl, rfl⟩
      refine awps_nil ?_
      refine inQ_nil ?_
      refine thenQ_nil ?_
      refine awp_region ?_
      refine awps_stp0 rfl rfl (by decide) (stp_add rfl rfl rfl (by omega)) ?_
      refine awps_stp0 rfl rfl (by decide) (stp_move (.inl rfl) rfl) ?_
      refine awps_nil ?_
      refine thenQ_nil ?_
      refine ⟨?_, ?_, ?_⟩
      · skip
        omega
      · skip
        omega
      exact sub_re (SubT.cons (lk_eq rfl (by first | rfl | simp)) (SubT.cons (lk_eq rfl (by first | rfl | simp)) (SubT.cons (lk_eq rfl (by first | rfl | simp)) (SubT.cons (lk_eq rfl (by first | rfl | simp)) (SubT.nil))))) (SubO.cons (ok_eq rfl (by rw [take_snoc hu, List.foldl_append]; rfl)) (SubO.nil)) rfl rfl (LO hL rfl)
    try simp only [↓str_beq_t, ↓str_beq_f, decide_eq_true_eq, decide_eq_false_iff_not, Bool.not_eq_true', Bool.not_eq_false', Int.not_lt, Int.not_le, beq_iff_eq, beq_eq_false_iff_ne, bne_iff_ne, bne_eq_false_iff_eq, ne_eq] at c1
    refine awp_exit ?_
    refine thenQ_exit (thenQ_exit (inQ_hit ?_))
    -- leaf 0F1F
    change retQ _ _ _ _ _ _ _
    refine retO (O' := [(0, _)]) (.inr rfl) resAs_nil (SubO.cons rfl SubO.nil) ?_ ?_ ?_ ?_
    · rfl
    · rfl
    · exact LO hL rfl
    exact ⟨rfl, by rw [noteS, List.take_of_length_le (by omega)]⟩

theorem Keys_ok (ss : List ByteArray) : AC Try.prog 111 [.map 0] [(0, .mp ss)] (fun r O => r = .fn 134 [.ptr 1 0] ∧ O = [(1, .box [.map 0]), (0, .mp ss)]) := by
  refine AC_intro Try.func111 rfl Try.ntmps111 (Nat.le_of_ble_eq_true rfl) fun c hL => ?_
  refine awp_seq ?_
  refine awp_region ?_
  refine awps_stp1 rfl rfl (by decide) (stp_box 1 rfl rfl rfl) rfl ?_
  refine awps_stp0 rfl rfl (by decide) (stp_move (.inr rfl) rfl) ?_
  refine awps_nil ?_
  refine thenQ_nil ?_
  refine awp_seq ?_
  refine awp_region ?_
  refine awps_stp0 rfl rfl (by decide) (stp_makeFunc (vs := [_]) rfl rfl) ?_
  refine awps_stp0 rfl rfl (by decide) (stp_move (.inr rfl) rfl) ?_
  refine awps_nil ?_
  refine thenQ_nil ?_
  refine awp_ret ?_
  -- leaf 
  change retQ _ _ _ _ _ _ _
  refine retO (O' := [(1, _), (0, _)]) (.inl rfl) (resAs_tmp rfl resAs_nil) (SubO.cons rfl (SubO.cons rfl SubO.nil)) ?_ ?_ ?_ ?_
  · rfl
  · rfl
  · intro l hl
    have := (hL l).1 hl
    simp only [inD, ok_cons] at this ⊢
    split
    · rfl
    · exact this
  exact ⟨rfl, rfl⟩

/-- Texts in Go's order, each once. -/
def Rising (l : List ByteArray) : Prop := l.Pairwise (fun a b => a.data.toList < b.data.toList)
def strDs (l : List ByteArray) : List (List D) := l.map fun s => [.imm (.string s)]
theorem strDs_length (l : List ByteArray) : (strDs l).length = l.length := by simp [strDs]

theorem strKeys_spec {P : Program} {k : TypeId} {w : World} {b n : Nat} {D : DataW Unit} (hk : P.underlying k = some .string) (h : w.ownsMap P k R1 b n D) : (strKeys D).Nodup ∧ ∀ x, x ∈ strKeys D ↔ has D (.string x) = true := by
  obtain ⟨es, rfl, hp, _⟩ := h.entries (string_keyed hk)
  obtain ⟨es', he, hks⟩ := h.keysOf
  cases he
  have hk' : ∀ p ∈ es, ∃ x, p.1 = .string x := fun p hp' => by
    obtain ⟨v, hv⟩ := hks p hp'
    obtain ⟨x, _, h2, _⟩ := Maps.keyOf_str hk hv
    exact ⟨x, h2⟩
  refine ⟨?_, fun x => ?_⟩
  · show (es.map fun p => strOf p.1).Nodup
    refine List.pairwise_map.2 (hp.imp_of_mem fun {p q} hp' hq' hne e => hne ?_)
    obtain ⟨a, ha⟩ := hk' p hp'
    obtain ⟨b, hb⟩ := hk' q hq'
    rw [ha, hb] at e ⊢
    exact congrArg _ e
  · rw [has_eq, List.any_eq_true]
    show x ∈ es.map (fun p => strOf p.1) ↔ _
    rw [List.mem_map]
    constructor
    · rintro ⟨p, hp', hs⟩
      obtain ⟨a, ha⟩ := hk' p hp'
      rw [ha] at hs
      exact ⟨p, hp', by rw [ha]; simpa [Lit.sameKey, strOf] using hs⟩
    · rintro ⟨p, hp', hs⟩
      obtain ⟨a, ha⟩ := hk' p hp'
      rw [ha] at hs
      exact ⟨p, hp', by rw [ha]; simpa [Lit.sameKey, strOf] using hs⟩
theorem rising_sort {l : List (List UInt8)} (h : l.Nodup) : Rising ((l.mergeSort leB).map fun x => ⟨x.toArray⟩) := by
  have tr : ∀ a b c : List UInt8, leB a b = true → leB b c = true → leB a c = true := fun a b c h1 h2 => by simp only [leB, decide_eq_true_eq] at *; exact List.le_trans h1 h2
  have to : ∀ a b : List UInt8, (leB a b || leB b a) = true := fun a b => by simp only [leB, Bool.or_eq_true, decide_eq_true_eq]; exact List.le_total a b
  have h1 := List.pairwise_mergeSort tr to l
  have h2 : (l.mergeSort leB).Nodup := (List.mergeSort_perm l leB).nodup_iff.2 h
  unfold Rising
  rw [List.pairwise_map]
  refine (h1.and h2).imp fun {a b} ⟨h3, h4⟩ => ?_
  simp only [leB, decide_eq_true_eq] at h3
  exact (List.le_iff_lt_or_eq.1 h3).resolve_right h4

theorem Sorted_ok (ss : List ByteArray) (hn : ss.length ≤ 1000000) : AC Try.prog 110 [.fn 134 [.ptr 1 0]] [(1, .box [.map 0]), (0, .mp ss)]
    (fun r O => ∃ L, Rising L ∧ (∀ s, s ∈ L ↔ s ∈ ss) ∧ r = .dat true 1 (strDs L) ∧ O = [(1, .box [.map 0]), (0, .mp ss)]) := by
  rintro c w vs ρ S hw0 hL hSt hc
  have h0 := hc.T 0 _ rfl
  simp only [Rep, RepL] at h0
  obtain ⟨xs, hx, y, ys, rfl, ⟨hU, b1, hb1, rfl⟩, rfl⟩ := h0
  obtain ⟨v0, rfl⟩ : ∃ v0, vs = [v0] := by
    have := hc.tm
    match vs, this with
    | [v0], _ => exact ⟨v0, rfl⟩
  have hv0 : v0 = .func (.func 134) #[] #[.pointer (some ⟨b1, 0, none⟩)] := by simpa using hx
  subst hv0
  obtain ⟨b, ty, ys, h1, h2, h3, h4⟩ := hc.O 1 _ rfl
  obtain ⟨r, h5, P', k', n, D0, hk', hown, hnn, hmem⟩ := hc.O 0 _ rfl
  have hbb : b1 = b := by rw [h1] at hb1; simpa [blk] using hb1.symm
  subst hbb
  simp only [RepL] at h4
  obtain ⟨y, zs, rfl, hy, rfl⟩ := h4
  simp only [Rep] at hy
  obtain ⟨_, rfl, _⟩ := hy
  rw [h5] at h2
  have hown' := ownsMap_string hk' ul_string hown
  have hcell : w.cell? ⟨b1, 0, none⟩ = some (.map (some r)) := by rw [cell_of_block h2]; rfl
  have hlt : b1 < w.heap.size := hc.lt 1 _ b1 rfl trivial (by rw [h1]; rfl)
  have hsz := hown'.size_le
  have hseq : SeqGives Fence.wide 2 Try.prog 134 #[.pointer (some ⟨b1, 0, none⟩)] encStr (fun l => l.Perm (strKeys D0)) (Maps.size D0) w :=
    AnyZ.keys_gives (ρ := Try.keys111_ren) { Try.keys111 with } Fence.wide _ trivial rfl (by omega) b1 r n D0 w hlt hcell hown'
  have hcall := callsIn_wide.1 (AnyZ.sorted_in Try.sorted110 Fence.wide 5 trivial trivial trivial trivial rfl (by omega) (Try.sorts110 _) (enters_of Try.func133 (by kernel_rfl) rfl) 134 #[.pointer (some ⟨b1, 0, none⟩)] trivial (enters_of Try.func134 (by kernel_rfl) rfl) _ _ (by have : maxLen = 9223372036854775807 := rfl; omega) (by omega) _ hseq)
  refine hcall.mono ?_
  rintro e w' ⟨v, l, rfl, hperm, hrow, hnil, hbel⟩
  obtain ⟨hnd, hms⟩ := strKeys_spec ul_string hown'
  have hnl : l.Nodup := hperm.nodup_iff.2 hnd
  let M : List (List UInt8) := l.mergeSort leB
  have hlen : (M.map encStr).length = l.length := by simp [M]
  have hxs : ((M.map encStr).map fun x => [D.imm x]) = strDs (M.map fun x => ⟨x.toArray⟩) := by simp [strDs, encStr]
  have hc2 := C_freshrow (c := c) (N := 1) (T := [(0, AV.fn 134 [.ptr 1 0])]) (O := [(1, .box [.map 0]), (0, .mp ss)]) (l := 2) (d := 0) (v := v) (e := 9) (xs := M.map encStr) hc (Far.of_below hbel) (by rw [hlen]; exact hrow) (fun y hy => by simp only [List.mem_map] at hy; obtain ⟨x, _, rfl⟩ := hy; rfl) (by decide) rfl (fun h => Bool.false_ne_true ((show false = inD [(1, Ob.box [AV.map 0]), (0, Ob.mp ss)] 2 from rfl).trans ((hL 2).1 h))) rfl rfl
  rw [hxs] at hc2
  refine ⟨v, _, _, rfl, ⟨M.map fun x => ⟨x.toArray⟩, rising_sort hnl, fun s => ?_, rfl, rfl⟩, ?_⟩
  · rw [hmem s, ← hms, ← hperm.mem_iff, ← (List.mergeSort_perm l leB).mem_iff, List.mem_map]
    constructor
    · rintro ⟨x, hx, rfl⟩; exact hx
    · intro hx; exact ⟨_, hx, rfl⟩
  · exact sub_TO (c := c) (N := 1) (SubT.cons rfl SubT.nil) (SubO.cons rfl (SubO.cons rfl SubO.nil)) rfl rfl (LO hL rfl) _ _ hc2

def noteL (d : Nat) (ts : List Tm) : List ByteArray := ts.foldl (fun s u => noteS d u s) []
theorem noteL_snoc (d : Nat) (l : List Tm) (u : Tm) : noteL d (l ++ [u]) = noteS d u (noteL d l) := by simp [noteL]
theorem Names_ok (d : Nat) (ts : List Tm) (hd : ∀ t, t ∈ ts → dle d t) (ht : Tm.wfs ts) (hb : ts.length * 56 ≤ 140737488351232) (hn : (ts.map (nodes d)).sum ≤ 1000000) : AC Try.prog 73 [.dat false 4 (tmDs ts)] [] (fun r O => (∃ L, Rising L ∧ (∀ s, s ∈ L ↔ s ∈ noteL d ts) ∧ r = .dat true 1 (strDs L)) ∧ O = []) := by
  have hlen := tmDs_length ts
  have hkk := fun ss => AC_rnE 0 6 (Keys_ok ss)
  refine AC_intro Try.func73 rfl Try.ntmps73 (Nat.le_of_ble_eq_true rfl) fun c hL => ?_
  refine awp_seq ?_
  refine awp_region ?_
  refine awps_stp0 rfl rfl (by decide) (stp_move (.inr rfl) rfl) ?_
  refine awps_nil ?_
  refine thenQ_nil ?_
  refine awp_seq ?_
  refine awp_region ?_
  refine awps_stp1 rfl rfl (by decide) (stp_makeMap 6 rfl ul_string) rfl ?_
  refine awps_stp0 rfl rfl (by decide) (stp_move (.inr rfl) rfl) ?_
  refine awps_nil ?_
  refine thenQ_nil ?_
  refine awp_seq ?_
  refine awp_seq ?_
  refine awp_region ?_
  refine awps_stp0 rfl rfl (by decide) (stp_move (.inl rfl) rfl) ?_
  first | refine awps_stp0 rfl rfl (by decide) (stp_len_dat rfl sl_S_api_Term rfl) ?_ | refine awps_stp0 rfl rfl (by decide) (stp_len_rowd rfl sl_S_api_Term rfl rfl) ?_ | refine awps_stp0 rfl rfl (by decide) (stp_len_nil rfl sl_S_api_Term rfl) ?_
  refine awps_stp0 rfl rfl (by decide) (stp_move (.inl rfl) rfl) ?_
  refine awps_nil ?_
  refine thenQ_nil ?_
  refine awp_block ?_
  refine awp_while (ts.length) (fun k => k ≤ ts.length) (fun k => ⟨[(3, .map 6), (7, .dat false 4 (tmDs ts)), (8, iv (tmDs ts).length), (9, iv (k : Int))], [(6, .mp (noteL d (ts.take k)))]⟩) (by omega) ?_ (fun k hk hp => ?_)
  · exact sub_re (SubT.cons (lk_eq rfl (by first | rfl | simp)) (SubT.cons (lk_eq rfl (by first | rfl | simp)) (SubT.cons (lk_eq rfl (by first | rfl | simp)) (SubT.cons (lk_eq rfl (by first | rfl | simp)) (SubT.nil))))) (SubO.cons (ok_eq rfl (by rfl)) (SubO.nil)) rfl rfl (noL' (noL hL) _)
  have hs1 := noteL_len d (ts.take k) []
  refine awp_seq ?_
  refine awp_region ?_
  refine awps_stp0 rfl rfl (by decide) (stp_binI rfl rfl rfl rfl) ?_
  refine awps_nil ?_
  refine thenQ_nil ?_
  refine awp_seq ?_
  refine awp_cond rfl (fun c0 => ?_) (fun c0 => ?_)
  · try simp only [↓str_beq_t, ↓str_beq_f, decide_eq_true_eq, decide_eq_false_iff_not, Bool.not_eq_true', Bool.not_eq_false', Int.not_lt, Int.not_le, beq_iff_eq, beq_eq_false_iff_ne, bne_iff_ne, bne_eq_false_iff_eq, ne_eq] at c0
    obtain ⟨u, hu⟩ := get_of_lt (l := ts) (k := k) (by omega)
    have hum := List.mem_of_getElem? hu
    have hs2 := sum_split (nodes d) hu
    have hnk := fun ss h => AC_rnE 0 6 (Note_ok d u ss (hd u hum) (Tm.wfs_mem ht hum) h)
    refine awp_skip ?_
    refine thenQ_nil ?_
    refine awp_seq ?_
    refine awp_block ?_
    refine awp_seq ?_
    refine awp_region ?_
    first | refine awps_stp0 rfl rfl (by decide) (stp_indexAddr rfl sl_S_api_Term rfl rfl (by omega) (tmDs_get hu)) ?_ | refine awps_stp0 rfl rfl (by decide) (stp_indexAddr_rowd rfl sl_S_api_Term rfl rfl rfl (by omega) (tmDs_get hu)) ?_ | refine awps_stp0 rfl rfl (by decide) (stp_indexAddr_row rfl sl_S_api_Term rfl rfl rfl (by omega) (tmDs_get hu) (by decide)) ?_
    first | refine awps_stp0 rfl rfl (by decide) (stp_load_all rfl tf_api_Term rfl rfl rfl rfl) ?_ | refine awps_stp0 rfl rfl (by decide) (stp_load rfl tf_api_Term rfl rfl rfl rfl rfl) ?_ | refine awps_stp0 rfl rfl (by decide) (stp_load_elpa rfl tf_api_Term rfl rfl) ?_ | refine awps_stp0 rfl rfl (by decide) (stp_load_elpn rfl tf_api_Term rfl rfl rfl) ?_
    refine awps_stp1 rfl rfl (by decide) (stp_alloc 5 rfl zv_api_Term rfl) rfl ?_
    refine awps_store rfl rfl rfl tf_api_Term rfl rfl rfl rfl rfl rfl rfl rfl rfl ?_
    refine awps_nil ?_
    refine thenQ_nil ?_
    refine awp_region ?_
    first | refine awps_stp0 rfl rfl (by decide) (stp_load_all rfl tf_api_Term rfl rfl rfl rfl) ?_ | refine awps_stp0 rfl rfl (by decide) (stp_load rfl tf_api_Term rfl rfl rfl rfl rfl) ?_ | refine awps_stp0 rfl rfl (by decide) (stp_load_elpa rfl tf_api_Term rfl rfl) ?_ | refine awps_stp0 rfl rfl (by decide) (stp_load_elpn rfl tf_api_Term rfl rfl rfl) ?_
    refine awps_stp0 rfl rfl (by decide) (stp_move (.inl rfl) rfl) ?_
    refine awps_callP (avs := [_, _]) true rfl rfl rfl (by decide) en_term_Note rfl rfl (hnk (noteL d (ts.take k)) (by simp only [noteL]; simp only [List.length_nil] at hs1; omega)) (rfl) (passO (.cons rfl trivial rfl .nil)) (by rintro r O' ⟨rfl, rfl⟩ l hl; exact .inl ((inD_dom (by rfl) l).trans hl)) (by rintro - r O' ⟨rfl, rfl⟩; exact ⟨rfl, rfl⟩) ?_
    rintro r O' ⟨rfl, rfl⟩
    refine awps_nil ?_
    refine inQ_nil ?_
    refine thenQ_nil ?_
    refine awp_region ?_
    refine awps_stp0 rfl rfl (by decide) (stp_add rfl rfl rfl (by omega)) ?_
    refine awps_stp0 rfl rfl (by decide) (stp_move (.inl rfl) rfl) ?_
    refine awps_nil ?_
    refine thenQ_nil ?_
    refine ⟨?_, ?_, ?_⟩
    · skip
      omega
    · skip
      omega
    exact sub_re (SubT.cons (lk_eq rfl (by first | rfl | simp)) (SubT.cons (lk_eq rfl (by first | rfl | simp)) (SubT.cons (lk_eq rfl (by first | rfl | simp)) (SubT.cons (lk_eq rfl (by first | rfl | simp)) (SubT.nil))))) (SubO.cons (ok_eq rfl (by rw [take_snoc hu, noteL_snoc]; rfl)) (SubO.nil)) rfl rfl (noL' (noL hL) _)
  try simp only [↓str_beq_t, ↓str_beq_f, decide_eq_true_eq, decide_eq_false_iff_not, Bool.not_eq_true', Bool.not_eq_false', Int.not_lt, Int.not_le, beq_iff_eq, beq_eq_false_iff_ne, bne_iff_ne, bne_eq_false_iff_eq, ne_eq] at c0
  have hk2 : ts.take k = ts := List.take_of_length_le (by omega)
  rw [hk2] at hs1 ⊢
  have hs3 := AC_mono (AC_rn 0 6 (Sorted_ok (noteL d ts) (by simp only [noteL]; simp only [List.length_nil] at hs1; omega))) (Post' := fun r O' => ∃ L, Rising L ∧ (∀ s, s ∈ L ↔ s ∈ noteL d ts) ∧ r = .dat true 1 (strDs L) ∧ O' = [(1, .box [.map 6]), (6, .mp (noteL d ts))])
    (fun r O' ⟨L, h1, h2, h3, h4⟩ => ⟨L, h1, h2, by rw [← rn_rn (swp_swp 0 6) r, h3]; rfl, by rw [← rnO_rnO (swp_swp 0 6) O', h4]; rfl⟩)
  refine awp_exit ?_
  refine thenQ_exit (thenQ_exit (inQ_hit ?_))
  refine thenQ_nil ?_
  refine awp_seq ?_
  refine awp_region ?_
  refine awps_stp0 rfl rfl (by decide) (stp_move (.inl rfl) rfl) ?_
  refine awps_callP (avs := [_]) true rfl rfl rfl (by decide) en_maps_Keys_map_string_bool_string_bool rfl rfl (hkk _) (rfl) (passO (.cons rfl trivial rfl .nil)) (by rintro r O' ⟨rfl, rfl⟩; exact frB rfl) (by rintro - r O' ⟨rfl, rfl⟩; exact ⟨rfl, rfl⟩) ?_
  rintro r O' ⟨rfl, rfl⟩
  refine awps_callP (avs := [_]) true rfl rfl rfl (by decide) en_slices_Sorted_string rfl rfl (hs3) (rfl) (passO (.cons rfl trivial rfl (.cons rfl trivial rfl .nil))) (by rintro r O' ⟨L, _, _, _, rfl⟩; exact frB rfl) (by rintro - r O' ⟨L, _, _, rfl, rfl⟩; exact ⟨rfl, rfl⟩) ?_
  rintro r O' ⟨L, h1, h2, rfl, rfl⟩
  refine awps_stp0 rfl rfl (by decide) (stp_move (.inr rfl) rfl) ?_
  refine awps_nil ?_
  refine thenQ_nil ?_
  refine awp_ret ?_
  -- leaf 0F
  refine ret0 (noL hL) (.inl rfl) (resAs_tmp rfl (resAs_nil)) ?_ ?_
  · rfl
  exact ⟨⟨L, h1, h2, rfl⟩, rfl⟩

theorem mayL_dle (d : Nat) (ih : ∀ (t : Tm) (n : Int), (mayS d t n).1 = true → dle d t ∧ (nodes d t : Int) ≤ n - (mayS d t n).2) : ∀ (l : List Tm) (n : Int), (mayL (mayS d) l n).1 = true → (∀ u, u ∈ l → dle d u) ∧ ((l.map (nodes d)).sum : Int) ≤ n - (mayL (mayS d) l n).2
  | [], n, _ => by simp [mayL]
  | a :: l, n, h => by
    simp only [mayL] at h ⊢
    split at h
    · rename_i hb
      have h1 := ih a n hb
      have h2 := mayL_dle d ih l (mayS d a n).2 h
      rw [if_pos hb]
      refine ⟨fun u hu => ?_, ?_⟩
      · rcases List.mem_cons.1 hu with rfl | hu
        · exact h1.1
        · exact h2.1 u hu
      · simp only [List.map_cons, List.sum_cons]
        have := h1.2; have := h2.2; push_cast at *; omega
    · cases h
theorem mayS_dle : ∀ (d : Nat) (t : Tm) (n : Int), (mayS d t n).1 = true → dle d t ∧ (nodes d t : Int) ≤ n - (mayS d t n).2
  | 0, t, n, h => by simp [mayS] at h
  | d + 1, t, n, h => by
    have e0 : ∀ l : List Tm, l.length = 0 → l = [] := fun l h => List.eq_nil_of_length_eq_zero h
    simp only [mayS] at h ⊢
    split at h
    · cases h
    rename_i hn
    rw [if_neg hn]
    split at h
    · rename_i hk
      rw [if_pos hk]
      simp only [Bool.and_eq_true, decide_eq_true_eq] at h
      have := e0 _ h.2
      simp [dle, nodes, this]; omega
    rename_i hk1
    rw [if_neg hk1]
    split at h
    · rename_i hk
      rw [if_pos hk]
      simp only [Bool.and_eq_true, decide_eq_true_eq] at h
      have := e0 _ h.2
      simp [dle, nodes, this]; omega
    rename_i hk2
    rw [if_neg hk2]
    split at h
    · rename_i hk
      rw [if_pos hk]
      split at h
      · rename_i hc
        rw [if_pos hc]
        have := mayL_dle d (mayS_dle d) t.args (n - 1) h
        refine ⟨this.1, ?_⟩
        simp only [nodes]; push_cast; have := this.2; omega
      · cases h
    · cases h
theorem mayT_dle {t : Tm} (h : mayT t = true) : dle 5 t ∧ nodes 5 t ≤ 25 := by
  have h1 := mayS_dle 5 t 24 h
  have h2 := mayS_range 5 t 24 (by omega)
  exact ⟨h1.1, by omega⟩
def groundB (t : Tm) : Bool := (noteS 5 t []).isEmpty
theorem Is_ok (t : Tm) (ht : t.wf) (hm : mayT t = true) : PF 49 [tmA false t] (bv (groundB t)) := by
  obtain ⟨h1, h2⟩ := mayT_dle hm
  have key := Names_ok 5 [t] (fun u hu => by simp at hu; subst hu; exact h1) ⟨(Tm.wf0_iff t).2 ht, trivial⟩ (by simp) (by simp; omega)
  rw [tmDs_map] at key
  refine AC_intro Try.func49 rfl Try.ntmps49 (Nat.le_of_ble_eq_true rfl) fun c hL => ?_
  refine awp_seq ?_
  refine awp_region ?_
  refine awps_stp1 rfl rfl (by decide) (stp_box 1 rfl rfl rfl) rfl ?_
  refine awps_stp0 rfl rfl (by decide) (stp_move (.inr rfl) rfl) ?_
  refine awps_nil ?_
  refine thenQ_nil ?_
  refine awp_seq ?_
  refine awp_region ?_
  first | refine awps_stp0 rfl rfl (by decide) (stp_load_all rfl tf_api_Term rfl rfl rfl rfl) ?_ | refine awps_stp0 rfl rfl (by decide) (stp_load rfl tf_api_Term rfl rfl rfl rfl rfl) ?_ | refine awps_stp0 rfl rfl (by decide) (stp_load_elpa rfl tf_api_Term rfl rfl) ?_ | refine awps_stp0 rfl rfl (by decide) (stp_load_elpn rfl tf_api_Term rfl rfl rfl) ?_
  refine awps_stp1 rfl rfl (by decide) (stp_buildSlice 4 rfl sl_S_api_Term zv_api_Term rfl rfl (by decide) (by decide) (by decide) rfl rfl rfl) rfl ?_
  refine awps_rowd 4 false 1 rfl rfl rfl rfl ?_
  refine awps_callP (avs := [_]) true rfl rfl rfl (by decide) en_term_Names rfl rfl (key) (rfl) (passO .nil) (by rintro r O' ⟨_, rfl⟩; exact frB rfl) (by rintro - r O' ⟨⟨L, _, _, rfl⟩, rfl⟩; exact ⟨rfl, rfl⟩) ?_
  rintro r O' ⟨⟨L, g1, g2, rfl⟩, rfl⟩
  first | refine awps_stp0 rfl rfl (by decide) (stp_len_dat rfl sl_S_string rfl) ?_ | refine awps_stp0 rfl rfl (by decide) (stp_len_rowd rfl sl_S_string rfl rfl) ?_ | refine awps_stp0 rfl rfl (by decide) (stp_len_nil rfl sl_S_string rfl) ?_
  refine awps_stp0 rfl rfl (by decide) (stp_binI rfl rfl rfl rfl) ?_
  refine awps_stp0 rfl rfl (by decide) (stp_move (.inr rfl) rfl) ?_
  refine awps_nil ?_
  refine thenQ_nil ?_
  refine awp_ret ?_
  -- leaf 
  refine ret0 (noL hL) (.inl rfl) (resAs_tmp rfl (resAs_nil)) ?_ ?_
  · rfl
  refine ⟨bool_w ?_, rfl⟩
  rw [strDs_length, natBeq0, groundB, Bool.eq_iff_iff, decide_eq_true_eq, List.length_eq_zero_iff, List.isEmpty_iff]
  have e : noteL 5 [t] = noteS 5 t [] := rfl
  rw [e] at g2
  constructor
  · rintro rfl; exact List.eq_nil_iff_forall_not_mem.2 fun s hs => by have := (g2 s).2 hs; simp at this
  · intro h; rw [h] at g2; exact List.eq_nil_iff_forall_not_mem.2 fun s hs => by have := (g2 s).1 hs; simp at this
end Go.Proofs.Ytdecgkhdbfgldaa
