/- Part 9 of the proof: Gq, Gs, Gt, Gu, Gv. -/
import Derived.Test.YtdecgkhdbfgldaaF8
import Derived.DeepKeys4
set_option linter.unusedVariables false
set_option linter.unusedSimpArgs false
set_option maxRecDepth 8000
namespace Go.Proofs.Ytdecgkhdbfgldaa
open Go
def u8 (n : Int) : UInt8 := UInt8.ofNat (n % 256).toNat
theorem wrap_u8 (n : Int) : IntKind.u8.wrap n = ((u8 n).toNat : Int) := by
  have h1 : 0 ≤ n % 256 := Int.emod_nonneg _ (by decide)
  have h2 : n % 256 < 256 := Int.emod_lt_of_pos _ (by decide)
  have e : IntKind.u8.wrap n = n % 256 := by
    simp [IntKind.wrap, IntKind.signed, IntKind.bits]
  rw [e, u8, UInt8.toNat_ofNat']
  omega
def kq (n : Int) : Int := IntKind.u32.wrap (IntKind.i32.wrap n)
def keyL : Nat → Tm → List UInt8
  | 0, _ => []
  | d + 1, t => [u8 t.kind, u8 t.name.size] ++ t.name.data.toList ++ [u8 (kq t.n / 2 ^ min (24 : Int).toNat IntKind.u32.bits), u8 (kq t.n / 2 ^ min (16 : Int).toNat IntKind.u32.bits), u8 (kq t.n / 2 ^ min (8 : Int).toNat IntKind.u32.bits), u8 (kq t.n), u8 t.args.length] ++ (t.args.map (keyL d)).flatten
theorem shp_name {t : Tm} (h : t.shp) : t.name.size ≤ 16 := by
  have hw : ∀ p, wordB p t.name = true → t.name.size ≤ 16 := fun p hp => by
    simp only [wordB, Bool.and_eq_true, decide_eq_true_eq] at hp
    exact hp.1.1.2
  rcases ((Tm.shp_iff t).1 h).1 with ⟨_, h, _⟩ | ⟨_, _, h, _⟩ | ⟨_, h, _⟩
  · exact hw _ h
  · omega
  · exact hw _ h
theorem keyL_len : ∀ (d : Nat) (t : Tm), t.shp → (keyL d t).length ≤ 23 * t.sz
  | 0, t, _ => by simp [keyL]
  | d + 1, t, h => by
    have hn := shp_name h
    have e : t.name.data.toList.length = t.name.size := by simp
    have key : ∀ l : List Tm, (∀ u ∈ l, u.shp) → (l.map (keyL d)).flatten.length ≤ 23 * (l.map Tm.sz).sum := fun l => by
      induction l with
      | nil => intro _; simp
      | cons a l ih =>
        intro hl
        have h1 := ih fun u hu => hl u (by simp [hu])
        have h2 := keyL_len d a (hl a (by simp))
        simp only [List.map_cons, List.flatten_cons, List.length_append, List.sum_cons]
        omega
    have h3 := key t.args fun u hu => h.arg hu
    rw [Tm.sz_eq, keyL]
    simp only [List.length_append, List.length_cons, List.length_nil, e]
    omega
theorem Key_ok : ∀ (d : Nat) (t : Tm), dle d t → t.shp → t.wf → t.sz ≤ 1000 → PF 137 [tmA false t] (sv ⟨(keyL d t).toArray⟩)
  | 0, t, h, _, _, _ => h.elim
  | d + 1, t, h, hs, ht, hz => by
    have hlen := tmDs_length t.args
    have hal : t.args.length ≤ 4 := by
      rcases ((Tm.shp_iff t).1 hs).1 with ⟨_, _, _, e⟩ | ⟨_, _, _, e⟩ | ⟨_, _, _, e⟩ <;> simp_all
    have hnm := shp_name hs
    have hkl := keyL_len (d + 1) t hs
    have hk2 : (keyL (d + 1) t).length = 7 + t.name.size + ((t.args.map (keyL d)).flatten).length := by
      have e : t.name.data.toList.length = t.name.size := by simp
      rw [keyL]; simp only [List.length_append, List.length_cons, List.length_nil, e]; omega
    have e8 : ∀ l : List UInt8, (ByteArray.mk l.toArray).size = l.length := fun l => by simp [ByteArray.size]
    refine AC_intro Try.func137 rfl Try.ntmps137 (Nat.le_of_ble_eq_true rfl) fun c hL hQ hDD => ?_
    refine awp_seq ?_
    refine awp_region ?_
    refine awps_stp1 rfl rfl (by decide) (stp_box 1 rfl rfl rfl) rfl ?_
    refine awps_stp0 rfl rfl (by decide) (stp_move (.inr rfl) rfl) ?_
    refine awps_nil ?_
    refine thenQ_nil ?_
    refine awp_seq ?_
    refine awp_region ?_
    first | refine awps_stp0 rfl rfl (by decide) (stp_fieldAddr rfl fo_api_Term_0 rfl) ?_ | refine awps_stp0 rfl rfl (by decide) (stp_fieldAddr_elp rfl fo_api_Term_0 rfl) ?_
    first | refine awps_stp0 rfl rfl (by decide) (stp_load rfl tf_int rfl rfl rfl rfl rfl) ?_ | refine awps_stp0 rfl rfl (by decide) (stp_load_elp1 rfl tf_int rfl) ?_ | refine awps_stp0 rfl rfl (by decide) (stp_load_elpn rfl tf_int rfl rfl rfl) ?_
    refine awps_stp0 rfl rfl (by decide) (stp_conv rfl us_int ul_uint8 rfl) ?_
    first | refine awps_stp0 rfl rfl (by decide) (stp_fieldAddr rfl fo_api_Term_1 rfl) ?_ | refine awps_stp0 rfl rfl (by decide) (stp_fieldAddr_elp rfl fo_api_Term_1 rfl) ?_
    first | refine awps_stp0 rfl rfl (by decide) (stp_load rfl tf_string rfl rfl rfl rfl rfl) ?_ | refine awps_stp0 rfl rfl (by decide) (stp_load_elp1 rfl tf_string rfl) ?_ | refine awps_stp0 rfl rfl (by decide) (stp_load_elpn rfl tf_string rfl rfl rfl) ?_
    refine awps_stp0 rfl rfl (by decide) (stp_len_str rfl ul_string rfl) ?_
    refine awps_stp0 rfl rfl (by decide) (stp_conv rfl us_int ul_uint8 rfl) ?_
    rw [wrap_u8, wrap_u8]
    refine awps_stp1 rfl rfl (by decide) (stp_buildSlice 14 rfl sl_S_uint8 zv_uint8 rfl rfl (by decide) (by decide) (by decide) rfl rfl rfl) rfl ?_
    refine awps_rowd 14 false 2 rfl rfl rfl rfl ?_
    refine awps_stp0 rfl rfl (by decide) (stp_move (.inr rfl) rfl) ?_
    refine awps_nil ?_
    refine thenQ_nil ?_
    refine awp_seq ?_
    refine awp_region ?_
    refine awps_stp0 rfl rfl (by decide) (stp_move (.inl rfl) rfl) ?_
    first | refine awps_stp0 rfl rfl (by decide) (stp_fieldAddr rfl fo_api_Term_1 rfl) ?_ | refine awps_stp0 rfl rfl (by decide) (stp_fieldAddr_elp rfl fo_api_Term_1 rfl) ?_
    first | refine awps_stp0 rfl rfl (by decide) (stp_load rfl tf_string rfl rfl rfl rfl rfl) ?_ | refine awps_stp0 rfl rfl (by decide) (stp_load_elp1 rfl tf_string rfl) ?_ | refine awps_stp0 rfl rfl (by decide) (stp_load_elpn rfl tf_string rfl rfl rfl) ?_
    refine awps_append_str 18 ta_S_uint8 (by kernel_rfl) ul_string rfl rfl (by decide) rfl rfl rfl (noL hL _) rfl rfl (by simp [chunk]; omega) ?_
    refine awps_stp0 rfl rfl (by decide) (stp_move (.inr rfl) rfl) ?_
    refine awps_nil ?_
    refine thenQ_nil ?_
    refine awp_seq ?_
    refine awp_region ?_
    first | refine awps_stp0 rfl rfl (by decide) (stp_fieldAddr rfl fo_api_Term_2 rfl) ?_ | refine awps_stp0 rfl rfl (by decide) (stp_fieldAddr_elp rfl fo_api_Term_2 rfl) ?_
    first | refine awps_stp0 rfl rfl (by decide) (stp_load rfl tf_int rfl rfl rfl rfl rfl) ?_ | refine awps_stp0 rfl rfl (by decide) (stp_load_elp1 rfl tf_int rfl) ?_ | refine awps_stp0 rfl rfl (by decide) (stp_load_elpn rfl tf_int rfl rfl rfl) ?_
    refine awps_stp0 rfl rfl (by decide) (stp_conv rfl us_int ul_int32 rfl) ?_
    refine awps_stp0 rfl rfl (by decide) (stp_conv rfl us_int32 ul_uint32 rfl) ?_
    refine awps_stp0 rfl rfl (by decide) (stp_move (.inr rfl) rfl) ?_
    refine awps_nil ?_
    refine thenQ_nil ?_
    refine awp_seq ?_
    refine awp_region ?_
    refine awps_stp0 rfl rfl (by decide) (stp_move (.inl rfl) rfl) ?_
    refine awps_stp0 rfl rfl (by decide) (stp_move (.inl rfl) rfl) ?_
    refine awps_stp0 rfl rfl (by decide) (stp_shr rfl rfl rfl (by decide)) ?_
    refine awps_stp0 rfl rfl (by decide) (stp_conv rfl us_uint32 ul_uint8 rfl) ?_
    refine awps_stp0 rfl rfl (by decide) (stp_move (.inl rfl) rfl) ?_
    refine awps_stp0 rfl rfl (by decide) (stp_shr rfl rfl rfl (by decide)) ?_
    refine awps_stp0 rfl rfl (by decide) (stp_conv rfl us_uint32 ul_uint8 rfl) ?_
    refine awps_stp0 rfl rfl (by decide) (stp_move (.inl rfl) rfl) ?_
    refine awps_stp0 rfl rfl (by decide) (stp_shr rfl rfl rfl (by decide)) ?_
    refine awps_stp0 rfl rfl (by decide) (stp_conv rfl us_uint32 ul_uint8 rfl) ?_
    refine awps_stp0 rfl rfl (by decide) (stp_move (.inl rfl) rfl) ?_
    refine awps_stp0 rfl rfl (by decide) (stp_conv rfl us_uint32 ul_uint8 rfl) ?_
    first | refine awps_stp0 rfl rfl (by decide) (stp_fieldAddr rfl fo_api_Term_3 rfl) ?_ | refine awps_stp0 rfl rfl (by decide) (stp_fieldAddr_elp rfl fo_api_Term_3 rfl) ?_
    first | refine awps_stp0 rfl rfl (by decide) (stp_load rfl tf_S_api_Term rfl rfl rfl rfl rfl) ?_ | refine awps_stp0 rfl rfl (by decide) (stp_load_elp1 rfl tf_S_api_Term rfl) ?_ | refine awps_stp0 rfl rfl (by decide) (stp_load_elpn rfl tf_S_api_Term rfl rfl rfl) ?_
    first | refine awps_stp0 rfl rfl (by decide) (stp_len_dat rfl sl_S_api_Term rfl) ?_ | refine awps_stp0 rfl rfl (by decide) (stp_len_rowd rfl sl_S_api_Term rfl rfl) ?_ | refine awps_stp0 rfl rfl (by decide) (stp_len_nil rfl sl_S_api_Term rfl) ?_ | refine awps_stp0 rfl rfl (by decide) (stp_len_vw rfl sl_S_api_Term rfl) ?_
    refine awps_stp0 rfl rfl (by decide) (stp_conv rfl us_int ul_uint8 rfl) ?_
    simp only [wrap_u8]
    refine awps_stp1 rfl rfl (by decide) (stp_buildSlice 39 rfl sl_S_uint8 zv_uint8 rfl rfl (by decide) (by decide) (by decide) rfl rfl rfl) rfl ?_
    refine awps_rowd 39 false 5 rfl rfl rfl rfl ?_
    refine awps_append_src 40 ta_S_uint8 rfl rfl (by decide) rfl rfl rfl (src_rowd rfl rfl) rfl (fun d hd => by simp only [chunk, List.take, List.drop, List.mem_cons, List.not_mem_nil, or_false] at hd; rcases hd with rfl | rfl | rfl | rfl | rfl <;> rfl) (noL hL _) rfl (by simp [chunk, btL_length]; omega) rfl ?_
    refine awps_stp0 rfl rfl (by decide) (stp_move (.inr rfl) rfl) ?_
    refine awps_nil ?_
    refine thenQ_nil ?_
    refine awp_seq ?_
    refine awp_seq ?_
    refine awp_region ?_
    first | refine awps_stp0 rfl rfl (by decide) (stp_fieldAddr rfl fo_api_Term_3 rfl) ?_ | refine awps_stp0 rfl rfl (by decide) (stp_fieldAddr_elp rfl fo_api_Term_3 rfl) ?_
    first | refine awps_stp0 rfl rfl (by decide) (stp_load rfl tf_S_api_Term rfl rfl rfl rfl rfl) ?_ | refine awps_stp0 rfl rfl (by decide) (stp_load_elp1 rfl tf_S_api_Term rfl) ?_ | refine awps_stp0 rfl rfl (by decide) (stp_load_elpn rfl tf_S_api_Term rfl rfl rfl) ?_
    first | refine awps_stp0 rfl rfl (by decide) (stp_len_dat rfl sl_S_api_Term rfl) ?_ | refine awps_stp0 rfl rfl (by decide) (stp_len_rowd rfl sl_S_api_Term rfl rfl) ?_ | refine awps_stp0 rfl rfl (by decide) (stp_len_nil rfl sl_S_api_Term rfl) ?_ | refine awps_stp0 rfl rfl (by decide) (stp_len_vw rfl sl_S_api_Term rfl) ?_
    refine awps_stp0 rfl rfl (by decide) (stp_move (.inl rfl) rfl) ?_
    refine awps_nil ?_
    refine thenQ_nil ?_
    refine awp_block ?_
    refine awp_while (t.args.length) (fun k => k ≤ t.args.length) (fun k => ⟨[(3, .row 3), (42, .dat false 4 (tmDs t.args)), (43, iv (tmDs t.args).length), (44, iv (k : Int))], [(3, .rowd 5 1 false (btL ([u8 t.kind, u8 t.name.size] ++ t.name.data.toList ++ [u8 (kq t.n / 2 ^ min (24 : Int).toNat IntKind.u32.bits), u8 (kq t.n / 2 ^ min (16 : Int).toNat IntKind.u32.bits), u8 (kq t.n / 2 ^ min (8 : Int).toNat IntKind.u32.bits), u8 (kq t.n), u8 t.args.length] ++ ((t.args.take k).map (keyL d)).flatten)))]⟩) (by omega) ?_ (fun k hk hp => ?_)
    · exact Sub.trans (sub_rename 40 3 (noL hL _) (noL hL _)) (sub_re (SubT.cons (lk_eq rfl (by first | rfl | simp)) (SubT.cons (lk_eq rfl (by first | rfl | simp)) (SubT.cons (lk_eq rfl (by first | rfl | simp)) (SubT.cons (lk_eq rfl (by first | rfl | simp)) (SubT.nil))))) (SubO.cons (ok_eq rfl (by simp [btL, chunk, hlen]; rfl)) (SubO.nil)) rfl rfl (noL' (noL hL) _))
    have hfl := flat_le (t.args.map (keyL d)) k
    rw [← List.map_take] at hfl
    have hbl := btL_length ([u8 t.kind, u8 t.name.size] ++ t.name.data.toList ++ [u8 (kq t.n / 2 ^ min (24 : Int).toNat IntKind.u32.bits), u8 (kq t.n / 2 ^ min (16 : Int).toNat IntKind.u32.bits), u8 (kq t.n / 2 ^ min (8 : Int).toNat IntKind.u32.bits), u8 (kq t.n), u8 t.args.length] ++ ((t.args.take k).map (keyL d)).flatten)
    have hbl2 : ([u8 t.kind, u8 t.name.size] ++ t.name.data.toList ++ [u8 (kq t.n / 2 ^ min (24 : Int).toNat IntKind.u32.bits), u8 (kq t.n / 2 ^ min (16 : Int).toNat IntKind.u32.bits), u8 (kq t.n / 2 ^ min (8 : Int).toNat IntKind.u32.bits), u8 (kq t.n), u8 t.args.length] ++ ((t.args.take k).map (keyL d)).flatten).length = 7 + t.name.size + (((t.args.take k).map (keyL d)).flatten).length := by
      have e : t.name.data.toList.length = t.name.size := by simp
      simp only [List.length_append, List.length_cons, List.length_nil, e]; omega
    refine awp_seq ?_
    refine awp_region ?_
    refine awps_stp0 rfl rfl (by decide) (stp_binI rfl rfl rfl rfl) ?_
    refine awps_nil ?_
    refine thenQ_nil ?_
    refine awp_seq ?_
    refine awp_cond rfl (fun c0 => ?_) (fun c0 => ?_)
    · try simp only [↓str_beq_t, ↓str_beq_f, decide_eq_true_eq, decide_eq_false_iff_not, Bool.not_eq_true', Bool.not_eq_false', Int.not_lt, Int.not_le, beq_iff_eq, beq_eq_false_iff_ne, bne_iff_ne, bne_eq_false_iff_eq, ne_eq] at c0
      obtain ⟨u, hu⟩ := get_of_lt (l := t.args) (k := k) (by omega)
      have hum := List.mem_of_getElem? hu
      have husz : u.sz ≤ t.sz := by
        have := sum_split (l := t.args) (k := k) (u := u) Tm.sz hu
        rw [Tm.sz_eq t]; omega
      have hul := keyL_len d u (hs.arg hum)
      have hue := e8 (keyL d u)
      refine awp_skip ?_
      refine thenQ_nil ?_
      refine awp_seq ?_
      refine awp_block ?_
      refine awp_seq ?_
      refine awp_region ?_
      first | refine awps_stp0 rfl rfl (by decide) (stp_indexAddr rfl sl_S_api_Term rfl rfl (by omega) (tmDs_get hu)) ?_ | refine awps_stp0 rfl rfl (by decide) (stp_indexAddr_rowd rfl sl_S_api_Term rfl rfl rfl (by omega) (tmDs_get hu)) ?_ | refine awps_stp0 rfl rfl (by decide) (stp_indexAddr_row rfl sl_S_api_Term rfl rfl rfl (by omega) (tmDs_get hu) (by decide)) ?_
      first | refine awps_stp0 rfl rfl (by decide) (stp_load_all rfl tf_api_Term rfl rfl rfl rfl) ?_ | refine awps_stp0 rfl rfl (by decide) (stp_load rfl tf_api_Term rfl rfl rfl rfl rfl) ?_ | refine awps_stp0 rfl rfl (by decide) (stp_load_elpa rfl tf_api_Term rfl rfl) ?_ | refine awps_stp0 rfl rfl (by decide) (stp_load_elpn rfl tf_api_Term rfl rfl rfl) ?_
      refine awps_stp1 rfl rfl (by decide) (stp_alloc 6 rfl zv_api_Term rfl) rfl ?_
      refine awps_store rfl rfl rfl tf_api_Term rfl rfl rfl rfl rfl rfl rfl rfl rfl ?_
      refine awps_nil ?_
      refine thenQ_nil ?_
      refine awp_region ?_
      refine awps_stp0 rfl rfl (by decide) (stp_move (.inl rfl) rfl) ?_
      first | refine awps_stp0 rfl rfl (by decide) (stp_load_all rfl tf_api_Term rfl rfl rfl rfl) ?_ | refine awps_stp0 rfl rfl (by decide) (stp_load rfl tf_api_Term rfl rfl rfl rfl rfl) ?_ | refine awps_stp0 rfl rfl (by decide) (stp_load_elpa rfl tf_api_Term rfl rfl) ?_ | refine awps_stp0 rfl rfl (by decide) (stp_load_elpn rfl tf_api_Term rfl rfl rfl) ?_
      refine awps_call (avs := [_]) true rfl rfl rfl (by decide) en_term_Key rfl rfl (Key_ok d u (h u hum) (hs.arg hum) (Tm.wfs_mem ht.2.2.2.2 hum) (by omega)) rfl rfl ?_
      refine awps_append_str 51 ta_S_uint8 (by kernel_rfl) ul_string rfl rfl (by decide) rfl rfl rfl (noL hL _) rfl rfl (by omega) ?_
      refine awps_stp0 rfl rfl (by decide) (stp_move (.inr rfl) rfl) ?_
      refine awps_nil ?_
      refine inQ_nil ?_
      refine thenQ_nil ?_
      refine awp_region ?_
      refine awps_stp0 rfl rfl (by decide) (stp_add rfl rfl rfl (by omega)) ?_
      refine awps_stp0 rfl rfl (by decide) (stp_move (.inl rfl) rfl) ?_
      refine awps_nil ?_
      refine thenQ_nil ?_
      refine ⟨?_, ?_, ?_⟩
      · skip
        omega
      · skip
        omega
      exact Sub.trans (sub_rename 51 3 (noL hL _) (noL hL _)) (sub_re (SubT.cons (lk_eq rfl (by first | rfl | simp)) (SubT.cons (lk_eq rfl (by first | rfl | simp)) (SubT.cons (lk_eq rfl (by first | rfl | simp)) (SubT.cons (lk_eq rfl (by first | rfl | simp)) (SubT.nil))))) (SubO.cons (ok_eq rfl (by rw [take_snoc hu, List.map_append, List.flatten_append]; simp [btL]; rfl)) (SubO.nil)) rfl rfl (noL' (noL hL) _))
    try simp only [↓str_beq_t, ↓str_beq_f, decide_eq_true_eq, decide_eq_false_iff_not, Bool.not_eq_true', Bool.not_eq_false', Int.not_lt, Int.not_le, beq_iff_eq, beq_eq_false_iff_ne, bne_iff_ne, bne_eq_false_iff_eq, ne_eq] at c0
    refine awp_exit ?_
    refine thenQ_exit (thenQ_exit (inQ_hit ?_))
    refine thenQ_nil ?_
    refine awp_seq ?_
    refine awp_region ?_
    refine awps_stp0 rfl rfl (by decide) (stp_move (.inl rfl) rfl) ?_
    refine awps_stp0 rfl rfl (by decide) (stp_conv_bytes rfl (by kernel_rfl) ul_uint8 ul_string rfl rfl) ?_
    refine awps_stp0 rfl rfl (by decide) (stp_move (.inr rfl) rfl) ?_
    refine awps_nil ?_
    refine thenQ_nil ?_
    refine awp_ret ?_
    -- leaf 0F
    refine ret0 (noL hL) (.inl rfl) (resAs_tmp rfl (resAs_nil)) ?_ ?_
    · rfl
    refine ⟨?_, rfl⟩
    rw [List.take_of_length_le (by omega), keyL]; rfl
end Go.Proofs.Ytdecgkhdbfgldaa

set_option linter.unusedVariables false
set_option linter.unusedSimpArgs false
set_option maxRecDepth 8000
namespace Go.Proofs.Ytdecgkhdbfgldaa
open Go Go.Maps
def keyS (f : Ft) : ByteArray := ⟨(keyL 5 f.t).toArray⟩
abbrev idA (f : Ft) : AV := .agg [sv (keyS f), iv f.fr, iv f.to]
theorem Of_ok (f : Ft) (hf : f.wf) (hm : mayT f.t = true) : PF 116 [ftA f] (idA f) := by
  have hz := ((mayT_iff f.t).1 hm).2.2
  refine AC_intro Try.func116 rfl Try.ntmps116 (Nat.le_of_ble_eq_true rfl) fun c hL hQ hDD => ?_
  refine awp_seq ?_
  refine awp_region ?_
  refine awps_stp1 rfl rfl (by decide) (stp_box 1 rfl rfl rfl) rfl ?_
  refine awps_stp1 rfl rfl (by decide) (stp_alloc 2 rfl zv_facts_ID rfl) rfl ?_
  refine awps_nil ?_
  refine thenQ_nil ?_
  refine awp_seq ?_
  refine awp_drawG 5 mixed rfl rfl rfl rfl ?_
  first | refine MGo_c0 rfl (by decide) (.run rfl (stp_fieldAddr rfl fo_api_Fact_0 rfl)) ?_ | refine MGo_c0 rfl (by decide) (.run rfl (stp_fieldAddr_elp rfl fo_api_Fact_0 rfl)) ?_
  first | refine MGo_c0 rfl (by decide) (.run rfl (stp_load_all rfl tf_api_Term rfl rfl rfl rfl)) ?_ | refine MGo_c0 rfl (by decide) (.run rfl (stp_load rfl tf_api_Term rfl rfl rfl rfl rfl)) ?_ | refine MGo_c0 rfl (by decide) (.run rfl (stp_load_elpa rfl tf_api_Term rfl rfl)) ?_ | refine MGo_c0 rfl (by decide) (.run rfl (stp_load_elpn rfl tf_api_Term rfl rfl rfl)) ?_
  refine MGo_c0 rfl (by decide) (.run rfl (stp_call (avs := [_]) true rfl en_term_Key rfl rfl (Key_ok 5 f.t (may_dle hm) (may_shp hm) hf.1 (by omega)) (fun _ => rfl) rfl)) ?_
  first | refine MGo_c0 rfl (by decide) (.run rfl (stp_fieldAddr rfl fo_api_Fact_1 rfl)) ?_ | refine MGo_c0 rfl (by decide) (.run rfl (stp_fieldAddr_elp rfl fo_api_Fact_1 rfl)) ?_
  first | refine MGo_c0 rfl (by decide) (.run rfl (stp_load_all rfl tf_api_Span rfl rfl rfl rfl)) ?_ | refine MGo_c0 rfl (by decide) (.run rfl (stp_load rfl tf_api_Span rfl rfl rfl rfl rfl)) ?_ | refine MGo_c0 rfl (by decide) (.run rfl (stp_load_elpa rfl tf_api_Span rfl rfl)) ?_ | refine MGo_c0 rfl (by decide) (.run rfl (stp_load_elpn rfl tf_api_Span rfl rfl rfl)) ?_
  refine MGo_nil ⟨rfl, rfl, ?_⟩
  refine awps_stp0 rfl rfl (by decide) (stp_build rfl zv_facts_ID rfl pl_facts_ID rfl rfl) ?_
  refine awps_store rfl rfl rfl tf_facts_ID rfl rfl rfl rfl rfl rfl rfl rfl rfl ?_
  refine awps_nil ?_
  refine thenQ_nil ?_
  refine awp_ret ?_
  -- leaf 
  refine ret0 (noL hL) (.inl rfl) (resAs_cell tf_facts_ID rfl rfl rfl (resAs_nil)) ?_ ?_
  · rfl
  exact ⟨rfl, rfl⟩
theorem kd_facts_ID : Keyed Try.prog 148 := Keyed.of_law (deep_law_laid laidOut (m := 3) (by omega) (of_decide_eq_true (by kernel_rfl)) (by kernel_rfl) (by kernel_rfl))
def idLit (f : Ft) : Lit := .string (keyBytes [.string (keyS f).data.toList, .int .i64 f.fr, .int .i64 f.to])
abbrev idV (f : Ft) : Value := .agg #[.string (keyS f), .int .i64 f.fr, .int .i64 f.to]
noncomputable def idFs : Array Field := match Try.prog.underlying 148 with | some (.struct fs) => fs | _ => #[]
theorem idFs_u : Try.prog.underlying 148 = some (.struct idFs) := by kernel_rfl
theorem idFs_l : idFs.toList.map (fun f => (f.type, f.offset)) = [(9, 0), (51, 1)] := by kernel_rfl
theorem idFs_a : idFs.all (·.name != "_") = true := by kernel_rfl
noncomputable def spFs : Array Field := match Try.prog.underlying 51 with | some (.struct fs) => fs | _ => #[]
theorem spFs_u : Try.prog.underlying 51 = some (.struct spFs) := by kernel_rfl
theorem spFs_l : spFs.toList.map (fun f => (f.type, f.offset)) = [(3, 0), (3, 1)] := by kernel_rfl
theorem spFs_a : spFs.all (·.name != "_") = true := by kernel_rfl
theorem mapM_pair {α : Type} (g : TypeId → Nat → Option α) (l : List Field) : l.mapM (fun f => g f.type f.offset) = (l.map fun f => (f.type, f.offset)).mapM fun p => g p.1 p.2 := by
  induction l with
  | nil => rfl
  | cons a l ih => simp only [List.map_cons, List.mapM_cons, ih]
theorem i64_wf {n : Int} (h : i64 n) : (Lit.int .i64 n).wf = true := by
  simp only [i64] at h
  simp [Lit.wf, IntKind.min, IntKind.max, IntKind.signed, IntKind.bits]
  omega
theorem keyLits_int (d : Nat) {n : Int} (h : i64 n) : Try.prog.keyLits (d + 1) 3 [.int .i64 n] = some [.int .i64 n] := by
  unfold Program.keyLits; rw [ul_int]
  simp [i64_wf h]
theorem keyLits_str (d : Nat) {s : ByteArray} (h : s.size ≤ maxLen) : Try.prog.keyLits (d + 1) 9 [.string s] = some [.string s.data.toList] := by
  unfold Program.keyLits; rw [ul_string]
  simp [h]
theorem keyLits_Span (d : Nat) {a b : Int} (h1 : i64 a) (h2 : i64 b) : Try.prog.keyLits (d + 2) 51 [.int .i64 a, .int .i64 b] = some [.int .i64 a, .int .i64 b] := by
  unfold Program.keyLits; rw [spFs_u]
  simp only
  rw [if_pos ⟨by kernel_rfl, spFs_a⟩, mapM_pair (fun t o => Try.prog.keyLits (d + 1) t (([Value.int .i64 a, .int .i64 b].drop o).take (Try.prog.cellsOf t))), spFs_l]
  have e : Try.prog.cellsOf 3 = 1 := by kernel_rfl
  simp only [List.mapM_cons, List.mapM_nil, e, List.drop_zero, List.drop_succ_cons, List.take_succ_cons, List.take_zero, keyLits_int d h1, keyLits_int d h2]
  rfl
theorem keyLits_ID (d : Nat) (f : Ft) (hs : (keyS f).size ≤ maxLen) (h1 : i64 f.fr) (h2 : i64 f.to) : Try.prog.keyLits (d + 3) 148 [.string (keyS f), .int .i64 f.fr, .int .i64 f.to] = some [.string (keyS f).data.toList, .int .i64 f.fr, .int .i64 f.to] := by
  unfold Program.keyLits; rw [idFs_u]
  simp only
  rw [if_pos ⟨by kernel_rfl, idFs_a⟩, mapM_pair (fun t o => Try.prog.keyLits (d + 2) t (([Value.string (keyS f), .int .i64 f.fr, .int .i64 f.to].drop o).take (Try.prog.cellsOf t))), idFs_l]
  have e : Try.prog.cellsOf 9 = 1 := by kernel_rfl
  have e2 : Try.prog.cellsOf 51 = 2 := by kernel_rfl
  simp only [List.mapM_cons, List.mapM_nil, e, e2, List.drop_zero, List.drop_succ_cons, List.take_succ_cons, List.take_zero, keyLits_str (d + 1) hs, keyLits_Span d h1 h2]
  rfl
theorem keyOf_ID (f : Ft) (hs : (keyS f).size ≤ maxLen) (h1 : i64 f.fr) (h2 : i64 f.to) : keyOf Try.prog 148 (idV f) = some (idLit f) := by
  unfold keyOf
  rw [idFs_u]
  simp only
  rw [if_pos (by kernel_rfl)]
  have hn : Try.prog.types.size + 1 = (Try.prog.types.size - 2) + 3 := by kernel_rfl
  rw [hn]
  have := keyLits_ID (Try.prog.types.size - 2) f hs h1 h2
  rw [show (idV f).cells.toList = [.string (keyS f), .int .i64 f.fr, .int .i64 f.to] from rfl, this]
  rfl
end Go.Proofs.Ytdecgkhdbfgldaa

set_option linter.unusedVariables false
set_option linter.unusedSimpArgs false
set_option maxRecDepth 8000
namespace Go.Proofs.Ytdecgkhdbfgldaa
open Go Go.Maps
def sameId (a b : Ft) : Bool := decide (keyS a = keyS b) && decide (a.fr = b.fr) && decide (a.to = b.to)
def stepL (l : List Kp) (i : Nat) : Bool := match l[i]? with
  | some x => factB x.f && decide (0 ≤ x.seq) && (decide (i = 0) || match l[i - 1]? with | some y => decide (y.seq < x.seq) | none => false) && !((l.take i).any fun y => sameId y.f x.f)
  | none => true
def listB (l : List Kp) : Bool := decide (l.length ≤ 300) && (List.range l.length).all (stepL l)
def keysL (l : List Kp) : List Lit := (l.map fun k => idLit k.f).reverse
theorem keyS_size {f : Ft} (hm : mayT f.t = true) : (keyS f).size ≤ 1000 := by
  have h := keyL_len 5 f.t (may_shp hm)
  have h2 := ((mayT_iff f.t).1 hm).2.2
  have e : (keyS f).size = (keyL 5 f.t).length := by simp [keyS, ByteArray.size]
  omega
theorem keyOf_may {f : Ft} (hf : f.wf) (hm : mayT f.t = true) : keyOf Try.prog 148 (idV f) = some (idLit f) := keyOf_ID f (by have := keyS_size hm; simp only [maxLen]; omega) hf.2.1 hf.2.2
theorem idLit_iff {a b : Ft} (ha : a.wf) (hb : b.wf) (ma : mayT a.t = true) (mb : mayT b.t = true) : idLit a = idLit b ↔ sameId a b = true := by
  constructor
  · intro h
    have h1 := keyOf_may ha ma
    rw [h] at h1
    have := kd_facts_ID.inj h1 (keyOf_may hb mb)
    simp only [Value.agg.injEq, Array.mk.injEq, List.cons.injEq, Value.string.injEq, Value.int.injEq, true_and, and_true] at this
    simp [sameId, this.1, this.2.1, this.2.2]
  · intro h
    simp only [sameId, Bool.and_eq_true, decide_eq_true_eq] at h
    rw [idLit, idLit, h.1.1, h.1.2, h.2]
theorem keysL_mem {l : List Kp} {f : Ft} (hw : ∀ k ∈ l, k.wf) (hm : ∀ k ∈ l, mayT k.f.t = true) (hf : f.wf) (mf : mayT f.t = true) : idLit f ∈ keysL l ↔ (l.any fun y => sameId y.f f) = true := by
  rw [keysL, List.mem_reverse, List.mem_map, List.any_eq_true]
  constructor
  · rintro ⟨k, hk, e⟩; exact ⟨k, hk, (idLit_iff (hw k hk).2 hf (hm k hk) mf).1 e⟩
  · rintro ⟨k, hk, e⟩; exact ⟨k, hk, (idLit_iff (hw k hk).2 hf (hm k hk) mf).2 e⟩
theorem stepL_get {l : List Kp} {k : Nat} {x : Kp} (h : l[k]? = some x) : stepL l k = (factB x.f && decide (0 ≤ x.seq) && (decide (k = 0) || match l[k - 1]? with | some y => decide (y.seq < x.seq) | none => false) && !((l.take k).any fun y => sameId y.f x.f)) := by
  rw [stepL, h]
theorem List_ok (l : List Kp) (hw : ∀ k ∈ l, k.wf) : PF 81 [.dat false 7 (kpDs l)] (bv (listB l)) := by
  have hlen := kpDs_length l
  refine AC_intro Try.func81 rfl Try.ntmps81 (Nat.le_of_ble_eq_true rfl) fun c hL hQ hDD => ?_
  refine awp_seq ?_
  refine awp_region ?_
  refine awps_stp0 rfl rfl (by decide) (stp_move (.inr rfl) rfl) ?_
  refine awps_nil ?_
  refine thenQ_nil ?_
  refine awp_seq ?_
  refine awp_seq ?_
  refine awp_region ?_
  refine awps_stp0 rfl rfl (by decide) (stp_move (.inl rfl) rfl) ?_
  first | refine awps_stp0 rfl rfl (by decide) (stp_len_dat rfl sl_S_api_Kept rfl) ?_ | refine awps_stp0 rfl rfl (by decide) (stp_len_rowd rfl sl_S_api_Kept rfl rfl) ?_ | refine awps_stp0 rfl rfl (by decide) (stp_len_nil rfl sl_S_api_Kept rfl) ?_ | refine awps_stp0 rfl rfl (by decide) (stp_len_vw rfl sl_S_api_Kept rfl) ?_
  refine awps_stp0 rfl rfl (by decide) (stp_binI rfl rfl rfl rfl) ?_
  refine awps_nil ?_
  refine thenQ_nil ?_
  refine awp_cond rfl (fun c0 => ?_) (fun c0 => ?_)
  · try simp only [↓str_beq_t, ↓str_beq_f, decide_eq_true_eq, decide_eq_false_iff_not, Bool.not_eq_true', Bool.not_eq_false', Int.not_lt, Int.not_le, beq_iff_eq, beq_eq_false_iff_ne, bne_iff_ne, bne_eq_false_iff_eq, ne_eq] at c0
    refine awp_seq ?_
    refine awp_region ?_
    refine awps_stp0 rfl rfl (by decide) (stp_move (.inr rfl) rfl) ?_
    refine awps_nil ?_
    refine thenQ_nil ?_
    refine awp_ret ?_
    refine thenQ_ret (?_)
    -- leaf 0T
    refine ret0 (noL hL) (.inl rfl) (resAs_tmp rfl (resAs_nil)) ?_ ?_
    · rfl
    refine ⟨bool_w ?_, rfl⟩
    symm
    rw [listB]
    first
      | (rw [decide_eq_false (show ¬ l.length ≤ 300 by omega)]; rfl)
      | (have hst : stepL l k = false := by
           rw [stepL_get hu, hy]
           first | (rw [l19]; rfl) | (rw [c2]; simp; done) | (simp; omega)
         have : (List.range l.length).all (stepL l) = false := List.all_eq_false.2 ⟨k, by simp; omega, by simp [hst]⟩
         rw [this]; simp)
      | (rw [decide_eq_true (show l.length ≤ 300 by omega), List.all_eq_true.2 (fun j hj => hp.2 j (by have := List.mem_range.1 hj; omega))]; rfl)
  try simp only [↓str_beq_t, ↓str_beq_f, decide_eq_true_eq, decide_eq_false_iff_not, Bool.not_eq_true', Bool.not_eq_false', Int.not_lt, Int.not_le, beq_iff_eq, beq_eq_false_iff_ne, bne_iff_ne, bne_eq_false_iff_eq, ne_eq] at c0
  refine awp_skip ?_
  refine thenQ_nil ?_
  refine awp_seq ?_
  refine awp_region ?_
  refine awps_stp1 rfl rfl (by decide) (stp_makeMap 9 rfl (kd_facts_ID)) rfl ?_
  refine awps_stp0 rfl rfl (by decide) (stp_move (.inr rfl) rfl) ?_
  refine awps_nil ?_
  refine thenQ_nil ?_
  refine awp_seq ?_
  refine awp_seq ?_
  refine awp_region ?_
  refine awps_stp0 rfl rfl (by decide) (stp_move (.inl rfl) rfl) ?_
  first | refine awps_stp0 rfl rfl (by decide) (stp_len_dat rfl sl_S_api_Kept rfl) ?_ | refine awps_stp0 rfl rfl (by decide) (stp_len_rowd rfl sl_S_api_Kept rfl rfl) ?_ | refine awps_stp0 rfl rfl (by decide) (stp_len_nil rfl sl_S_api_Kept rfl) ?_ | refine awps_stp0 rfl rfl (by decide) (stp_len_vw rfl sl_S_api_Kept rfl) ?_
  refine awps_stp0 rfl rfl (by decide) (stp_move (.inl rfl) rfl) ?_
  refine awps_nil ?_
  refine thenQ_nil ?_
  refine awp_block ?_
  refine awp_while (l.length) (fun k => k ≤ l.length ∧ ∀ j, j < k → stepL l j = true) (fun k => ⟨[(0, .dat false 7 (kpDs l)), (3, .map 9), (10, .dat false 7 (kpDs l)), (11, iv (kpDs l).length), (12, iv (k : Int))], [(9, .mp Try.prog 148 (keysL (l.take k)))]⟩) (⟨by omega, fun j hj => absurd hj (by omega)⟩) ?_ (fun k hk hp => ?_)
  · exact sub_re (SubT.cons (lk_eq rfl (by first | rfl | simp)) (SubT.cons (lk_eq rfl (by first | rfl | simp)) (SubT.cons (lk_eq rfl (by first | rfl | simp)) (SubT.cons (lk_eq rfl (by first | rfl | simp)) (SubT.cons (lk_eq rfl (by first | rfl | simp)) (SubT.nil)))))) (SubO.cons (ok_eq rfl (by rfl)) (SubO.nil)) rfl rfl (noL' (noL hL) _)
  have hmm : ∀ x ∈ l.take k, mayT x.f.t = true := fun x hx => by
    obtain ⟨j, hj⟩ := List.getElem?_of_mem hx
    rw [List.getElem?_take] at hj
    split at hj
    · rename_i hjk
      have := hp.2 j hjk
      rw [stepL_get hj] at this
      simp only [Bool.and_eq_true] at this
      exact factB_may this.1.1.1
    · cases hj
  have hww : ∀ x ∈ l.take k, x.wf := fun x hx => hw x (List.mem_of_mem_take hx)
  have hkl : (keysL (l.take k)).length ≤ l.length := by simp [keysL]; omega
  refine awp_seq ?_
  refine awp_region ?_
  refine awps_stp0 rfl rfl (by decide) (stp_binI rfl rfl rfl rfl) ?_
  refine awps_nil ?_
  refine thenQ_nil ?_
  refine awp_seq ?_
  refine awp_cond rfl (fun c1 => ?_) (fun c1 => ?_)
  · try simp only [↓str_beq_t, ↓str_beq_f, decide_eq_true_eq, decide_eq_false_iff_not, Bool.not_eq_true', Bool.not_eq_false', Int.not_lt, Int.not_le, beq_iff_eq, beq_eq_false_iff_ne, bne_iff_ne, bne_eq_false_iff_eq, ne_eq] at c1
    obtain ⟨u, hu⟩ := get_of_lt (l := l) (k := k) (by omega)
    have huw := hw u (List.mem_of_getElem? hu)
    have huf := huw.2
    obtain ⟨y, hy⟩ := get_of_lt (l := l) (k := k - 1) (by omega)
    have hy2 : l[((k : Int) - 1).toNat]? = some y := by rw [show ((k : Int) - 1).toNat = k - 1 by omega]; exact hy
    refine awp_skip ?_
    refine thenQ_nil ?_
    refine awp_seq ?_
    refine awp_block ?_
    refine awp_seq ?_
    refine awp_region ?_
    refine awps_stp0 rfl rfl (by decide) (stp_move (.inl rfl) rfl) ?_
    first | refine awps_stp0 rfl rfl (by decide) (stp_indexAddr rfl sl_S_api_Kept rfl rfl (by omega) (kpDs_get hu)) ?_ | refine awps_stp0 rfl rfl (by decide) (stp_indexAddr_rowd rfl sl_S_api_Kept rfl rfl rfl (by omega) (kpDs_get hu)) ?_ | refine awps_stp0 rfl rfl (by decide) (stp_indexAddr_row rfl sl_S_api_Kept rfl rfl rfl (by omega) (kpDs_get hu) (by decide)) ?_
    first | refine awps_stp0 rfl rfl (by decide) (stp_load_all rfl tf_api_Kept rfl rfl rfl rfl) ?_ | refine awps_stp0 rfl rfl (by decide) (stp_load rfl tf_api_Kept rfl rfl rfl rfl rfl) ?_ | refine awps_stp0 rfl rfl (by decide) (stp_load_elpa rfl tf_api_Kept rfl rfl) ?_ | refine awps_stp0 rfl rfl (by decide) (stp_load_elpn rfl tf_api_Kept rfl rfl rfl) ?_
    refine awps_stp1 rfl rfl (by decide) (stp_alloc 5 rfl zv_api_Kept rfl) rfl ?_
    refine awps_stp0 rfl rfl (by decide) (stp_move (.inr rfl) rfl) ?_
    refine awps_store rfl rfl rfl tf_api_Kept rfl rfl rfl rfl rfl rfl rfl rfl rfl ?_
    refine awps_nil ?_
    refine thenQ_nil ?_
    refine awp_seq ?_
    refine awp_seq ?_
    rcases Bool.eq_false_or_eq_true (factB u.f) with l19 | l19
    · have m19 := l19
      try simp only [↓str_beq_t, ↓str_beq_f, decide_eq_true_eq, decide_eq_false_iff_not, Bool.not_eq_true', Bool.not_eq_false', Int.not_lt, Int.not_le, beq_iff_eq, beq_eq_false_iff_ne, bne_iff_ne, bne_eq_false_iff_eq, ne_eq] at m19
      rcases Bool.eq_false_or_eq_true (decide (u.seq < 0)) with l24 | l24
      · have m24 := l24
        try simp only [↓str_beq_t, ↓str_beq_f, decide_eq_true_eq, decide_eq_false_iff_not, Bool.not_eq_true', Bool.not_eq_false', Int.not_lt, Int.not_le, beq_iff_eq, beq_eq_false_iff_ne, bne_iff_ne, bne_eq_false_iff_eq, ne_eq] at m24
        refine awp_drawG 29 mixed rfl rfl rfl rfl ?_
        first | refine MGo_c0 rfl (by decide) (.run rfl (stp_fieldAddr rfl fo_api_Kept_1 rfl)) ?_ | refine MGo_c0 rfl (by decide) (.run rfl (stp_fieldAddr_elp rfl fo_api_Kept_1 rfl)) ?_
        first | refine MGo_c0 rfl (by decide) (.run rfl (stp_load_all rfl tf_api_Fact rfl rfl rfl rfl)) ?_ | refine MGo_c0 rfl (by decide) (.run rfl (stp_load rfl tf_api_Fact rfl rfl rfl rfl rfl)) ?_ | refine MGo_c0 rfl (by decide) (.run rfl (stp_load_elpa rfl tf_api_Fact rfl rfl)) ?_ | refine MGo_c0 rfl (by decide) (.run rfl (stp_load_elpn rfl tf_api_Fact rfl rfl rfl)) ?_
        refine MGo_c0 rfl (by decide) (.run rfl (stp_call (avs := [_]) true rfl en_facts_Is rfl rfl (by have hh := factsIs_ok u.f huf; rw [l19] at hh; exact hh) (fun _ => rfl) rfl)) ?_
        refine MGo_c0 rfl (by decide) (.run rfl (stp_not rfl rfl)) ?_
        refine MGo_c0 rfl (by decide) (.run rfl (stp_move (.inl rfl) rfl)) ?_
        first | refine MGo_c0 rfl (by decide) (.want rfl rfl rfl (by decide) (stp_fieldAddr rfl fo_api_Kept_0 rfl)) ?_ | refine MGo_c0 rfl (by decide) (.want rfl rfl rfl (by decide) (stp_fieldAddr_elp rfl fo_api_Kept_0 rfl)) ?_
        first | refine MGo_c0 rfl (by decide) (.want rfl rfl rfl (by decide) (stp_load rfl tf_int rfl rfl rfl rfl rfl)) ?_ | refine MGo_c0 rfl (by decide) (.want rfl rfl rfl (by decide) (stp_load_elp1 rfl tf_int rfl)) ?_ | refine MGo_c0 rfl (by decide) (.want rfl rfl rfl (by decide) (stp_load_elpn rfl tf_int rfl rfl rfl)) ?_
        refine MGo_c0 rfl (by decide) (.want rfl rfl rfl (by decide) (stp_binI (r := .bool true) rfl rfl rfl (congrArg (fun b => some (Value.bool b)) l24))) ?_
        refine MGo_c0 rfl (by decide) (.run rfl (stp_pick rfl rfl rfl)) ?_
        refine MGo_c0 rfl (by decide) (.run rfl (stp_move (.inl rfl) rfl)) ?_
        refine MGo_c0 rfl (by decide) (.skip rfl rfl rfl (by decide) (by decide)) ?_
        refine MGo_c0 rfl (by decide) (.skip rfl rfl rfl (by decide) (by decide)) ?_
        refine MGo_c0 rfl (by decide) (.skip rfl rfl rfl (by decide) (by decide)) ?_
        refine MGo_c0 rfl (by decide) (.skipu rfl rfl rfl (by decide)) ?_
        refine MGo_c0 rfl (by decide) (.skipu rfl rfl rfl (by decide)) ?_
        refine MGo_c0 rfl (by decide) (.skipu rfl rfl rfl (by decide)) ?_
        refine MGo_c0 rfl (by decide) (.skipu rfl rfl rfl (by decide)) ?_
        refine MGo_c0 rfl (by decide) (.skipu rfl rfl rfl (by decide)) ?_
        refine MGo_c0 rfl (by decide) (.skipu rfl rfl rfl (by decide)) ?_
        refine MGo_c0 rfl (by decide) (.skipu rfl rfl rfl (by decide)) ?_
        refine MGo_c0 rfl (by decide) (.skipu rfl rfl rfl (by decide)) ?_
        refine MGo_c0 rfl (by decide) (.skipu rfl rfl rfl (by decide)) ?_
        refine MGo_c0 rfl (by decide) (.skip rfl rfl rfl (by decide) (by decide)) ?_
        refine MGo_c0 rfl (by decide) (.run rfl (stp_pick rfl rfl rfl)) ?_
        refine MGo_c0 rfl (by decide) (.run rfl (stp_move (.inl rfl) rfl)) ?_
        refine MGo_c0 rfl (by decide) (.skip rfl rfl rfl (by decide) (by decide)) ?_
        refine MGo_c0 rfl (by decide) (.skip rfl rfl rfl (by decide) (by decide)) ?_
        refine MGo_c0 rfl (by decide) (.skip rfl rfl rfl (by decide) (by decide)) ?_
        refine MGo_c0 rfl (by decide) (.skip rfl rfl rfl (by decide) (by decide)) ?_
        refine MGo_nil ⟨rfl, rfl, ?_⟩
        refine awps_gs rfl rfl rfl rfl (by decide) rfl (by decide) ?_
        refine awps_stp0 rfl rfl (by decide) (stp_pick rfl rfl rfl) ?_
        refine awps_nil ?_
        refine thenQ_nil ?_
        refine awp_condT rfl ?_
        refine awp_seq ?_
        refine awp_region ?_
        refine awps_stp0 rfl rfl (by decide) (stp_move (.inr rfl) rfl) ?_
        refine awps_nil ?_
        refine thenQ_nil ?_
        refine awp_ret ?_
        refine thenQ_ret (inQ_ret (thenQ_ret (thenQ_ret (inQ_ret (thenQ_ret (?_))))))
        -- leaf 0F1Tl19Tl24T
        refine ret0 (noL hL) (.inl rfl) (resAs_tmp rfl (resAs_nil)) ?_ ?_
        · rfl
        refine ⟨bool_w ?_, rfl⟩
        symm
        rw [listB]
        first
          | (rw [decide_eq_false (show ¬ l.length ≤ 300 by omega)]; rfl)
          | (have hst : stepL l k = false := by
               rw [stepL_get hu, hy]
               first | (rw [l19]; rfl) | (rw [c2]; simp; done) | (simp; omega)
             have : (List.range l.length).all (stepL l) = false := List.all_eq_false.2 ⟨k, by simp; omega, by simp [hst]⟩
             rw [this]; simp)
          | (rw [decide_eq_true (show l.length ≤ 300 by omega), List.all_eq_true.2 (fun j hj => hp.2 j (by have := List.mem_range.1 hj; omega))]; rfl)
      have m24 := l24
      try simp only [↓str_beq_t, ↓str_beq_f, decide_eq_true_eq, decide_eq_false_iff_not, Bool.not_eq_true', Bool.not_eq_false', Int.not_lt, Int.not_le, beq_iff_eq, beq_eq_false_iff_ne, bne_iff_ne, bne_eq_false_iff_eq, ne_eq] at m24
      rcases Bool.eq_false_or_eq_true (decide ((k : Int) > 0)) with l28 | l28
      · have m28 := l28
        try simp only [↓str_beq_t, ↓str_beq_f, decide_eq_true_eq, decide_eq_false_iff_not, Bool.not_eq_true', Bool.not_eq_false', Int.not_lt, Int.not_le, beq_iff_eq, beq_eq_false_iff_ne, bne_iff_ne, bne_eq_false_iff_eq, ne_eq] at m28
        rcases Bool.eq_false_or_eq_true (decide (u.seq ≤ y.seq)) with l38 | l38
        · have m38 := l38
          try simp only [↓str_beq_t, ↓str_beq_f, decide_eq_true_eq, decide_eq_false_iff_not, Bool.not_eq_true', Bool.not_eq_false', Int.not_lt, Int.not_le, beq_iff_eq, beq_eq_false_iff_ne, bne_iff_ne, bne_eq_false_iff_eq, ne_eq] at m38
          refine awp_drawG 29 mixed rfl rfl rfl rfl ?_
          first | refine MGo_c0 rfl (by decide) (.run rfl (stp_fieldAddr rfl fo_api_Kept_1 rfl)) ?_ | refine MGo_c0 rfl (by decide) (.run rfl (stp_fieldAddr_elp rfl fo_api_Kept_1 rfl)) ?_
          first | refine MGo_c0 rfl (by decide) (.run rfl (stp_load_all rfl tf_api_Fact rfl rfl rfl rfl)) ?_ | refine MGo_c0 rfl (by decide) (.run rfl (stp_load rfl tf_api_Fact rfl rfl rfl rfl rfl)) ?_ | refine MGo_c0 rfl (by decide) (.run rfl (stp_load_elpa rfl tf_api_Fact rfl rfl)) ?_ | refine MGo_c0 rfl (by decide) (.run rfl (stp_load_elpn rfl tf_api_Fact rfl rfl rfl)) ?_
          refine MGo_c0 rfl (by decide) (.run rfl (stp_call (avs := [_]) true rfl en_facts_Is rfl rfl (by have hh := factsIs_ok u.f huf; rw [l19] at hh; exact hh) (fun _ => rfl) rfl)) ?_
          refine MGo_c0 rfl (by decide) (.run rfl (stp_not rfl rfl)) ?_
          refine MGo_c0 rfl (by decide) (.run rfl (stp_move (.inl rfl) rfl)) ?_
          first | refine MGo_c0 rfl (by decide) (.want rfl rfl rfl (by decide) (stp_fieldAddr rfl fo_api_Kept_0 rfl)) ?_ | refine MGo_c0 rfl (by decide) (.want rfl rfl rfl (by decide) (stp_fieldAddr_elp rfl fo_api_Kept_0 rfl)) ?_
          first | refine MGo_c0 rfl (by decide) (.want rfl rfl rfl (by decide) (stp_load rfl tf_int rfl rfl rfl rfl rfl)) ?_ | refine MGo_c0 rfl (by decide) (.want rfl rfl rfl (by decide) (stp_load_elp1 rfl tf_int rfl)) ?_ | refine MGo_c0 rfl (by decide) (.want rfl rfl rfl (by decide) (stp_load_elpn rfl tf_int rfl rfl rfl)) ?_
          refine MGo_c0 rfl (by decide) (.want rfl rfl rfl (by decide) (stp_binI (r := .bool false) rfl rfl rfl (congrArg (fun b => some (Value.bool b)) l24))) ?_
          refine MGo_c0 rfl (by decide) (.run rfl (stp_pick rfl rfl rfl)) ?_
          refine MGo_c0 rfl (by decide) (.run rfl (stp_move (.inl rfl) rfl)) ?_
          refine MGo_c0 rfl (by decide) (.want rfl rfl rfl (by decide) (stp_move (.inl rfl) rfl)) ?_
          refine MGo_c0 rfl (by decide) (.want rfl rfl rfl (by decide) (stp_binI (r := .bool true) rfl rfl rfl (congrArg (fun b => some (Value.bool b)) l28))) ?_
          refine MGo_c0 rfl (by decide) (.want rfl rfl rfl (by decide) (stp_move (.inl rfl) rfl)) ?_
          first | refine MGo_c0 rfl (by decide) (.want rfl rfl rfl (by decide) (stp_fieldAddr rfl fo_api_Kept_0 rfl)) ?_ | refine MGo_c0 rfl (by decide) (.want rfl rfl rfl (by decide) (stp_fieldAddr_elp rfl fo_api_Kept_0 rfl)) ?_
          first | refine MGo_c0 rfl (by decide) (.want rfl rfl rfl (by decide) (stp_load rfl tf_int rfl rfl rfl rfl rfl)) ?_ | refine MGo_c0 rfl (by decide) (.want rfl rfl rfl (by decide) (stp_load_elp1 rfl tf_int rfl)) ?_ | refine MGo_c0 rfl (by decide) (.want rfl rfl rfl (by decide) (stp_load_elpn rfl tf_int rfl rfl rfl)) ?_
          refine MGo_c0 rfl (by decide) (.want rfl rfl rfl (by decide) (stp_move (.inl rfl) rfl)) ?_
          refine MGo_c0 rfl (by decide) (.want rfl rfl rfl (by decide) (stp_move (.inl rfl) rfl)) ?_
          refine MGo_c0 rfl (by decide) (.want rfl rfl rfl (by decide) (stp_sub rfl rfl rfl (by omega))) ?_
          first | refine MGo_c0 rfl (by decide) (.want rfl rfl rfl (by decide) (stp_indexAddr rfl sl_S_api_Kept rfl rfl (by omega) (kpDs_get hy2))) ?_ | refine MGo_c0 rfl (by decide) (.want rfl rfl rfl (by decide) (stp_indexAddr_rowd rfl sl_S_api_Kept rfl rfl rfl (by omega) (kpDs_get hy2))) ?_ | refine MGo_c0 rfl (by decide) (.want rfl rfl rfl (by decide) (stp_indexAddr_row rfl sl_S_api_Kept rfl rfl rfl (by omega) (kpDs_get hy2) (by decide))) ?_
          first | refine MGo_c0 rfl (by decide) (.want rfl rfl rfl (by decide) (stp_fieldAddr rfl fo_api_Kept_0 rfl)) ?_ | refine MGo_c0 rfl (by decide) (.want rfl rfl rfl (by decide) (stp_fieldAddr_elp rfl fo_api_Kept_0 rfl)) ?_
          first | refine MGo_c0 rfl (by decide) (.want rfl rfl rfl (by decide) (stp_load rfl tf_int rfl rfl rfl rfl rfl)) ?_ | refine MGo_c0 rfl (by decide) (.want rfl rfl rfl (by decide) (stp_load_elp1 rfl tf_int rfl)) ?_ | refine MGo_c0 rfl (by decide) (.want rfl rfl rfl (by decide) (stp_load_elpn rfl tf_int rfl rfl rfl)) ?_
          refine MGo_c0 rfl (by decide) (.want rfl rfl rfl (by decide) (stp_binI (r := .bool true) rfl rfl rfl (congrArg (fun b => some (Value.bool b)) l38))) ?_
          refine MGo_c0 rfl (by decide) (.want rfl rfl rfl (by decide) (stp_pick rfl rfl rfl)) ?_
          refine MGo_c0 rfl (by decide) (.run rfl (stp_pick rfl rfl rfl)) ?_
          refine MGo_c0 rfl (by decide) (.run rfl (stp_move (.inl rfl) rfl)) ?_
          refine MGo_c0 rfl (by decide) (.skip rfl rfl rfl (by decide) (by decide)) ?_
          refine MGo_c0 rfl (by decide) (.skip rfl rfl rfl (by decide) (by decide)) ?_
          refine MGo_c0 rfl (by decide) (.skip rfl rfl rfl (by decide) (by decide)) ?_
          refine MGo_c0 rfl (by decide) (.skip rfl rfl rfl (by decide) (by decide)) ?_
          refine MGo_nil ⟨rfl, rfl, ?_⟩
          refine awps_gs rfl rfl rfl rfl (by decide) rfl (by decide) ?_
          refine awps_stp0 rfl rfl (by decide) (stp_pick rfl rfl rfl) ?_
          refine awps_nil ?_
          refine thenQ_nil ?_
          refine awp_condT rfl ?_
          refine awp_seq ?_
          refine awp_region ?_
          refine awps_stp0 rfl rfl (by decide) (stp_move (.inr rfl) rfl) ?_
          refine awps_nil ?_
          refine thenQ_nil ?_
          refine awp_ret ?_
          refine thenQ_ret (inQ_ret (thenQ_ret (thenQ_ret (inQ_ret (thenQ_ret (?_))))))
          -- leaf 0F1Tl19Tl24Fl28Tl38T
          refine ret0 (noL hL) (.inl rfl) (resAs_tmp rfl (resAs_nil)) ?_ ?_
          · rfl
          refine ⟨bool_w ?_, rfl⟩
          symm
          rw [listB]
          first
            | (rw [decide_eq_false (show ¬ l.length ≤ 300 by omega)]; rfl)
            | (have hst : stepL l k = false := by
                 rw [stepL_get hu, hy]
                 first | (rw [l19]; rfl) | (rw [c2]; simp; done) | (simp; omega)
               have : (List.range l.length).all (stepL l) = false := List.all_eq_false.2 ⟨k, by simp; omega, by simp [hst]⟩
               rw [this]; simp)
            | (rw [decide_eq_true (show l.length ≤ 300 by omega), List.all_eq_true.2 (fun j hj => hp.2 j (by have := List.mem_range.1 hj; omega))]; rfl)
        have m38 := l38
        try simp only [↓str_beq_t, ↓str_beq_f, decide_eq_true_eq, decide_eq_false_iff_not, Bool.not_eq_true', Bool.not_eq_false', Int.not_lt, Int.not_le, beq_iff_eq, beq_eq_false_iff_ne, bne_iff_ne, bne_eq_false_iff_eq, ne_eq] at m38
        refine awp_drawG 29 mixed rfl rfl rfl rfl ?_
        first | refine MGo_c0 rfl (by decide) (.run rfl (stp_fieldAddr rfl fo_api_Kept_1 rfl)) ?_ | refine MGo_c0 rfl (by decide) (.run rfl (stp_fieldAddr_elp rfl fo_api_Kept_1 rfl)) ?_
        first | refine MGo_c0 rfl (by decide) (.run rfl (stp_load_all rfl tf_api_Fact rfl rfl rfl rfl)) ?_ | refine MGo_c0 rfl (by decide) (.run rfl (stp_load rfl tf_api_Fact rfl rfl rfl rfl rfl)) ?_ | refine MGo_c0 rfl (by decide) (.run rfl (stp_load_elpa rfl tf_api_Fact rfl rfl)) ?_ | refine MGo_c0 rfl (by decide) (.run rfl (stp_load_elpn rfl tf_api_Fact rfl rfl rfl)) ?_
        refine MGo_c0 rfl (by decide) (.run rfl (stp_call (avs := [_]) true rfl en_facts_Is rfl rfl (by have hh := factsIs_ok u.f huf; rw [l19] at hh; exact hh) (fun _ => rfl) rfl)) ?_
        refine MGo_c0 rfl (by decide) (.run rfl (stp_not rfl rfl)) ?_
        refine MGo_c0 rfl (by decide) (.run rfl (stp_move (.inl rfl) rfl)) ?_
        first | refine MGo_c0 rfl (by decide) (.want rfl rfl rfl (by decide) (stp_fieldAddr rfl fo_api_Kept_0 rfl)) ?_ | refine MGo_c0 rfl (by decide) (.want rfl rfl rfl (by decide) (stp_fieldAddr_elp rfl fo_api_Kept_0 rfl)) ?_
        first | refine MGo_c0 rfl (by decide) (.want rfl rfl rfl (by decide) (stp_load rfl tf_int rfl rfl rfl rfl rfl)) ?_ | refine MGo_c0 rfl (by decide) (.want rfl rfl rfl (by decide) (stp_load_elp1 rfl tf_int rfl)) ?_ | refine MGo_c0 rfl (by decide) (.want rfl rfl rfl (by decide) (stp_load_elpn rfl tf_int rfl rfl rfl)) ?_
        refine MGo_c0 rfl (by decide) (.want rfl rfl rfl (by decide) (stp_binI (r := .bool false) rfl rfl rfl (congrArg (fun b => some (Value.bool b)) l24))) ?_
        refine MGo_c0 rfl (by decide) (.run rfl (stp_pick rfl rfl rfl)) ?_
        refine MGo_c0 rfl (by decide) (.run rfl (stp_move (.inl rfl) rfl)) ?_
        refine MGo_c0 rfl (by decide) (.want rfl rfl rfl (by decide) (stp_move (.inl rfl) rfl)) ?_
        refine MGo_c0 rfl (by decide) (.want rfl rfl rfl (by decide) (stp_binI (r := .bool true) rfl rfl rfl (congrArg (fun b => some (Value.bool b)) l28))) ?_
        refine MGo_c0 rfl (by decide) (.want rfl rfl rfl (by decide) (stp_move (.inl rfl) rfl)) ?_
        first | refine MGo_c0 rfl (by decide) (.want rfl rfl rfl (by decide) (stp_fieldAddr rfl fo_api_Kept_0 rfl)) ?_ | refine MGo_c0 rfl (by decide) (.want rfl rfl rfl (by decide) (stp_fieldAddr_elp rfl fo_api_Kept_0 rfl)) ?_
        first | refine MGo_c0 rfl (by decide) (.want rfl rfl rfl (by decide) (stp_load rfl tf_int rfl rfl rfl rfl rfl)) ?_ | refine MGo_c0 rfl (by decide) (.want rfl rfl rfl (by decide) (stp_load_elp1 rfl tf_int rfl)) ?_ | refine MGo_c0 rfl (by decide) (.want rfl rfl rfl (by decide) (stp_load_elpn rfl tf_int rfl rfl rfl)) ?_
        refine MGo_c0 rfl (by decide) (.want rfl rfl rfl (by decide) (stp_move (.inl rfl) rfl)) ?_
        refine MGo_c0 rfl (by decide) (.want rfl rfl rfl (by decide) (stp_move (.inl rfl) rfl)) ?_
        refine MGo_c0 rfl (by decide) (.want rfl rfl rfl (by decide) (stp_sub rfl rfl rfl (by omega))) ?_
        first | refine MGo_c0 rfl (by decide) (.want rfl rfl rfl (by decide) (stp_indexAddr rfl sl_S_api_Kept rfl rfl (by omega) (kpDs_get hy2))) ?_ | refine MGo_c0 rfl (by decide) (.want rfl rfl rfl (by decide) (stp_indexAddr_rowd rfl sl_S_api_Kept rfl rfl rfl (by omega) (kpDs_get hy2))) ?_ | refine MGo_c0 rfl (by decide) (.want rfl rfl rfl (by decide) (stp_indexAddr_row rfl sl_S_api_Kept rfl rfl rfl (by omega) (kpDs_get hy2) (by decide))) ?_
        first | refine MGo_c0 rfl (by decide) (.want rfl rfl rfl (by decide) (stp_fieldAddr rfl fo_api_Kept_0 rfl)) ?_ | refine MGo_c0 rfl (by decide) (.want rfl rfl rfl (by decide) (stp_fieldAddr_elp rfl fo_api_Kept_0 rfl)) ?_
        first | refine MGo_c0 rfl (by decide) (.want rfl rfl rfl (by decide) (stp_load rfl tf_int rfl rfl rfl rfl rfl)) ?_ | refine MGo_c0 rfl (by decide) (.want rfl rfl rfl (by decide) (stp_load_elp1 rfl tf_int rfl)) ?_ | refine MGo_c0 rfl (by decide) (.want rfl rfl rfl (by decide) (stp_load_elpn rfl tf_int rfl rfl rfl)) ?_
        refine MGo_c0 rfl (by decide) (.want rfl rfl rfl (by decide) (stp_binI (r := .bool false) rfl rfl rfl (congrArg (fun b => some (Value.bool b)) l38))) ?_
        refine MGo_c0 rfl (by decide) (.want rfl rfl rfl (by decide) (stp_pick rfl rfl rfl)) ?_
        refine MGo_c0 rfl (by decide) (.run rfl (stp_pick rfl rfl rfl)) ?_
        refine MGo_c0 rfl (by decide) (.run rfl (stp_move (.inl rfl) rfl)) ?_
        refine MGo_c0 rfl (by decide) (.want rfl rfl rfl (by decide) (stp_move (.inl rfl) rfl)) ?_
        first | refine MGo_c0 rfl (by decide) (.want rfl rfl rfl (by decide) (stp_fieldAddr rfl fo_api_Kept_1 rfl)) ?_ | refine MGo_c0 rfl (by decide) (.want rfl rfl rfl (by decide) (stp_fieldAddr_elp rfl fo_api_Kept_1 rfl)) ?_
        first | refine MGo_c0 rfl (by decide) (.want rfl rfl rfl (by decide) (stp_load_all rfl tf_api_Fact rfl rfl rfl rfl)) ?_ | refine MGo_c0 rfl (by decide) (.want rfl rfl rfl (by decide) (stp_load rfl tf_api_Fact rfl rfl rfl rfl rfl)) ?_ | refine MGo_c0 rfl (by decide) (.want rfl rfl rfl (by decide) (stp_load_elpa rfl tf_api_Fact rfl rfl)) ?_ | refine MGo_c0 rfl (by decide) (.want rfl rfl rfl (by decide) (stp_load_elpn rfl tf_api_Fact rfl rfl rfl)) ?_
        refine MGo_c0 rfl (by decide) (.want rfl rfl rfl (by decide) (stp_call (avs := [_]) true rfl en_facts_Of rfl rfl (Of_ok u.f huf (factB_may (by assumption))) (fun _ => rfl) rfl)) ?_
        refine MGo_nil ⟨rfl, rfl, ?_⟩
        refine awps_g0 rfl rfl rfl (by decide) rfl (by decide) (stp_mapGet rfl um_map_facts_ID_bool Try.zeroValue4 rfl rfl rfl rfl (keyOf_may huf (factB_may (by assumption))) ((keysL_mem hww hmm huf (factB_may (by assumption))).symm)) ?_
        refine awps_stp0 rfl rfl (by decide) (stp_pick rfl rfl rfl) ?_
        refine awps_nil ?_
        refine thenQ_nil ?_
        refine awp_cond rfl (fun c2 => ?_) (fun c2 => ?_)
        · try simp only [↓str_beq_t, ↓str_beq_f, decide_eq_true_eq, decide_eq_false_iff_not, Bool.not_eq_true', Bool.not_eq_false', Int.not_lt, Int.not_le, beq_iff_eq, beq_eq_false_iff_ne, bne_iff_ne, bne_eq_false_iff_eq, ne_eq] at c2
          refine awp_seq ?_
          refine awp_region ?_
          refine awps_stp0 rfl rfl (by decide) (stp_move (.inr rfl) rfl) ?_
          refine awps_nil ?_
          refine thenQ_nil ?_
          refine awp_ret ?_
          refine thenQ_ret (inQ_ret (thenQ_ret (thenQ_ret (inQ_ret (thenQ_ret (?_))))))
          -- leaf 0F1Tl19Tl24Fl28Tl38F2T
          refine ret0 (noL hL) (.inl rfl) (resAs_tmp rfl (resAs_nil)) ?_ ?_
          · rfl
          refine ⟨bool_w ?_, rfl⟩
          symm
          rw [listB]
          first
            | (rw [decide_eq_false (show ¬ l.length ≤ 300 by omega)]; rfl)
            | (have hst : stepL l k = false := by
                 rw [stepL_get hu, hy]
                 first | (rw [l19]; rfl) | (rw [c2]; simp; done) | (simp; omega)
               have : (List.range l.length).all (stepL l) = false := List.all_eq_false.2 ⟨k, by simp; omega, by simp [hst]⟩
               rw [this]; simp)
            | (rw [decide_eq_true (show l.length ≤ 300 by omega), List.all_eq_true.2 (fun j hj => hp.2 j (by have := List.mem_range.1 hj; omega))]; rfl)
        try simp only [↓str_beq_t, ↓str_beq_f, decide_eq_true_eq, decide_eq_false_iff_not, Bool.not_eq_true', Bool.not_eq_false', Int.not_lt, Int.not_le, beq_iff_eq, beq_eq_false_iff_ne, bne_iff_ne, bne_eq_false_iff_eq, ne_eq] at c2
        refine awp_skip ?_
        refine thenQ_nil ?_
        refine awp_region ?_
        refine awps_stp0 rfl rfl (by decide) (stp_move (.inl rfl) rfl) ?_
        first | refine awps_stp0 rfl rfl (by decide) (stp_fieldAddr rfl fo_api_Kept_1 rfl) ?_ | refine awps_stp0 rfl rfl (by decide) (stp_fieldAddr_elp rfl fo_api_Kept_1 rfl) ?_
        first | refine awps_stp0 rfl rfl (by decide) (stp_load_all rfl tf_api_Fact rfl rfl rfl rfl) ?_ | refine awps_stp0 rfl rfl (by decide) (stp_load rfl tf_api_Fact rfl rfl rfl rfl rfl) ?_ | refine awps_stp0 rfl rfl (by decide) (stp_load_elpa rfl tf_api_Fact rfl rfl) ?_ | refine awps_stp0 rfl rfl (by decide) (stp_load_elpn rfl tf_api_Fact rfl rfl rfl) ?_
        refine awps_call (avs := [_]) true rfl rfl rfl (by decide) en_facts_Of rfl rfl (Of_ok u.f huf (factB_may (by assumption))) rfl rfl ?_
        refine awps_mapSet rfl rfl rfl um_map_facts_ID_bool rfl rfl rfl rfl rfl (keyOf_may huf (factB_may (by assumption))) (by simp only [maxLen]; omega) ?_
        refine awps_nil ?_
        refine inQ_nil ?_
        refine thenQ_nil ?_
        refine awp_region ?_
        refine awps_stp0 rfl rfl (by decide) (stp_add rfl rfl rfl (by omega)) ?_
        refine awps_stp0 rfl rfl (by decide) (stp_move (.inl rfl) rfl) ?_
        refine awps_nil ?_
        refine thenQ_nil ?_
        refine ⟨?_, ?_, ?_⟩
        · skip
          omega
        · skip
          refine ⟨by omega, fun j hj => ?_⟩
          by_cases hjk : j < k
          · exact hp.2 j hjk
          · rw [show j = k by omega, stepL_get hu, l19, hy, c2]
            simp; omega
        exact sub_re (SubT.cons (lk_eq rfl (by first | rfl | simp)) (SubT.cons (lk_eq rfl (by first | rfl | simp)) (SubT.cons (lk_eq rfl (by first | rfl | simp)) (SubT.cons (lk_eq rfl (by first | rfl | simp)) (SubT.cons (lk_eq rfl (by first | rfl | simp)) (SubT.nil)))))) (SubO.cons (ok_eq rfl (by rw [take_snoc hu]; simp [keysL, Ob.rn])) (SubO.nil)) rfl rfl (noL' (noL hL) _)
      have m28 := l28
      try simp only [↓str_beq_t, ↓str_beq_f, decide_eq_true_eq, decide_eq_false_iff_not, Bool.not_eq_true', Bool.not_eq_false', Int.not_lt, Int.not_le, beq_iff_eq, beq_eq_false_iff_ne, bne_iff_ne, bne_eq_false_iff_eq, ne_eq] at m28
      refine awp_drawG 29 mixed rfl rfl rfl rfl ?_
      first | refine MGo_c0 rfl (by decide) (.run rfl (stp_fieldAddr rfl fo_api_Kept_1 rfl)) ?_ | refine MGo_c0 rfl (by decide) (.run rfl (stp_fieldAddr_elp rfl fo_api_Kept_1 rfl)) ?_
      first | refine MGo_c0 rfl (by decide) (.run rfl (stp_load_all rfl tf_api_Fact rfl rfl rfl rfl)) ?_ | refine MGo_c0 rfl (by decide) (.run rfl (stp_load rfl tf_api_Fact rfl rfl rfl rfl rfl)) ?_ | refine MGo_c0 rfl (by decide) (.run rfl (stp_load_elpa rfl tf_api_Fact rfl rfl)) ?_ | refine MGo_c0 rfl (by decide) (.run rfl (stp_load_elpn rfl tf_api_Fact rfl rfl rfl)) ?_
      refine MGo_c0 rfl (by decide) (.run rfl (stp_call (avs := [_]) true rfl en_facts_Is rfl rfl (by have hh := factsIs_ok u.f huf; rw [l19] at hh; exact hh) (fun _ => rfl) rfl)) ?_
      refine MGo_c0 rfl (by decide) (.run rfl (stp_not rfl rfl)) ?_
      refine MGo_c0 rfl (by decide) (.run rfl (stp_move (.inl rfl) rfl)) ?_
      first | refine MGo_c0 rfl (by decide) (.want rfl rfl rfl (by decide) (stp_fieldAddr rfl fo_api_Kept_0 rfl)) ?_ | refine MGo_c0 rfl (by decide) (.want rfl rfl rfl (by decide) (stp_fieldAddr_elp rfl fo_api_Kept_0 rfl)) ?_
      first | refine MGo_c0 rfl (by decide) (.want rfl rfl rfl (by decide) (stp_load rfl tf_int rfl rfl rfl rfl rfl)) ?_ | refine MGo_c0 rfl (by decide) (.want rfl rfl rfl (by decide) (stp_load_elp1 rfl tf_int rfl)) ?_ | refine MGo_c0 rfl (by decide) (.want rfl rfl rfl (by decide) (stp_load_elpn rfl tf_int rfl rfl rfl)) ?_
      refine MGo_c0 rfl (by decide) (.want rfl rfl rfl (by decide) (stp_binI (r := .bool false) rfl rfl rfl (congrArg (fun b => some (Value.bool b)) l24))) ?_
      refine MGo_c0 rfl (by decide) (.run rfl (stp_pick rfl rfl rfl)) ?_
      refine MGo_c0 rfl (by decide) (.run rfl (stp_move (.inl rfl) rfl)) ?_
      refine MGo_c0 rfl (by decide) (.want rfl rfl rfl (by decide) (stp_move (.inl rfl) rfl)) ?_
      refine MGo_c0 rfl (by decide) (.want rfl rfl rfl (by decide) (stp_binI (r := .bool false) rfl rfl rfl (congrArg (fun b => some (Value.bool b)) l28))) ?_
      refine MGo_c0 rfl (by decide) (.want rfl rfl rfl (by decide) (stp_move (.inl rfl) rfl)) ?_
      refine MGo_c0 rfl (by decide) (.skip rfl rfl rfl (by decide) (by decide)) ?_
      refine MGo_c0 rfl (by decide) (.skip rfl rfl rfl (by decide) (by decide)) ?_
      refine MGo_c0 rfl (by decide) (.skip rfl rfl rfl (by decide) (by decide)) ?_
      refine MGo_c0 rfl (by decide) (.skip rfl rfl rfl (by decide) (by decide)) ?_
      refine MGo_c0 rfl (by decide) (.skip rfl rfl rfl (by decide) (by decide)) ?_
      refine MGo_c0 rfl (by decide) (.skip rfl rfl rfl (by decide) (by decide)) ?_
      refine MGo_c0 rfl (by decide) (.skip rfl rfl rfl (by decide) (by decide)) ?_
      refine MGo_c0 rfl (by decide) (.skip rfl rfl rfl (by decide) (by decide)) ?_
      refine MGo_c0 rfl (by decide) (.skip rfl rfl rfl (by decide) (by decide)) ?_
      refine MGo_c0 rfl (by decide) (.want rfl rfl rfl (by decide) (stp_pick rfl rfl rfl)) ?_
      refine MGo_c0 rfl (by decide) (.run rfl (stp_pick rfl rfl rfl)) ?_
      refine MGo_c0 rfl (by decide) (.run rfl (stp_move (.inl rfl) rfl)) ?_
      refine MGo_c0 rfl (by decide) (.want rfl rfl rfl (by decide) (stp_move (.inl rfl) rfl)) ?_
      first | refine MGo_c0 rfl (by decide) (.want rfl rfl rfl (by decide) (stp_fieldAddr rfl fo_api_Kept_1 rfl)) ?_ | refine MGo_c0 rfl (by decide) (.want rfl rfl rfl (by decide) (stp_fieldAddr_elp rfl fo_api_Kept_1 rfl)) ?_
      first | refine MGo_c0 rfl (by decide) (.want rfl rfl rfl (by decide) (stp_load_all rfl tf_api_Fact rfl rfl rfl rfl)) ?_ | refine MGo_c0 rfl (by decide) (.want rfl rfl rfl (by decide) (stp_load rfl tf_api_Fact rfl rfl rfl rfl rfl)) ?_ | refine MGo_c0 rfl (by decide) (.want rfl rfl rfl (by decide) (stp_load_elpa rfl tf_api_Fact rfl rfl)) ?_ | refine MGo_c0 rfl (by decide) (.want rfl rfl rfl (by decide) (stp_load_elpn rfl tf_api_Fact rfl rfl rfl)) ?_
      refine MGo_c0 rfl (by decide) (.want rfl rfl rfl (by decide) (stp_call (avs := [_]) true rfl en_facts_Of rfl rfl (Of_ok u.f huf (factB_may (by assumption))) (fun _ => rfl) rfl)) ?_
      refine MGo_nil ⟨rfl, rfl, ?_⟩
      refine awps_g0 rfl rfl rfl (by decide) rfl (by decide) (stp_mapGet rfl um_map_facts_ID_bool Try.zeroValue4 rfl rfl rfl rfl (keyOf_may huf (factB_may (by assumption))) ((keysL_mem hww hmm huf (factB_may (by assumption))).symm)) ?_
      refine awps_stp0 rfl rfl (by decide) (stp_pick rfl rfl rfl) ?_
      refine awps_nil ?_
      refine thenQ_nil ?_
      refine awp_cond rfl (fun c2 => ?_) (fun c2 => ?_)
      · try simp only [↓str_beq_t, ↓str_beq_f, decide_eq_true_eq, decide_eq_false_iff_not, Bool.not_eq_true', Bool.not_eq_false', Int.not_lt, Int.not_le, beq_iff_eq, beq_eq_false_iff_ne, bne_iff_ne, bne_eq_false_iff_eq, ne_eq] at c2
        refine awp_seq ?_
        refine awp_region ?_
        refine awps_stp0 rfl rfl (by decide) (stp_move (.inr rfl) rfl) ?_
        refine awps_nil ?_
        refine thenQ_nil ?_
        refine awp_ret ?_
        refine thenQ_ret (inQ_ret (thenQ_ret (thenQ_ret (inQ_ret (thenQ_ret (?_))))))
        -- leaf 0F1Tl19Tl24Fl28F2T
        refine ret0 (noL hL) (.inl rfl) (resAs_tmp rfl (resAs_nil)) ?_ ?_
        · rfl
        refine ⟨bool_w ?_, rfl⟩
        symm
        rw [listB]
        first
          | (rw [decide_eq_false (show ¬ l.length ≤ 300 by omega)]; rfl)
          | (have hst : stepL l k = false := by
               rw [stepL_get hu, hy]
               first | (rw [l19]; rfl) | (rw [c2]; simp; done) | (simp; omega)
             have : (List.range l.length).all (stepL l) = false := List.all_eq_false.2 ⟨k, by simp; omega, by simp [hst]⟩
             rw [this]; simp)
          | (rw [decide_eq_true (show l.length ≤ 300 by omega), List.all_eq_true.2 (fun j hj => hp.2 j (by have := List.mem_range.1 hj; omega))]; rfl)
      try simp only [↓str_beq_t, ↓str_beq_f, decide_eq_true_eq, decide_eq_false_iff_not, Bool.not_eq_true', Bool.not_eq_false', Int.not_lt, Int.not_le, beq_iff_eq, beq_eq_false_iff_ne, bne_iff_ne, bne_eq_false_iff_eq, ne_eq] at c2
      refine awp_skip ?_
      refine thenQ_nil ?_
      refine awp_region ?_
      refine awps_stp0 rfl rfl (by decide) (stp_move (.inl rfl) rfl) ?_
      first | refine awps_stp0 rfl rfl (by decide) (stp_fieldAddr rfl fo_api_Kept_1 rfl) ?_ | refine awps_stp0 rfl rfl (by decide) (stp_fieldAddr_elp rfl fo_api_Kept_1 rfl) ?_
      first | refine awps_stp0 rfl rfl (by decide) (stp_load_all rfl tf_api_Fact rfl rfl rfl rfl) ?_ | refine awps_stp0 rfl rfl (by decide) (stp_load rfl tf_api_Fact rfl rfl rfl rfl rfl) ?_ | refine awps_stp0 rfl rfl (by decide) (stp_load_elpa rfl tf_api_Fact rfl rfl) ?_ | refine awps_stp0 rfl rfl (by decide) (stp_load_elpn rfl tf_api_Fact rfl rfl rfl) ?_
      refine awps_call (avs := [_]) true rfl rfl rfl (by decide) en_facts_Of rfl rfl (Of_ok u.f huf (factB_may (by assumption))) rfl rfl ?_
      refine awps_mapSet rfl rfl rfl um_map_facts_ID_bool rfl rfl rfl rfl rfl (keyOf_may huf (factB_may (by assumption))) (by simp only [maxLen]; omega) ?_
      refine awps_nil ?_
      refine inQ_nil ?_
      refine thenQ_nil ?_
      refine awp_region ?_
      refine awps_stp0 rfl rfl (by decide) (stp_add rfl rfl rfl (by omega)) ?_
      refine awps_stp0 rfl rfl (by decide) (stp_move (.inl rfl) rfl) ?_
      refine awps_nil ?_
      refine thenQ_nil ?_
      refine ⟨?_, ?_, ?_⟩
      · skip
        omega
      · skip
        refine ⟨by omega, fun j hj => ?_⟩
        by_cases hjk : j < k
        · exact hp.2 j hjk
        · rw [show j = k by omega, stepL_get hu, l19, hy, c2]
          simp; omega
      exact sub_re (SubT.cons (lk_eq rfl (by first | rfl | simp)) (SubT.cons (lk_eq rfl (by first | rfl | simp)) (SubT.cons (lk_eq rfl (by first | rfl | simp)) (SubT.cons (lk_eq rfl (by first | rfl | simp)) (SubT.cons (lk_eq rfl (by first | rfl | simp)) (SubT.nil)))))) (SubO.cons (ok_eq rfl (by rw [take_snoc hu]; simp [keysL, Ob.rn])) (SubO.nil)) rfl rfl (noL' (noL hL) _)
    have m19 := l19
    try simp only [↓str_beq_t, ↓str_beq_f, decide_eq_true_eq, decide_eq_false_iff_not, Bool.not_eq_true', Bool.not_eq_false', Int.not_lt, Int.not_le, beq_iff_eq, beq_eq_false_iff_ne, bne_iff_ne, bne_eq_false_iff_eq, ne_eq] at m19
    refine awp_drawG 29 mixed rfl rfl rfl rfl ?_
    first | refine MGo_c0 rfl (by decide) (.run rfl (stp_fieldAddr rfl fo_api_Kept_1 rfl)) ?_ | refine MGo_c0 rfl (by decide) (.run rfl (stp_fieldAddr_elp rfl fo_api_Kept_1 rfl)) ?_
    first | refine MGo_c0 rfl (by decide) (.run rfl (stp_load_all rfl tf_api_Fact rfl rfl rfl rfl)) ?_ | refine MGo_c0 rfl (by decide) (.run rfl (stp_load rfl tf_api_Fact rfl rfl rfl rfl rfl)) ?_ | refine MGo_c0 rfl (by decide) (.run rfl (stp_load_elpa rfl tf_api_Fact rfl rfl)) ?_ | refine MGo_c0 rfl (by decide) (.run rfl (stp_load_elpn rfl tf_api_Fact rfl rfl rfl)) ?_
    refine MGo_c0 rfl (by decide) (.run rfl (stp_call (avs := [_]) true rfl en_facts_Is rfl rfl (by have hh := factsIs_ok u.f huf; rw [l19] at hh; exact hh) (fun _ => rfl) rfl)) ?_
    refine MGo_c0 rfl (by decide) (.run rfl (stp_not rfl rfl)) ?_
    refine MGo_c0 rfl (by decide) (.run rfl (stp_move (.inl rfl) rfl)) ?_
    refine MGo_c0 rfl (by decide) (.skip rfl rfl rfl (by decide) (by decide)) ?_
    refine MGo_c0 rfl (by decide) (.skip rfl rfl rfl (by decide) (by decide)) ?_
    refine MGo_c0 rfl (by decide) (.skip rfl rfl rfl (by decide) (by decide)) ?_
    refine MGo_c0 rfl (by decide) (.run rfl (stp_pick rfl rfl rfl)) ?_
    refine MGo_c0 rfl (by decide) (.run rfl (stp_move (.inl rfl) rfl)) ?_
    refine MGo_c0 rfl (by decide) (.skip rfl rfl rfl (by decide) (by decide)) ?_
    refine MGo_c0 rfl (by decide) (.skip rfl rfl rfl (by decide) (by decide)) ?_
    refine MGo_c0 rfl (by decide) (.skip rfl rfl rfl (by decide) (by decide)) ?_
    refine MGo_c0 rfl (by decide) (.skipu rfl rfl rfl (by decide)) ?_
    refine MGo_c0 rfl (by decide) (.skipu rfl rfl rfl (by decide)) ?_
    refine MGo_c0 rfl (by decide) (.skipu rfl rfl rfl (by decide)) ?_
    refine MGo_c0 rfl (by decide) (.skipu rfl rfl rfl (by decide)) ?_
    refine MGo_c0 rfl (by decide) (.skipu rfl rfl rfl (by decide)) ?_
    refine MGo_c0 rfl (by decide) (.skipu rfl rfl rfl (by decide)) ?_
    refine MGo_c0 rfl (by decide) (.skipu rfl rfl rfl (by decide)) ?_
    refine MGo_c0 rfl (by decide) (.skipu rfl rfl rfl (by decide)) ?_
    refine MGo_c0 rfl (by decide) (.skipu rfl rfl rfl (by decide)) ?_
    refine MGo_c0 rfl (by decide) (.skip rfl rfl rfl (by decide) (by decide)) ?_
    refine MGo_c0 rfl (by decide) (.run rfl (stp_pick rfl rfl rfl)) ?_
    refine MGo_c0 rfl (by decide) (.run rfl (stp_move (.inl rfl) rfl)) ?_
    refine MGo_c0 rfl (by decide) (.skip rfl rfl rfl (by decide) (by decide)) ?_
    refine MGo_c0 rfl (by decide) (.skip rfl rfl rfl (by decide) (by decide)) ?_
    refine MGo_c0 rfl (by decide) (.skip rfl rfl rfl (by decide) (by decide)) ?_
    refine MGo_c0 rfl (by decide) (.skip rfl rfl rfl (by decide) (by decide)) ?_
    refine MGo_nil ⟨rfl, rfl, ?_⟩
    refine awps_gs rfl rfl rfl rfl (by decide) rfl (by decide) ?_
    refine awps_stp0 rfl rfl (by decide) (stp_pick rfl rfl rfl) ?_
    refine awps_nil ?_
    refine thenQ_nil ?_
    refine awp_condT rfl ?_
    refine awp_seq ?_
    refine awp_region ?_
    refine awps_stp0 rfl rfl (by decide) (stp_move (.inr rfl) rfl) ?_
    refine awps_nil ?_
    refine thenQ_nil ?_
    refine awp_ret ?_
    refine thenQ_ret (inQ_ret (thenQ_ret (thenQ_ret (inQ_ret (thenQ_ret (?_))))))
    -- leaf 0F1Tl19F
    refine ret0 (noL hL) (.inl rfl) (resAs_tmp rfl (resAs_nil)) ?_ ?_
    · rfl
    refine ⟨bool_w ?_, rfl⟩
    symm
    rw [listB]
    first
      | (rw [decide_eq_false (show ¬ l.length ≤ 300 by omega)]; rfl)
      | (have hst : stepL l k = false := by
           rw [stepL_get hu, hy]
           first | (rw [l19]; rfl) | (rw [c2]; simp; done) | (simp; omega)
         have : (List.range l.length).all (stepL l) = false := List.all_eq_false.2 ⟨k, by simp; omega, by simp [hst]⟩
         rw [this]; simp)
      | (rw [decide_eq_true (show l.length ≤ 300 by omega), List.all_eq_true.2 (fun j hj => hp.2 j (by have := List.mem_range.1 hj; omega))]; rfl)
  try simp only [↓str_beq_t, ↓str_beq_f, decide_eq_true_eq, decide_eq_false_iff_not, Bool.not_eq_true', Bool.not_eq_false', Int.not_lt, Int.not_le, beq_iff_eq, beq_eq_false_iff_ne, bne_iff_ne, bne_eq_false_iff_eq, ne_eq] at c1
  refine awp_exit ?_
  refine thenQ_exit (thenQ_exit (inQ_hit ?_))
  refine thenQ_nil ?_
  refine awp_seq ?_
  refine awp_region ?_
  refine awps_stp0 rfl rfl (by decide) (stp_move (.inr rfl) rfl) ?_
  refine awps_nil ?_
  refine thenQ_nil ?_
  refine awp_ret ?_
  -- leaf 0F1F
  refine ret0 (noL hL) (.inl rfl) (resAs_tmp rfl (resAs_nil)) ?_ ?_
  · rfl
  refine ⟨bool_w ?_, rfl⟩
  symm
  rw [listB]
  first
    | (rw [decide_eq_false (show ¬ l.length ≤ 300 by omega)]; rfl)
    | (have hst : stepL l k = false := by
         rw [stepL_get hu, hy]
         first | (rw [l19]; rfl) | (rw [c2]; simp; done) | (simp; omega)
       have : (List.range l.length).all (stepL l) = false := List.all_eq_false.2 ⟨k, by simp; omega, by simp [hst]⟩
       rw [this]; simp)
    | (rw [decide_eq_true (show l.length ≤ 300 by omega), List.all_eq_true.2 (fun j hj => hp.2 j (by have := List.mem_range.1 hj; omega))]; rfl)
end Go.Proofs.Ytdecgkhdbfgldaa

set_option linter.unusedVariables false
set_option linter.unusedSimpArgs false
set_option maxRecDepth 8000
namespace Go.Proofs.Ytdecgkhdbfgldaa
open Go
theorem atN_cases (f : Ft) : ∀ l : List Kp, atN f l = -1 ∨ ∃ (i : Nat) (x : Kp), atN f l = i ∧ l[i]? = some x ∧ cmpF x.f f = 0
  | [] => .inl rfl
  | k :: l => by
    rw [atN]
    split
    · rename_i h; exact .inr ⟨0, k, rfl, rfl, h⟩
    · rcases atN_cases f l with h | ⟨i, x, h1, h2, h3⟩
      · rw [h]; exact .inl rfl
      · rw [h1, if_neg (by omega)]
        exact .inr ⟨i + 1, x, by omega, by simpa using h2, h3⟩
theorem listB_may {l : List Kp} (h : listB l = true) : l.length ≤ 300 ∧ ∀ k ∈ l, factB k.f = true := by
  simp only [listB, Bool.and_eq_true, decide_eq_true_eq, List.all_eq_true, List.mem_range] at h
  refine ⟨h.1, fun k hk => ?_⟩
  obtain ⟨j, hj⟩ := List.getElem?_of_mem hk
  have := h.2 j (List.getElem?_eq_some_iff.1 hj).1
  rw [stepL_get hj] at this
  simp only [Bool.and_eq_true] at this
  exact this.1.1.1
def findE (l : List Kp) (f : Ft) : Int := if listB l = true ∧ factB f = true then (if atN f l < 0 then 3 else 0) else 1
def findN (l : List Kp) (f : Ft) : Int := if listB l = true ∧ factB f = true then (if atN f l < 0 then 0 else match l[(atN f l).toNat]? with | some x => x.seq | none => 0) else 0
theorem Find_ok (l : List Kp) (hw : ∀ k ∈ l, k.wf) (f : Ft) (hf : f.wf) : PF 43 [.dat false 7 (kpDs l), ftA f] (.tup [iv (findN l f), iv (findE l f)]) := by
  refine AC_intro Try.func43 rfl Try.ntmps43 (Nat.le_of_ble_eq_true rfl) fun c hL hQ hDD => ?_
  refine awp_seq ?_
  refine awp_region ?_
  refine awps_stp1 rfl rfl (by decide) (stp_box 3 rfl rfl rfl) rfl ?_
  refine awps_stp0 rfl rfl (by decide) (stp_move (.inr rfl) rfl) ?_
  refine awps_stp0 rfl rfl (by decide) (stp_move (.inr rfl) rfl) ?_
  refine awps_nil ?_
  refine thenQ_nil ?_
  refine awp_seq ?_
  refine awp_seq ?_
  refine awp_region ?_
  refine awps_stp0 rfl rfl (by decide) (stp_move (.inl rfl) rfl) ?_
  refine awps_call (avs := [_]) true rfl rfl rfl (by decide) en_facts_List rfl rfl (List_ok l hw) rfl rfl ?_
  refine awps_stp0 rfl rfl (by decide) (stp_not rfl rfl) ?_
  refine awps_stp0 rfl rfl (by decide) (stp_move (.inl rfl) rfl) ?_
  refine awps_split 10 rfl (fun g10 => ?_) (fun g10 => ?_)
  · try simp only [↓str_beq_t, ↓str_beq_f, decide_eq_true_eq, decide_eq_false_iff_not, Bool.not_eq_true', Bool.not_eq_false', Int.not_lt, Int.not_le, beq_iff_eq, beq_eq_false_iff_ne, bne_iff_ne, bne_eq_false_iff_eq, ne_eq] at g10
    refine awps_gs rfl rfl rfl rfl (by decide) rfl (by decide) ?_
    refine awps_gs rfl rfl rfl rfl (by decide) rfl (by decide) ?_
    refine awps_gs rfl rfl rfl rfl (by decide) rfl (by decide) ?_
    refine awps_stp0 rfl rfl (by decide) (stp_pick rfl rfl rfl) ?_
    refine awps_nil ?_
    refine thenQ_nil ?_
    refine awp_condT rfl ?_
    refine awp_seq ?_
    refine awp_region ?_
    refine awps_stp0 rfl rfl (by decide) (stp_move (.inr rfl) rfl) ?_
    refine awps_stp0 rfl rfl (by decide) (stp_move (.inr rfl) rfl) ?_
    refine awps_nil ?_
    refine thenQ_nil ?_
    refine awp_ret ?_
    refine thenQ_ret (?_)
    -- leaf g10T
    refine ret0 (noL hL) (.inl rfl) (resAs_tmp rfl (resAs_tmp rfl (resAs_nil))) ?_ ?_
    · rfl
    refine ⟨?_, rfl⟩
    rw [findN, findE, if_neg (by simp_all), if_neg (by simp_all)]; rfl
  try simp only [↓str_beq_t, ↓str_beq_f, decide_eq_true_eq, decide_eq_false_iff_not, Bool.not_eq_true', Bool.not_eq_false', Int.not_lt, Int.not_le, beq_iff_eq, beq_eq_false_iff_ne, bne_iff_ne, bne_eq_false_iff_eq, ne_eq] at g10
  first | refine awps_g0 rfl rfl rfl (by decide) rfl (by decide) (stp_load_all rfl tf_api_Fact rfl rfl rfl rfl) ?_ | refine awps_g0 rfl rfl rfl (by decide) rfl (by decide) (stp_load rfl tf_api_Fact rfl rfl rfl rfl rfl) ?_ | refine awps_g0 rfl rfl rfl (by decide) rfl (by decide) (stp_load_elpa rfl tf_api_Fact rfl rfl) ?_ | refine awps_g0 rfl rfl rfl (by decide) rfl (by decide) (stp_load_elpn rfl tf_api_Fact rfl rfl rfl) ?_
  refine awps_g0 rfl rfl rfl (by decide) rfl (by decide) (stp_call (avs := [_]) true rfl en_facts_Is rfl rfl (factsIs_ok f hf) (fun _ => rfl) rfl) ?_
  refine awps_g0 rfl rfl rfl (by decide) rfl (by decide) (stp_not rfl rfl) ?_
  refine awps_stp0 rfl rfl (by decide) (stp_pick rfl rfl rfl) ?_
  refine awps_nil ?_
  refine thenQ_nil ?_
  refine awp_cond rfl (fun c0 => ?_) (fun c0 => ?_)
  · try simp only [↓str_beq_t, ↓str_beq_f, decide_eq_true_eq, decide_eq_false_iff_not, Bool.not_eq_true', Bool.not_eq_false', Int.not_lt, Int.not_le, beq_iff_eq, beq_eq_false_iff_ne, bne_iff_ne, bne_eq_false_iff_eq, ne_eq] at c0
    refine awp_seq ?_
    refine awp_region ?_
    refine awps_stp0 rfl rfl (by decide) (stp_move (.inr rfl) rfl) ?_
    refine awps_stp0 rfl rfl (by decide) (stp_move (.inr rfl) rfl) ?_
    refine awps_nil ?_
    refine thenQ_nil ?_
    refine awp_ret ?_
    refine thenQ_ret (?_)
    -- leaf g10F0T
    refine ret0 (noL hL) (.inl rfl) (resAs_tmp rfl (resAs_tmp rfl (resAs_nil))) ?_ ?_
    · rfl
    refine ⟨?_, rfl⟩
    rw [findN, findE, if_neg (by simp_all), if_neg (by simp_all)]; rfl
  try simp only [↓str_beq_t, ↓str_beq_f, decide_eq_true_eq, decide_eq_false_iff_not, Bool.not_eq_true', Bool.not_eq_false', Int.not_lt, Int.not_le, beq_iff_eq, beq_eq_false_iff_ne, bne_iff_ne, bne_eq_false_iff_eq, ne_eq] at c0
  have hlb : listB l = true := by simp_all
  have hfb : factB f = true := by simp_all
  have hcc : listB l = true ∧ factB f = true := ⟨hlb, hfb⟩
  obtain ⟨hl3, hlm⟩ := listB_may hlb
  refine awp_skip ?_
  refine thenQ_nil ?_
  refine awp_seq ?_
  refine awp_region ?_
  refine awps_stp0 rfl rfl (by decide) (stp_move (.inl rfl) rfl) ?_
  first | refine awps_stp0 rfl rfl (by decide) (stp_load_all rfl tf_api_Fact rfl rfl rfl rfl) ?_ | refine awps_stp0 rfl rfl (by decide) (stp_load rfl tf_api_Fact rfl rfl rfl rfl rfl) ?_ | refine awps_stp0 rfl rfl (by decide) (stp_load_elpa rfl tf_api_Fact rfl rfl) ?_ | refine awps_stp0 rfl rfl (by decide) (stp_load_elpn rfl tf_api_Fact rfl rfl rfl) ?_
  refine awps_call (avs := [_, _]) true rfl rfl rfl (by decide) en_facts_At rfl rfl (At_ok l f hl3 hw (fun k hk => factB_may (hlm k hk)) hf) rfl rfl ?_
  refine awps_stp0 rfl rfl (by decide) (stp_move (.inr rfl) rfl) ?_
  refine awps_nil ?_
  refine thenQ_nil ?_
  refine awp_seq ?_
  refine awp_seq ?_
  refine awp_region ?_
  refine awps_stp0 rfl rfl (by decide) (stp_move (.inl rfl) rfl) ?_
  refine awps_stp0 rfl rfl (by decide) (stp_binI rfl rfl rfl rfl) ?_
  refine awps_nil ?_
  refine thenQ_nil ?_
  refine awp_cond rfl (fun c1 => ?_) (fun c1 => ?_)
  · try simp only [↓str_beq_t, ↓str_beq_f, decide_eq_true_eq, decide_eq_false_iff_not, Bool.not_eq_true', Bool.not_eq_false', Int.not_lt, Int.not_le, beq_iff_eq, beq_eq_false_iff_ne, bne_iff_ne, bne_eq_false_iff_eq, ne_eq] at c1
    refine awp_seq ?_
    refine awp_region ?_
    refine awps_stp0 rfl rfl (by decide) (stp_move (.inr rfl) rfl) ?_
    refine awps_stp0 rfl rfl (by decide) (stp_move (.inr rfl) rfl) ?_
    refine awps_nil ?_
    refine thenQ_nil ?_
    refine awp_ret ?_
    refine thenQ_ret (?_)
    -- leaf g10F0F1T
    refine ret0 (noL hL) (.inl rfl) (resAs_tmp rfl (resAs_tmp rfl (resAs_nil))) ?_ ?_
    · rfl
    refine ⟨?_, rfl⟩
    rw [findN, findE, if_pos hcc, if_pos hcc, if_pos c1, if_pos c1]; rfl
  try simp only [↓str_beq_t, ↓str_beq_f, decide_eq_true_eq, decide_eq_false_iff_not, Bool.not_eq_true', Bool.not_eq_false', Int.not_lt, Int.not_le, beq_iff_eq, beq_eq_false_iff_ne, bne_iff_ne, bne_eq_false_iff_eq, ne_eq] at c1
  obtain ⟨i, x, ha, hx, _⟩ : ∃ (i : Nat) (x : Kp), atN f l = i ∧ l[i]? = some x ∧ cmpF x.f f = 0 := by
    rcases atN_cases f l with h | h
    · omega
    · exact h
  have hx2 : l[(atN f l).toNat]? = some x := by rw [ha]; exact hx
  refine awp_skip ?_
  refine thenQ_nil ?_
  refine awp_seq ?_
  refine awp_region ?_
  refine awps_stp0 rfl rfl (by decide) (stp_move (.inl rfl) rfl) ?_
  refine awps_stp0 rfl rfl (by decide) (stp_move (.inl rfl) rfl) ?_
  first | refine awps_stp0 rfl rfl (by decide) (stp_indexAddr rfl sl_S_api_Kept rfl rfl (by omega) (kpDs_get hx2)) ?_ | refine awps_stp0 rfl rfl (by decide) (stp_indexAddr_rowd rfl sl_S_api_Kept rfl rfl rfl (by omega) (kpDs_get hx2)) ?_ | refine awps_stp0 rfl rfl (by decide) (stp_indexAddr_row rfl sl_S_api_Kept rfl rfl rfl (by omega) (kpDs_get hx2) (by decide)) ?_
  first | refine awps_stp0 rfl rfl (by decide) (stp_fieldAddr rfl fo_api_Kept_0 rfl) ?_ | refine awps_stp0 rfl rfl (by decide) (stp_fieldAddr_elp rfl fo_api_Kept_0 rfl) ?_
  first | refine awps_stp0 rfl rfl (by decide) (stp_load rfl tf_int rfl rfl rfl rfl rfl) ?_ | refine awps_stp0 rfl rfl (by decide) (stp_load_elp1 rfl tf_int rfl) ?_ | refine awps_stp0 rfl rfl (by decide) (stp_load_elpn rfl tf_int rfl rfl rfl) ?_
  refine awps_stp0 rfl rfl (by decide) (stp_move (.inr rfl) rfl) ?_
  refine awps_stp0 rfl rfl (by decide) (stp_move (.inr rfl) rfl) ?_
  refine awps_nil ?_
  refine thenQ_nil ?_
  refine awp_ret ?_
  -- leaf g10F0F1F
  refine ret0 (noL hL) (.inl rfl) (resAs_tmp rfl (resAs_tmp rfl (resAs_nil))) ?_ ?_
  · rfl
  refine ⟨?_, rfl⟩
  rw [findN, findE, if_pos hcc, if_pos hcc, if_neg (show ¬ atN f l < 0 by omega), if_neg (show ¬ atN f l < 0 by omega), hx2]; rfl
def lastS (l : List Kp) : Int := match l[l.length - 1]? with | some x => x.seq | none => -1
def addC (l : List Kp) (n : Int) (f : Ft) : Bool := listB l && factB f && decide (0 ≤ n) && decide (n ≤ 1073741824) && (decide (l.length = 0) || decide (lastS l < n))
def addE (l : List Kp) (n : Int) (f : Ft) : Int := if addC l n f = false then 1 else if 0 ≤ atN f l then 4 else if 300 ≤ l.length then 2 else 0
def addL (l : List Kp) (n : Int) (f : Ft) : List Kp := if addE l n f = 0 then l ++ [⟨n, f⟩] else []
theorem addC_of {l : List Kp} {n : Int} {f : Ft} (hl : listB l = true) (hf : factB f = true) (h0 : 0 ≤ n) (h1 : n ≤ 1073741824) : addC l n f = (decide (l.length = 0) || decide (lastS l < n)) := by
  rw [addC, hl, hf, decide_eq_true h0, decide_eq_true h1]; rfl
theorem Add_ok (l : List Kp) (hw : ∀ k ∈ l, k.wf) (n : Int) (hn : i64 n) (f : Ft) (hf : f.wf) : PF 42 [.dat false 7 (kpDs l), iv n, ftA f] (.tup [.dat true 7 (kpDs (addL l n f)), iv (addE l n f)]) := by
  have hlen := kpDs_length l
  refine AC_leP (Post := fun r O => ((addE l n f ≠ 0 ∧ r = .tup [.imm (.slice none 0 0), iv (addE l n f)]) ∨ r = .tup [.dat true 7 (kpDs (addL l n f)), iv (addE l n f)]) ∧ O = []) ?_ (fun r O' h => by
    obtain ⟨⟨h1, rfl⟩ | rfl, rfl⟩ := h
    · exact ⟨_, .tup (.cons (.nil (f := true) (k := 7)) (.cons .refl .nil)), by rw [addL, if_neg h1]; rfl, rfl⟩
    · exact ⟨_, .refl, rfl, rfl⟩)
  have hlast : 0 < l.length → ∃ x, l[((l.length : Int) - 1).toNat]? = some x ∧ lastS l = x.seq := fun h => by
    obtain ⟨x, hx⟩ := get_of_lt (l := l) (k := l.length - 1) (by omega)
    exact ⟨x, by rw [show ((l.length : Int) - 1).toNat = l.length - 1 by omega]; exact hx, by rw [lastS, hx]⟩
  refine AC_intro Try.func42 rfl Try.ntmps42 (Nat.le_of_ble_eq_true rfl) fun c hL hQ hDD => ?_
  refine awp_seq ?_
  refine awp_region ?_
  refine awps_stp1 rfl rfl (by decide) (stp_box 5 rfl rfl rfl) rfl ?_
  refine awps_stp0 rfl rfl (by decide) (stp_move (.inr rfl) rfl) ?_
  refine awps_stp0 rfl rfl (by decide) (stp_move (.inr rfl) rfl) ?_
  refine awps_nil ?_
  refine thenQ_nil ?_
  refine awp_seq ?_
  refine awp_block ?_
  refine awp_seq ?_
  refine awp_region ?_
  refine awps_stp0 rfl rfl (by decide) (stp_move (.inl rfl) rfl) ?_
  refine awps_call (avs := [_]) true rfl rfl rfl (by decide) en_facts_List rfl rfl (List_ok l hw) rfl rfl ?_
  refine awps_stp0 rfl rfl (by decide) (stp_not rfl rfl) ?_
  refine awps_stp0 rfl rfl (by decide) (stp_move (.inl rfl) rfl) ?_
  refine awps_split 12 rfl (fun g12 => ?_) (fun g12 => ?_)
  · try simp only [↓str_beq_t, ↓str_beq_f, decide_eq_true_eq, decide_eq_false_iff_not, Bool.not_eq_true', Bool.not_eq_false', Int.not_lt, Int.not_le, beq_iff_eq, beq_eq_false_iff_ne, bne_iff_ne, bne_eq_false_iff_eq, ne_eq] at g12
    refine awps_gs rfl rfl rfl rfl (by decide) rfl (by decide) ?_
    refine awps_gs rfl rfl rfl rfl (by decide) rfl (by decide) ?_
    refine awps_gs rfl rfl rfl rfl (by decide) rfl (by decide) ?_
    refine awps_stp0 rfl rfl (by decide) (stp_pick rfl rfl rfl) ?_
    refine awps_stp0 rfl rfl (by decide) (stp_move (.inl rfl) rfl) ?_
    refine awps_gs rfl rfl rfl rfl (by decide) rfl (by decide) ?_
    refine awps_gs rfl rfl rfl rfl (by decide) rfl (by decide) ?_
    refine awps_stp0 rfl rfl (by decide) (stp_pick rfl rfl rfl) ?_
    refine awps_stp0 rfl rfl (by decide) (stp_move (.inl rfl) rfl) ?_
    refine awps_gs rfl rfl rfl rfl (by decide) rfl (by decide) ?_
    refine awps_gs rfl rfl rfl rfl (by decide) rfl (by decide) ?_
    refine awps_stp0 rfl rfl (by decide) (stp_pick rfl rfl rfl) ?_
    refine awps_stp0 rfl rfl (by decide) (stp_move (.inl rfl) rfl) ?_
    refine awps_gs rfl rfl rfl rfl (by decide) rfl (by decide) ?_
    refine awps_gs rfl rfl rfl rfl (by decide) rfl (by decide) ?_
    refine awps_gs rfl rfl rfl rfl (by decide) rfl (by decide) ?_
    refine awps_gs rfl rfl rfl rfl (by decide) rfl (by decide) ?_
    refine awps_gu rfl rfl rfl (by decide) rfl (by decide) ?_
    refine awps_gu rfl rfl rfl (by decide) rfl (by decide) ?_
    refine awps_gu rfl rfl rfl (by decide) rfl (by decide) ?_
    refine awps_gu rfl rfl rfl (by decide) rfl (by decide) ?_
    refine awps_gu rfl rfl rfl (by decide) rfl (by decide) ?_
    refine awps_gu rfl rfl rfl (by decide) rfl (by decide) ?_
    refine awps_gu rfl rfl rfl (by decide) rfl (by decide) ?_
    refine awps_gu rfl rfl rfl (by decide) rfl (by decide) ?_
    refine awps_gu rfl rfl rfl (by decide) rfl (by decide) ?_
    refine awps_gs rfl rfl rfl rfl (by decide) rfl (by decide) ?_
    refine awps_stp0 rfl rfl (by decide) (stp_pick rfl rfl rfl) ?_
    refine awps_stp0 rfl rfl (by decide) (stp_move (.inr rfl) rfl) ?_
    refine awps_nil ?_
    refine thenQ_nil ?_
    refine awp_condT rfl ?_
    refine awp_seq ?_
    refine awp_region ?_
    refine awps_stp0 rfl rfl (by decide) (stp_move (.inr rfl) rfl) ?_
    refine awps_stp0 rfl rfl (by decide) (stp_move (.inr rfl) rfl) ?_
    refine awps_nil ?_
    refine thenQ_nil ?_
    refine awp_ret ?_
    refine inQ_ret (thenQ_ret (?_))
    -- leaf g12T
    refine ret0 (noL hL) (.inl rfl) (resAs_tmp rfl (resAs_tmp rfl (resAs_nil))) ?_ ?_
    · rfl
    refine ⟨?_, rfl⟩
    first
      | (have h1 : addC l n f = false := by
           first
             | (rw [addC_of hlb hfb g21 g25, decide_eq_false (show ¬ l.length = 0 by omega), decide_eq_false (show ¬ lastS l < n by omega)]; rfl)
             | (rw [addC, g12]; rfl)
             | (rw [addC, g17]; simp; done)
             | (rw [addC, decide_eq_false (show ¬ 0 ≤ n by omega)]; simp; done)
             | (rw [addC, decide_eq_false (show ¬ n ≤ 1073741824 by omega)]; simp; done)
         have h2 : addE l n f = 1 := by rw [addE, if_pos h1]
         exact .inl ⟨by rw [h2]; decide, by rw [h2]; rfl⟩)
      | (have h1 : addC l n f = true := by
           rw [addC_of hlb hfb g21 g25]
           first
             | (rw [decide_eq_true (show l.length = 0 by omega)]; rfl)
             | (rw [decide_eq_true (show lastS l < n by omega)]; simp; done)
         have h0 : ¬ addC l n f = false := by rw [h1]; decide
         first
           | (have h2 : addE l n f = 4 := by rw [addE, if_neg h0, if_pos (show 0 ≤ atN f l by omega)]
              exact .inl ⟨by rw [h2]; decide, by rw [h2]; rfl⟩)
           | (have h2 : addE l n f = 2 := by rw [addE, if_neg h0, if_neg (show ¬ 0 ≤ atN f l by omega), if_pos (show 300 ≤ l.length by omega)]
              exact .inl ⟨by rw [h2]; decide, by rw [h2]; rfl⟩)
           | (have h2 : addE l n f = 0 := by rw [addE, if_neg h0, if_neg (show ¬ 0 ≤ atN f l by omega), if_neg (show ¬ 300 ≤ l.length by omega)]
              refine .inr ?_
              have e : kpDs (addL l n f) = kpDs l ++ [kpD ⟨n, f⟩] := by rw [addL, if_pos h2, kpDs, List.map_append]; rfl
              rw [e, h2]; rfl))
  try simp only [↓str_beq_t, ↓str_beq_f, decide_eq_true_eq, decide_eq_false_iff_not, Bool.not_eq_true', Bool.not_eq_false', Int.not_lt, Int.not_le, beq_iff_eq, beq_eq_false_iff_ne, bne_iff_ne, bne_eq_false_iff_eq, ne_eq] at g12
  first | refine awps_g0 rfl rfl rfl (by decide) rfl (by decide) (stp_load_all rfl tf_api_Fact rfl rfl rfl rfl) ?_ | refine awps_g0 rfl rfl rfl (by decide) rfl (by decide) (stp_load rfl tf_api_Fact rfl rfl rfl rfl rfl) ?_ | refine awps_g0 rfl rfl rfl (by decide) rfl (by decide) (stp_load_elpa rfl tf_api_Fact rfl rfl) ?_ | refine awps_g0 rfl rfl rfl (by decide) rfl (by decide) (stp_load_elpn rfl tf_api_Fact rfl rfl rfl) ?_
  refine awps_g0 rfl rfl rfl (by decide) rfl (by decide) (stp_call (avs := [_]) true rfl en_facts_Is rfl rfl (factsIs_ok f hf) (fun _ => rfl) rfl) ?_
  refine awps_g0 rfl rfl rfl (by decide) rfl (by decide) (stp_not rfl rfl) ?_
  refine awps_stp0 rfl rfl (by decide) (stp_pick rfl rfl rfl) ?_
  refine awps_stp0 rfl rfl (by decide) (stp_move (.inl rfl) rfl) ?_
  refine awps_split 17 rfl (fun g17 => ?_) (fun g17 => ?_)
  · try simp only [↓str_beq_t, ↓str_beq_f, decide_eq_true_eq, decide_eq_false_iff_not, Bool.not_eq_true', Bool.not_eq_false', Int.not_lt, Int.not_le, beq_iff_eq, beq_eq_false_iff_ne, bne_iff_ne, bne_eq_false_iff_eq, ne_eq] at g17
    refine awps_gs rfl rfl rfl rfl (by decide) rfl (by decide) ?_
    refine awps_gs rfl rfl rfl rfl (by decide) rfl (by decide) ?_
    refine awps_stp0 rfl rfl (by decide) (stp_pick rfl rfl rfl) ?_
    refine awps_stp0 rfl rfl (by decide) (stp_move (.inl rfl) rfl) ?_
    refine awps_gs rfl rfl rfl rfl (by decide) rfl (by decide) ?_
    refine awps_gs rfl rfl rfl rfl (by decide) rfl (by decide) ?_
    refine awps_stp0 rfl rfl (by decide) (stp_pick rfl rfl rfl) ?_
    refine awps_stp0 rfl rfl (by decide) (stp_move (.inl rfl) rfl) ?_
    refine awps_gs rfl rfl rfl rfl (by decide) rfl (by decide) ?_
    refine awps_gs rfl rfl rfl rfl (by decide) rfl (by decide) ?_
    refine awps_gs rfl rfl rfl rfl (by decide) rfl (by decide) ?_
    refine awps_gs rfl rfl rfl rfl (by decide) rfl (by decide) ?_
    refine awps_gu rfl rfl rfl (by decide) rfl (by decide) ?_
    refine awps_gu rfl rfl rfl (by decide) rfl (by decide) ?_
    refine awps_gu rfl rfl rfl (by decide) rfl (by decide) ?_
    refine awps_gu rfl rfl rfl (by decide) rfl (by decide) ?_
    refine awps_gu rfl rfl rfl (by decide) rfl (by decide) ?_
    refine awps_gu rfl rfl rfl (by decide) rfl (by decide) ?_
    refine awps_gu rfl rfl rfl (by decide) rfl (by decide) ?_
    refine awps_gu rfl rfl rfl (by decide) rfl (by decide) ?_
    refine awps_gu rfl rfl rfl (by decide) rfl (by decide) ?_
    refine awps_gs rfl rfl rfl rfl (by decide) rfl (by decide) ?_
    refine awps_stp0 rfl rfl (by decide) (stp_pick rfl rfl rfl) ?_
    refine awps_stp0 rfl rfl (by decide) (stp_move (.inr rfl) rfl) ?_
    refine awps_nil ?_
    refine thenQ_nil ?_
    refine awp_condT rfl ?_
    refine awp_seq ?_
    refine awp_region ?_
    refine awps_stp0 rfl rfl (by decide) (stp_move (.inr rfl) rfl) ?_
    refine awps_stp0 rfl rfl (by decide) (stp_move (.inr rfl) rfl) ?_
    refine awps_nil ?_
    refine thenQ_nil ?_
    refine awp_ret ?_
    refine inQ_ret (thenQ_ret (?_))
    -- leaf g12Fg17T
    refine ret0 (noL hL) (.inl rfl) (resAs_tmp rfl (resAs_tmp rfl (resAs_nil))) ?_ ?_
    · rfl
    refine ⟨?_, rfl⟩
    first
      | (have h1 : addC l n f = false := by
           first
             | (rw [addC_of hlb hfb g21 g25, decide_eq_false (show ¬ l.length = 0 by omega), decide_eq_false (show ¬ lastS l < n by omega)]; rfl)
             | (rw [addC, g12]; rfl)
             | (rw [addC, g17]; simp; done)
             | (rw [addC, decide_eq_false (show ¬ 0 ≤ n by omega)]; simp; done)
             | (rw [addC, decide_eq_false (show ¬ n ≤ 1073741824 by omega)]; simp; done)
         have h2 : addE l n f = 1 := by rw [addE, if_pos h1]
         exact .inl ⟨by rw [h2]; decide, by rw [h2]; rfl⟩)
      | (have h1 : addC l n f = true := by
           rw [addC_of hlb hfb g21 g25]
           first
             | (rw [decide_eq_true (show l.length = 0 by omega)]; rfl)
             | (rw [decide_eq_true (show lastS l < n by omega)]; simp; done)
         have h0 : ¬ addC l n f = false := by rw [h1]; decide
         first
           | (have h2 : addE l n f = 4 := by rw [addE, if_neg h0, if_pos (show 0 ≤ atN f l by omega)]
              exact .inl ⟨by rw [h2]; decide, by rw [h2]; rfl⟩)
           | (have h2 : addE l n f = 2 := by rw [addE, if_neg h0, if_neg (show ¬ 0 ≤ atN f l by omega), if_pos (show 300 ≤ l.length by omega)]
              exact .inl ⟨by rw [h2]; decide, by rw [h2]; rfl⟩)
           | (have h2 : addE l n f = 0 := by rw [addE, if_neg h0, if_neg (show ¬ 0 ≤ atN f l by omega), if_neg (show ¬ 300 ≤ l.length by omega)]
              refine .inr ?_
              have e : kpDs (addL l n f) = kpDs l ++ [kpD ⟨n, f⟩] := by rw [addL, if_pos h2, kpDs, List.map_append]; rfl
              rw [e, h2]; rfl))
  try simp only [↓str_beq_t, ↓str_beq_f, decide_eq_true_eq, decide_eq_false_iff_not, Bool.not_eq_true', Bool.not_eq_false', Int.not_lt, Int.not_le, beq_iff_eq, beq_eq_false_iff_ne, bne_iff_ne, bne_eq_false_iff_eq, ne_eq] at g17
  have hlb : listB l = true := by assumption
  have hfb : factB f = true := by assumption
  obtain ⟨hl3, hlm⟩ := listB_may hlb
  have hmay : ∀ k ∈ l, mayT k.f.t = true := fun k hk => factB_may (hlm k hk)
  refine awps_g0 rfl rfl rfl (by decide) rfl (by decide) (stp_move (.inl rfl) rfl) ?_
  refine awps_g0 rfl rfl rfl (by decide) rfl (by decide) (stp_binI rfl rfl rfl rfl) ?_
  refine awps_stp0 rfl rfl (by decide) (stp_pick rfl rfl rfl) ?_
  refine awps_stp0 rfl rfl (by decide) (stp_move (.inl rfl) rfl) ?_
  refine awps_split 21 rfl (fun g21 => ?_) (fun g21 => ?_)
  · try simp only [↓str_beq_t, ↓str_beq_f, decide_eq_true_eq, decide_eq_false_iff_not, Bool.not_eq_true', Bool.not_eq_false', Int.not_lt, Int.not_le, beq_iff_eq, beq_eq_false_iff_ne, bne_iff_ne, bne_eq_false_iff_eq, ne_eq] at g21
    refine awps_gs rfl rfl rfl rfl (by decide) rfl (by decide) ?_
    refine awps_gs rfl rfl rfl rfl (by decide) rfl (by decide) ?_
    refine awps_stp0 rfl rfl (by decide) (stp_pick rfl rfl rfl) ?_
    refine awps_stp0 rfl rfl (by decide) (stp_move (.inl rfl) rfl) ?_
    refine awps_gs rfl rfl rfl rfl (by decide) rfl (by decide) ?_
    refine awps_gs rfl rfl rfl rfl (by decide) rfl (by decide) ?_
    refine awps_gs rfl rfl rfl rfl (by decide) rfl (by decide) ?_
    refine awps_gs rfl rfl rfl rfl (by decide) rfl (by decide) ?_
    refine awps_gu rfl rfl rfl (by decide) rfl (by decide) ?_
    refine awps_gu rfl rfl rfl (by decide) rfl (by decide) ?_
    refine awps_gu rfl rfl rfl (by decide) rfl (by decide) ?_
    refine awps_gu rfl rfl rfl (by decide) rfl (by decide) ?_
    refine awps_gu rfl rfl rfl (by decide) rfl (by decide) ?_
    refine awps_gu rfl rfl rfl (by decide) rfl (by decide) ?_
    refine awps_gu rfl rfl rfl (by decide) rfl (by decide) ?_
    refine awps_gu rfl rfl rfl (by decide) rfl (by decide) ?_
    refine awps_gu rfl rfl rfl (by decide) rfl (by decide) ?_
    refine awps_gs rfl rfl rfl rfl (by decide) rfl (by decide) ?_
    refine awps_stp0 rfl rfl (by decide) (stp_pick rfl rfl rfl) ?_
    refine awps_stp0 rfl rfl (by decide) (stp_move (.inr rfl) rfl) ?_
    refine awps_nil ?_
    refine thenQ_nil ?_
    refine awp_condT rfl ?_
    refine awp_seq ?_
    refine awp_region ?_
    refine awps_stp0 rfl rfl (by decide) (stp_move (.inr rfl) rfl) ?_
    refine awps_stp0 rfl rfl (by decide) (stp_move (.inr rfl) rfl) ?_
    refine awps_nil ?_
    refine thenQ_nil ?_
    refine awp_ret ?_
    refine inQ_ret (thenQ_ret (?_))
    -- leaf g12Fg17Fg21T
    refine ret0 (noL hL) (.inl rfl) (resAs_tmp rfl (resAs_tmp rfl (resAs_nil))) ?_ ?_
    · rfl
    refine ⟨?_, rfl⟩
    first
      | (have h1 : addC l n f = false := by
           first
             | (rw [addC_of hlb hfb g21 g25, decide_eq_false (show ¬ l.length = 0 by omega), decide_eq_false (show ¬ lastS l < n by omega)]; rfl)
             | (rw [addC, g12]; rfl)
             | (rw [addC, g17]; simp; done)
             | (rw [addC, decide_eq_false (show ¬ 0 ≤ n by omega)]; simp; done)
             | (rw [addC, decide_eq_false (show ¬ n ≤ 1073741824 by omega)]; simp; done)
         have h2 : addE l n f = 1 := by rw [addE, if_pos h1]
         exact .inl ⟨by rw [h2]; decide, by rw [h2]; rfl⟩)
      | (have h1 : addC l n f = true := by
           rw [addC_of hlb hfb g21 g25]
           first
             | (rw [decide_eq_true (show l.length = 0 by omega)]; rfl)
             | (rw [decide_eq_true (show lastS l < n by omega)]; simp; done)
         have h0 : ¬ addC l n f = false := by rw [h1]; decide
         first
           | (have h2 : addE l n f = 4 := by rw [addE, if_neg h0, if_pos (show 0 ≤ atN f l by omega)]
              exact .inl ⟨by rw [h2]; decide, by rw [h2]; rfl⟩)
           | (have h2 : addE l n f = 2 := by rw [addE, if_neg h0, if_neg (show ¬ 0 ≤ atN f l by omega), if_pos (show 300 ≤ l.length by omega)]
              exact .inl ⟨by rw [h2]; decide, by rw [h2]; rfl⟩)
           | (have h2 : addE l n f = 0 := by rw [addE, if_neg h0, if_neg (show ¬ 0 ≤ atN f l by omega), if_neg (show ¬ 300 ≤ l.length by omega)]
              refine .inr ?_
              have e : kpDs (addL l n f) = kpDs l ++ [kpD ⟨n, f⟩] := by rw [addL, if_pos h2, kpDs, List.map_append]; rfl
              rw [e, h2]; rfl))
  try simp only [↓str_beq_t, ↓str_beq_f, decide_eq_true_eq, decide_eq_false_iff_not, Bool.not_eq_true', Bool.not_eq_false', Int.not_lt, Int.not_le, beq_iff_eq, beq_eq_false_iff_ne, bne_iff_ne, bne_eq_false_iff_eq, ne_eq] at g21
  refine awps_g0 rfl rfl rfl (by decide) rfl (by decide) (stp_move (.inl rfl) rfl) ?_
  refine awps_g0 rfl rfl rfl (by decide) rfl (by decide) (stp_binI rfl rfl rfl rfl) ?_
  refine awps_stp0 rfl rfl (by decide) (stp_pick rfl rfl rfl) ?_
  refine awps_stp0 rfl rfl (by decide) (stp_move (.inl rfl) rfl) ?_
  refine awps_split 25 rfl (fun g25 => ?_) (fun g25 => ?_)
  · try simp only [↓str_beq_t, ↓str_beq_f, decide_eq_true_eq, decide_eq_false_iff_not, Bool.not_eq_true', Bool.not_eq_false', Int.not_lt, Int.not_le, beq_iff_eq, beq_eq_false_iff_ne, bne_iff_ne, bne_eq_false_iff_eq, ne_eq] at g25
    refine awps_gs rfl rfl rfl rfl (by decide) rfl (by decide) ?_
    refine awps_gs rfl rfl rfl rfl (by decide) rfl (by decide) ?_
    refine awps_gs rfl rfl rfl rfl (by decide) rfl (by decide) ?_
    refine awps_gs rfl rfl rfl rfl (by decide) rfl (by decide) ?_
    refine awps_gu rfl rfl rfl (by decide) rfl (by decide) ?_
    refine awps_gu rfl rfl rfl (by decide) rfl (by decide) ?_
    refine awps_gu rfl rfl rfl (by decide) rfl (by decide) ?_
    refine awps_gu rfl rfl rfl (by decide) rfl (by decide) ?_
    refine awps_gu rfl rfl rfl (by decide) rfl (by decide) ?_
    refine awps_gu rfl rfl rfl (by decide) rfl (by decide) ?_
    refine awps_gu rfl rfl rfl (by decide) rfl (by decide) ?_
    refine awps_gu rfl rfl rfl (by decide) rfl (by decide) ?_
    refine awps_gu rfl rfl rfl (by decide) rfl (by decide) ?_
    refine awps_gs rfl rfl rfl rfl (by decide) rfl (by decide) ?_
    refine awps_stp0 rfl rfl (by decide) (stp_pick rfl rfl rfl) ?_
    refine awps_stp0 rfl rfl (by decide) (stp_move (.inr rfl) rfl) ?_
    refine awps_nil ?_
    refine thenQ_nil ?_
    refine awp_condT rfl ?_
    refine awp_seq ?_
    refine awp_region ?_
    refine awps_stp0 rfl rfl (by decide) (stp_move (.inr rfl) rfl) ?_
    refine awps_stp0 rfl rfl (by decide) (stp_move (.inr rfl) rfl) ?_
    refine awps_nil ?_
    refine thenQ_nil ?_
    refine awp_ret ?_
    refine inQ_ret (thenQ_ret (?_))
    -- leaf g12Fg17Fg21Fg25T
    refine ret0 (noL hL) (.inl rfl) (resAs_tmp rfl (resAs_tmp rfl (resAs_nil))) ?_ ?_
    · rfl
    refine ⟨?_, rfl⟩
    first
      | (have h1 : addC l n f = false := by
           first
             | (rw [addC_of hlb hfb g21 g25, decide_eq_false (show ¬ l.length = 0 by omega), decide_eq_false (show ¬ lastS l < n by omega)]; rfl)
             | (rw [addC, g12]; rfl)
             | (rw [addC, g17]; simp; done)
             | (rw [addC, decide_eq_false (show ¬ 0 ≤ n by omega)]; simp; done)
             | (rw [addC, decide_eq_false (show ¬ n ≤ 1073741824 by omega)]; simp; done)
         have h2 : addE l n f = 1 := by rw [addE, if_pos h1]
         exact .inl ⟨by rw [h2]; decide, by rw [h2]; rfl⟩)
      | (have h1 : addC l n f = true := by
           rw [addC_of hlb hfb g21 g25]
           first
             | (rw [decide_eq_true (show l.length = 0 by omega)]; rfl)
             | (rw [decide_eq_true (show lastS l < n by omega)]; simp; done)
         have h0 : ¬ addC l n f = false := by rw [h1]; decide
         first
           | (have h2 : addE l n f = 4 := by rw [addE, if_neg h0, if_pos (show 0 ≤ atN f l by omega)]
              exact .inl ⟨by rw [h2]; decide, by rw [h2]; rfl⟩)
           | (have h2 : addE l n f = 2 := by rw [addE, if_neg h0, if_neg (show ¬ 0 ≤ atN f l by omega), if_pos (show 300 ≤ l.length by omega)]
              exact .inl ⟨by rw [h2]; decide, by rw [h2]; rfl⟩)
           | (have h2 : addE l n f = 0 := by rw [addE, if_neg h0, if_neg (show ¬ 0 ≤ atN f l by omega), if_neg (show ¬ 300 ≤ l.length by omega)]
              refine .inr ?_
              have e : kpDs (addL l n f) = kpDs l ++ [kpD ⟨n, f⟩] := by rw [addL, if_pos h2, kpDs, List.map_append]; rfl
              rw [e, h2]; rfl))
  try simp only [↓str_beq_t, ↓str_beq_f, decide_eq_true_eq, decide_eq_false_iff_not, Bool.not_eq_true', Bool.not_eq_false', Int.not_lt, Int.not_le, beq_iff_eq, beq_eq_false_iff_ne, bne_iff_ne, bne_eq_false_iff_eq, ne_eq] at g25
  refine awps_g0 rfl rfl rfl (by decide) rfl (by decide) (stp_move (.inl rfl) rfl) ?_
  first | refine awps_g0 rfl rfl rfl (by decide) rfl (by decide) (stp_len_dat rfl sl_S_api_Kept rfl) ?_ | refine awps_g0 rfl rfl rfl (by decide) rfl (by decide) (stp_len_rowd rfl sl_S_api_Kept rfl rfl) ?_ | refine awps_g0 rfl rfl rfl (by decide) rfl (by decide) (stp_len_nil rfl sl_S_api_Kept rfl) ?_ | refine awps_g0 rfl rfl rfl (by decide) rfl (by decide) (stp_len_vw rfl sl_S_api_Kept rfl) ?_
  refine awps_g0 rfl rfl rfl (by decide) rfl (by decide) (stp_binI rfl rfl rfl rfl) ?_
  refine awps_g0 rfl rfl rfl (by decide) rfl (by decide) (stp_move (.inl rfl) rfl) ?_
  refine awps_split 29 rfl (fun g29 => ?_) (fun g29 => ?_)
  · try simp only [↓str_beq_t, ↓str_beq_f, decide_eq_true_eq, decide_eq_false_iff_not, Bool.not_eq_true', Bool.not_eq_false', Int.not_lt, Int.not_le, beq_iff_eq, beq_eq_false_iff_ne, bne_iff_ne, bne_eq_false_iff_eq, ne_eq] at g29
    have hl30 := (listB_may (l := l) (by assumption)).1
    obtain ⟨x, hx, hxl⟩ := hlast (by omega)
    rw [← hlen] at hx
    refine awps_g0 rfl rfl rfl (by decide) rfl (by decide) (stp_move (.inl rfl) rfl) ?_
    refine awps_g0 rfl rfl rfl (by decide) rfl (by decide) (stp_move (.inl rfl) rfl) ?_
    refine awps_g0 rfl rfl rfl (by decide) rfl (by decide) (stp_move (.inl rfl) rfl) ?_
    first | refine awps_g0 rfl rfl rfl (by decide) rfl (by decide) (stp_len_dat rfl sl_S_api_Kept rfl) ?_ | refine awps_g0 rfl rfl rfl (by decide) rfl (by decide) (stp_len_rowd rfl sl_S_api_Kept rfl rfl) ?_ | refine awps_g0 rfl rfl rfl (by decide) rfl (by decide) (stp_len_nil rfl sl_S_api_Kept rfl) ?_ | refine awps_g0 rfl rfl rfl (by decide) rfl (by decide) (stp_len_vw rfl sl_S_api_Kept rfl) ?_
    refine awps_g0 rfl rfl rfl (by decide) rfl (by decide) (stp_sub rfl rfl rfl (by omega)) ?_
    first | refine awps_g0 rfl rfl rfl (by decide) rfl (by decide) (stp_indexAddr rfl sl_S_api_Kept rfl rfl (by omega) (kpDs_get hx)) ?_ | refine awps_g0 rfl rfl rfl (by decide) rfl (by decide) (stp_indexAddr_rowd rfl sl_S_api_Kept rfl rfl rfl (by omega) (kpDs_get hx)) ?_ | refine awps_g0 rfl rfl rfl (by decide) rfl (by decide) (stp_indexAddr_row rfl sl_S_api_Kept rfl rfl rfl (by omega) (kpDs_get hx) (by decide)) ?_
    first | refine awps_g0 rfl rfl rfl (by decide) rfl (by decide) (stp_fieldAddr rfl fo_api_Kept_0 rfl) ?_ | refine awps_g0 rfl rfl rfl (by decide) rfl (by decide) (stp_fieldAddr_elp rfl fo_api_Kept_0 rfl) ?_
    first | refine awps_g0 rfl rfl rfl (by decide) rfl (by decide) (stp_load rfl tf_int rfl rfl rfl rfl rfl) ?_ | refine awps_g0 rfl rfl rfl (by decide) rfl (by decide) (stp_load_elp1 rfl tf_int rfl) ?_ | refine awps_g0 rfl rfl rfl (by decide) rfl (by decide) (stp_load_elpn rfl tf_int rfl rfl rfl) ?_
    refine awps_g0 rfl rfl rfl (by decide) rfl (by decide) (stp_binI rfl rfl rfl rfl) ?_
    refine awps_g0 rfl rfl rfl (by decide) rfl (by decide) (stp_pick rfl rfl rfl) ?_
    refine awps_stp0 rfl rfl (by decide) (stp_pick rfl rfl rfl) ?_
    refine awps_stp0 rfl rfl (by decide) (stp_move (.inr rfl) rfl) ?_
    refine awps_nil ?_
    refine thenQ_nil ?_
    refine awp_cond rfl (fun c0 => ?_) (fun c0 => ?_)
    · try simp only [↓str_beq_t, ↓str_beq_f, decide_eq_true_eq, decide_eq_false_iff_not, Bool.not_eq_true', Bool.not_eq_false', Int.not_lt, Int.not_le, beq_iff_eq, beq_eq_false_iff_ne, bne_iff_ne, bne_eq_false_iff_eq, ne_eq] at c0
      refine awp_seq ?_
      refine awp_region ?_
      refine awps_stp0 rfl rfl (by decide) (stp_move (.inr rfl) rfl) ?_
      refine awps_stp0 rfl rfl (by decide) (stp_move (.inr rfl) rfl) ?_
      refine awps_nil ?_
      refine thenQ_nil ?_
      refine awp_ret ?_
      refine inQ_ret (thenQ_ret (?_))
      -- leaf g12Fg17Fg21Fg25Fg29T0T
      refine ret0 (noL hL) (.inl rfl) (resAs_tmp rfl (resAs_tmp rfl (resAs_nil))) ?_ ?_
      · rfl
      refine ⟨?_, rfl⟩
      first
        | (have h1 : addC l n f = false := by
             first
               | (rw [addC_of hlb hfb g21 g25, decide_eq_false (show ¬ l.length = 0 by omega), decide_eq_false (show ¬ lastS l < n by omega)]; rfl)
               | (rw [addC, g12]; rfl)
               | (rw [addC, g17]; simp; done)
               | (rw [addC, decide_eq_false (show ¬ 0 ≤ n by omega)]; simp; done)
               | (rw [addC, decide_eq_false (show ¬ n ≤ 1073741824 by omega)]; simp; done)
           have h2 : addE l n f = 1 := by rw [addE, if_pos h1]
           exact .inl ⟨by rw [h2]; decide, by rw [h2]; rfl⟩)
        | (have h1 : addC l n f = true := by
             rw [addC_of hlb hfb g21 g25]
             first
               | (rw [decide_eq_true (show l.length = 0 by omega)]; rfl)
               | (rw [decide_eq_true (show lastS l < n by omega)]; simp; done)
           have h0 : ¬ addC l n f = false := by rw [h1]; decide
           first
             | (have h2 : addE l n f = 4 := by rw [addE, if_neg h0, if_pos (show 0 ≤ atN f l by omega)]
                exact .inl ⟨by rw [h2]; decide, by rw [h2]; rfl⟩)
             | (have h2 : addE l n f = 2 := by rw [addE, if_neg h0, if_neg (show ¬ 0 ≤ atN f l by omega), if_pos (show 300 ≤ l.length by omega)]
                exact .inl ⟨by rw [h2]; decide, by rw [h2]; rfl⟩)
             | (have h2 : addE l n f = 0 := by rw [addE, if_neg h0, if_neg (show ¬ 0 ≤ atN f l by omega), if_neg (show ¬ 300 ≤ l.length by omega)]
                refine .inr ?_
                have e : kpDs (addL l n f) = kpDs l ++ [kpD ⟨n, f⟩] := by rw [addL, if_pos h2, kpDs, List.map_append]; rfl
                rw [e, h2]; rfl))
    try simp only [↓str_beq_t, ↓str_beq_f, decide_eq_true_eq, decide_eq_false_iff_not, Bool.not_eq_true', Bool.not_eq_false', Int.not_lt, Int.not_le, beq_iff_eq, beq_eq_false_iff_ne, bne_iff_ne, bne_eq_false_iff_eq, ne_eq] at c0
    refine awp_seq ?_
    refine awp_region ?_
    refine awps_stp0 rfl rfl (by decide) (stp_move (.inl rfl) rfl) ?_
    first | refine awps_stp0 rfl rfl (by decide) (stp_load_all rfl tf_api_Fact rfl rfl rfl rfl) ?_ | refine awps_stp0 rfl rfl (by decide) (stp_load rfl tf_api_Fact rfl rfl rfl rfl rfl) ?_ | refine awps_stp0 rfl rfl (by decide) (stp_load_elpa rfl tf_api_Fact rfl rfl) ?_ | refine awps_stp0 rfl rfl (by decide) (stp_load_elpn rfl tf_api_Fact rfl rfl rfl) ?_
    refine awps_call (avs := [_, _]) true rfl rfl rfl (by decide) en_facts_At rfl rfl (At_ok l f hl3 hw hmay hf) rfl rfl ?_
    refine awps_stp0 rfl rfl (by decide) (stp_binI rfl rfl rfl rfl) ?_
    refine awps_stp0 rfl rfl (by decide) (stp_move (.inr rfl) rfl) ?_
    refine awps_nil ?_
    refine thenQ_nil ?_
    refine awp_cond rfl (fun c1 => ?_) (fun c1 => ?_)
    · try simp only [↓str_beq_t, ↓str_beq_f, decide_eq_true_eq, decide_eq_false_iff_not, Bool.not_eq_true', Bool.not_eq_false', Int.not_lt, Int.not_le, beq_iff_eq, beq_eq_false_iff_ne, bne_iff_ne, bne_eq_false_iff_eq, ne_eq] at c1
      refine awp_seq ?_
      refine awp_region ?_
      refine awps_stp0 rfl rfl (by decide) (stp_move (.inr rfl) rfl) ?_
      refine awps_stp0 rfl rfl (by decide) (stp_move (.inr rfl) rfl) ?_
      refine awps_nil ?_
      refine thenQ_nil ?_
      refine awp_ret ?_
      refine inQ_ret (thenQ_ret (?_))
      -- leaf g12Fg17Fg21Fg25Fg29T0F1T
      refine ret0 (noL hL) (.inl rfl) (resAs_tmp rfl (resAs_tmp rfl (resAs_nil))) ?_ ?_
      · rfl
      refine ⟨?_, rfl⟩
      first
        | (have h1 : addC l n f = false := by
             first
               | (rw [addC_of hlb hfb g21 g25, decide_eq_false (show ¬ l.length = 0 by omega), decide_eq_false (show ¬ lastS l < n by omega)]; rfl)
               | (rw [addC, g12]; rfl)
               | (rw [addC, g17]; simp; done)
               | (rw [addC, decide_eq_false (show ¬ 0 ≤ n by omega)]; simp; done)
               | (rw [addC, decide_eq_false (show ¬ n ≤ 1073741824 by omega)]; simp; done)
           have h2 : addE l n f = 1 := by rw [addE, if_pos h1]
           exact .inl ⟨by rw [h2]; decide, by rw [h2]; rfl⟩)
        | (have h1 : addC l n f = true := by
             rw [addC_of hlb hfb g21 g25]
             first
               | (rw [decide_eq_true (show l.length = 0 by omega)]; rfl)
               | (rw [decide_eq_true (show lastS l < n by omega)]; simp; done)
           have h0 : ¬ addC l n f = false := by rw [h1]; decide
           first
             | (have h2 : addE l n f = 4 := by rw [addE, if_neg h0, if_pos (show 0 ≤ atN f l by omega)]
                exact .inl ⟨by rw [h2]; decide, by rw [h2]; rfl⟩)
             | (have h2 : addE l n f = 2 := by rw [addE, if_neg h0, if_neg (show ¬ 0 ≤ atN f l by omega), if_pos (show 300 ≤ l.length by omega)]
                exact .inl ⟨by rw [h2]; decide, by rw [h2]; rfl⟩)
             | (have h2 : addE l n f = 0 := by rw [addE, if_neg h0, if_neg (show ¬ 0 ≤ atN f l by omega), if_neg (show ¬ 300 ≤ l.length by omega)]
                refine .inr ?_
                have e : kpDs (addL l n f) = kpDs l ++ [kpD ⟨n, f⟩] := by rw [addL, if_pos h2, kpDs, List.map_append]; rfl
                rw [e, h2]; rfl))
    try simp only [↓str_beq_t, ↓str_beq_f, decide_eq_true_eq, decide_eq_false_iff_not, Bool.not_eq_true', Bool.not_eq_false', Int.not_lt, Int.not_le, beq_iff_eq, beq_eq_false_iff_ne, bne_iff_ne, bne_eq_false_iff_eq, ne_eq] at c1
    refine awp_seq ?_
    refine awp_region ?_
    refine awps_stp0 rfl rfl (by decide) (stp_move (.inl rfl) rfl) ?_
    first | refine awps_stp0 rfl rfl (by decide) (stp_len_dat rfl sl_S_api_Kept rfl) ?_ | refine awps_stp0 rfl rfl (by decide) (stp_len_rowd rfl sl_S_api_Kept rfl rfl) ?_ | refine awps_stp0 rfl rfl (by decide) (stp_len_nil rfl sl_S_api_Kept rfl) ?_ | refine awps_stp0 rfl rfl (by decide) (stp_len_vw rfl sl_S_api_Kept rfl) ?_
    refine awps_stp0 rfl rfl (by decide) (stp_binI rfl rfl rfl rfl) ?_
    refine awps_stp0 rfl rfl (by decide) (stp_move (.inr rfl) rfl) ?_
    refine awps_nil ?_
    refine thenQ_nil ?_
    refine awp_cond rfl (fun c2 => ?_) (fun c2 => ?_)
    · try simp only [↓str_beq_t, ↓str_beq_f, decide_eq_true_eq, decide_eq_false_iff_not, Bool.not_eq_true', Bool.not_eq_false', Int.not_lt, Int.not_le, beq_iff_eq, beq_eq_false_iff_ne, bne_iff_ne, bne_eq_false_iff_eq, ne_eq] at c2
      refine awp_seq ?_
      refine awp_region ?_
      refine awps_stp0 rfl rfl (by decide) (stp_move (.inr rfl) rfl) ?_
      refine awps_stp0 rfl rfl (by decide) (stp_move (.inr rfl) rfl) ?_
      refine awps_nil ?_
      refine thenQ_nil ?_
      refine awp_ret ?_
      refine inQ_ret (thenQ_ret (?_))
      -- leaf g12Fg17Fg21Fg25Fg29T0F1F2T
      refine ret0 (noL hL) (.inl rfl) (resAs_tmp rfl (resAs_tmp rfl (resAs_nil))) ?_ ?_
      · rfl
      refine ⟨?_, rfl⟩
      first
        | (have h1 : addC l n f = false := by
             first
               | (rw [addC_of hlb hfb g21 g25, decide_eq_false (show ¬ l.length = 0 by omega), decide_eq_false (show ¬ lastS l < n by omega)]; rfl)
               | (rw [addC, g12]; rfl)
               | (rw [addC, g17]; simp; done)
               | (rw [addC, decide_eq_false (show ¬ 0 ≤ n by omega)]; simp; done)
               | (rw [addC, decide_eq_false (show ¬ n ≤ 1073741824 by omega)]; simp; done)
           have h2 : addE l n f = 1 := by rw [addE, if_pos h1]
           exact .inl ⟨by rw [h2]; decide, by rw [h2]; rfl⟩)
        | (have h1 : addC l n f = true := by
             rw [addC_of hlb hfb g21 g25]
             first
               | (rw [decide_eq_true (show l.length = 0 by omega)]; rfl)
               | (rw [decide_eq_true (show lastS l < n by omega)]; simp; done)
           have h0 : ¬ addC l n f = false := by rw [h1]; decide
           first
             | (have h2 : addE l n f = 4 := by rw [addE, if_neg h0, if_pos (show 0 ≤ atN f l by omega)]
                exact .inl ⟨by rw [h2]; decide, by rw [h2]; rfl⟩)
             | (have h2 : addE l n f = 2 := by rw [addE, if_neg h0, if_neg (show ¬ 0 ≤ atN f l by omega), if_pos (show 300 ≤ l.length by omega)]
                exact .inl ⟨by rw [h2]; decide, by rw [h2]; rfl⟩)
             | (have h2 : addE l n f = 0 := by rw [addE, if_neg h0, if_neg (show ¬ 0 ≤ atN f l by omega), if_neg (show ¬ 300 ≤ l.length by omega)]
                refine .inr ?_
                have e : kpDs (addL l n f) = kpDs l ++ [kpD ⟨n, f⟩] := by rw [addL, if_pos h2, kpDs, List.map_append]; rfl
                rw [e, h2]; rfl))
    try simp only [↓str_beq_t, ↓str_beq_f, decide_eq_true_eq, decide_eq_false_iff_not, Bool.not_eq_true', Bool.not_eq_false', Int.not_lt, Int.not_le, beq_iff_eq, beq_eq_false_iff_ne, bne_iff_ne, bne_eq_false_iff_eq, ne_eq] at c2
    refine awp_skip ?_
    refine inQ_nil ?_
    refine thenQ_nil ?_
    refine awp_seq ?_
    refine awp_drawG 5 mixed rfl rfl rfl rfl ?_
    refine MGo_c0 rfl (by decide) (.run rfl (stp_move (.inl rfl) rfl)) ?_
    refine MGo_u rfl rfl (by decide) (stpU_call (avs := [_]) true rfl en_facts_Owns rfl rfl (Owns_ok l hl3 hw hmay) (fun _ => rfl) rfl) ?_
    refine MGo_c0 rfl (by decide) (.run rfl (stp_move (.inl rfl) rfl)) ?_
    first | refine MGo_c0 rfl (by decide) (.run rfl (stp_load_all rfl tf_api_Fact rfl rfl rfl rfl)) ?_ | refine MGo_c0 rfl (by decide) (.run rfl (stp_load rfl tf_api_Fact rfl rfl rfl rfl rfl)) ?_ | refine MGo_c0 rfl (by decide) (.run rfl (stp_load_elpa rfl tf_api_Fact rfl rfl)) ?_ | refine MGo_c0 rfl (by decide) (.run rfl (stp_load_elpn rfl tf_api_Fact rfl rfl rfl)) ?_
    refine MGo_c0 rfl (by decide) (.run rfl (stp_call (avs := [_]) true rfl en_facts_Own rfl rfl (factsOwn_ok f hf (factB_may hfb)) (fun _ => rfl) rfl)) ?_
    refine MGo_nil ⟨rfl, rfl, ?_⟩
    refine awps_stp0 rfl rfl (by decide) (stp_build rfl zv_api_Kept rfl pl_api_Kept rfl rfl) ?_
    refine awps_stp0 rfl rfl (by decide) (stp_buildSliceD true rfl sl_S_api_Kept zv_api_Kept rfl rfl (by decide) (by decide) (by decide) rfl rfl rfl rfl) ?_
    first | refine awps_u rfl rfl (by decide) (stpU_append1 57 ta_S_api_Kept rfl rfl rfl rfl rfl rfl rfl rfl (noL hL _) (by simp [chunk]; omega) rfl) rfl ?_ | refine awps_u rfl rfl (by decide) (stpU_appendd 57 ta_S_api_Kept rfl rfl rfl rfl rfl (noL hL _) (fun d hd => by simp only [chunk, List.mem_cons, List.not_mem_nil, or_false] at hd; subst hd; rfl) (by simp [chunk]; omega) rfl) rfl ?_ | refine awps_u rfl rfl (by decide) (stpU_appendi 57 ta_S_api_Kept rfl rfl rfl rfl (rfl) rfl (noL hL _) (fun d hd => by simp only [chunk, List.mem_cons, List.not_mem_nil, or_false] at hd; subst hd; rfl) (by simp [chunk]; omega) rfl) rfl ?_
    refine awps_stp0 rfl rfl (by decide) (stp_move (.inr rfl) rfl) ?_
    refine awps_stp0 rfl rfl (by decide) (stp_move (.inr rfl) rfl) ?_
    refine awps_sub (sub_freeze (l := 57) rfl (by decide) (noL hL _) rfl rfl) ?_
    refine awps_nil ?_
    refine thenQ_nil ?_
    refine awp_ret ?_
    -- leaf g12Fg17Fg21Fg25Fg29T0F1F2F
    refine ret0 (noL hL) (.inl rfl) (resAs_tmp rfl (resAs_tmp rfl (resAs_nil))) ?_ ?_
    · rfl
    refine ⟨?_, rfl⟩
    first
      | (have h1 : addC l n f = false := by
           first
             | (rw [addC_of hlb hfb g21 g25, decide_eq_false (show ¬ l.length = 0 by omega), decide_eq_false (show ¬ lastS l < n by omega)]; rfl)
             | (rw [addC, g12]; rfl)
             | (rw [addC, g17]; simp; done)
             | (rw [addC, decide_eq_false (show ¬ 0 ≤ n by omega)]; simp; done)
             | (rw [addC, decide_eq_false (show ¬ n ≤ 1073741824 by omega)]; simp; done)
         have h2 : addE l n f = 1 := by rw [addE, if_pos h1]
         exact .inl ⟨by rw [h2]; decide, by rw [h2]; rfl⟩)
      | (have h1 : addC l n f = true := by
           rw [addC_of hlb hfb g21 g25]
           first
             | (rw [decide_eq_true (show l.length = 0 by omega)]; rfl)
             | (rw [decide_eq_true (show lastS l < n by omega)]; simp; done)
         have h0 : ¬ addC l n f = false := by rw [h1]; decide
         first
           | (have h2 : addE l n f = 4 := by rw [addE, if_neg h0, if_pos (show 0 ≤ atN f l by omega)]
              exact .inl ⟨by rw [h2]; decide, by rw [h2]; rfl⟩)
           | (have h2 : addE l n f = 2 := by rw [addE, if_neg h0, if_neg (show ¬ 0 ≤ atN f l by omega), if_pos (show 300 ≤ l.length by omega)]
              exact .inl ⟨by rw [h2]; decide, by rw [h2]; rfl⟩)
           | (have h2 : addE l n f = 0 := by rw [addE, if_neg h0, if_neg (show ¬ 0 ≤ atN f l by omega), if_neg (show ¬ 300 ≤ l.length by omega)]
              refine .inr ?_
              have e : kpDs (addL l n f) = kpDs l ++ [kpD ⟨n, f⟩] := by rw [addL, if_pos h2, kpDs, List.map_append]; rfl
              rw [e, h2]; rfl))
  try simp only [↓str_beq_t, ↓str_beq_f, decide_eq_true_eq, decide_eq_false_iff_not, Bool.not_eq_true', Bool.not_eq_false', Int.not_lt, Int.not_le, beq_iff_eq, beq_eq_false_iff_ne, bne_iff_ne, bne_eq_false_iff_eq, ne_eq] at g29
  refine awps_gs rfl rfl rfl rfl (by decide) rfl (by decide) ?_
  refine awps_gs rfl rfl rfl rfl (by decide) rfl (by decide) ?_
  refine awps_gs rfl rfl rfl rfl (by decide) rfl (by decide) ?_
  refine awps_gs rfl rfl rfl rfl (by decide) rfl (by decide) ?_
  refine awps_gs rfl rfl rfl rfl (by decide) rfl (by decide) ?_
  refine awps_gs rfl rfl rfl rfl (by decide) rfl (by decide) ?_
  refine awps_gs rfl rfl rfl rfl (by decide) rfl (by decide) ?_
  refine awps_gs rfl rfl rfl rfl (by decide) rfl (by decide) ?_
  refine awps_gs rfl rfl rfl rfl (by decide) rfl (by decide) ?_
  refine awps_g0 rfl rfl rfl (by decide) rfl (by decide) (stp_pick rfl rfl rfl) ?_
  refine awps_stp0 rfl rfl (by decide) (stp_pick rfl rfl rfl) ?_
  refine awps_stp0 rfl rfl (by decide) (stp_move (.inr rfl) rfl) ?_
  refine awps_nil ?_
  refine thenQ_nil ?_
  refine awp_condF rfl ?_
  refine awp_seq ?_
  refine awp_region ?_
  refine awps_stp0 rfl rfl (by decide) (stp_move (.inl rfl) rfl) ?_
  first | refine awps_stp0 rfl rfl (by decide) (stp_load_all rfl tf_api_Fact rfl rfl rfl rfl) ?_ | refine awps_stp0 rfl rfl (by decide) (stp_load rfl tf_api_Fact rfl rfl rfl rfl rfl) ?_ | refine awps_stp0 rfl rfl (by decide) (stp_load_elpa rfl tf_api_Fact rfl rfl) ?_ | refine awps_stp0 rfl rfl (by decide) (stp_load_elpn rfl tf_api_Fact rfl rfl rfl) ?_
  refine awps_call (avs := [_, _]) true rfl rfl rfl (by decide) en_facts_At rfl rfl (At_ok l f hl3 hw hmay hf) rfl rfl ?_
  refine awps_stp0 rfl rfl (by decide) (stp_binI rfl rfl rfl rfl) ?_
  refine awps_stp0 rfl rfl (by decide) (stp_move (.inr rfl) rfl) ?_
  refine awps_nil ?_
  refine thenQ_nil ?_
  refine awp_cond rfl (fun c1 => ?_) (fun c1 => ?_)
  · try simp only [↓str_beq_t, ↓str_beq_f, decide_eq_true_eq, decide_eq_false_iff_not, Bool.not_eq_true', Bool.not_eq_false', Int.not_lt, Int.not_le, beq_iff_eq, beq_eq_false_iff_ne, bne_iff_ne, bne_eq_false_iff_eq, ne_eq] at c1
    refine awp_seq ?_
    refine awp_region ?_
    refine awps_stp0 rfl rfl (by decide) (stp_move (.inr rfl) rfl) ?_
    refine awps_stp0 rfl rfl (by decide) (stp_move (.inr rfl) rfl) ?_
    refine awps_nil ?_
    refine thenQ_nil ?_
    refine awp_ret ?_
    refine inQ_ret (thenQ_ret (?_))
    -- leaf g12Fg17Fg21Fg25Fg29F1T
    refine ret0 (noL hL) (.inl rfl) (resAs_tmp rfl (resAs_tmp rfl (resAs_nil))) ?_ ?_
    · rfl
    refine ⟨?_, rfl⟩
    first
      | (have h1 : addC l n f = false := by
           first
             | (rw [addC_of hlb hfb g21 g25, decide_eq_false (show ¬ l.length = 0 by omega), decide_eq_false (show ¬ lastS l < n by omega)]; rfl)
             | (rw [addC, g12]; rfl)
             | (rw [addC, g17]; simp; done)
             | (rw [addC, decide_eq_false (show ¬ 0 ≤ n by omega)]; simp; done)
             | (rw [addC, decide_eq_false (show ¬ n ≤ 1073741824 by omega)]; simp; done)
         have h2 : addE l n f = 1 := by rw [addE, if_pos h1]
         exact .inl ⟨by rw [h2]; decide, by rw [h2]; rfl⟩)
      | (have h1 : addC l n f = true := by
           rw [addC_of hlb hfb g21 g25]
           first
             | (rw [decide_eq_true (show l.length = 0 by omega)]; rfl)
             | (rw [decide_eq_true (show lastS l < n by omega)]; simp; done)
         have h0 : ¬ addC l n f = false := by rw [h1]; decide
         first
           | (have h2 : addE l n f = 4 := by rw [addE, if_neg h0, if_pos (show 0 ≤ atN f l by omega)]
              exact .inl ⟨by rw [h2]; decide, by rw [h2]; rfl⟩)
           | (have h2 : addE l n f = 2 := by rw [addE, if_neg h0, if_neg (show ¬ 0 ≤ atN f l by omega), if_pos (show 300 ≤ l.length by omega)]
              exact .inl ⟨by rw [h2]; decide, by rw [h2]; rfl⟩)
           | (have h2 : addE l n f = 0 := by rw [addE, if_neg h0, if_neg (show ¬ 0 ≤ atN f l by omega), if_neg (show ¬ 300 ≤ l.length by omega)]
              refine .inr ?_
              have e : kpDs (addL l n f) = kpDs l ++ [kpD ⟨n, f⟩] := by rw [addL, if_pos h2, kpDs, List.map_append]; rfl
              rw [e, h2]; rfl))
  try simp only [↓str_beq_t, ↓str_beq_f, decide_eq_true_eq, decide_eq_false_iff_not, Bool.not_eq_true', Bool.not_eq_false', Int.not_lt, Int.not_le, beq_iff_eq, beq_eq_false_iff_ne, bne_iff_ne, bne_eq_false_iff_eq, ne_eq] at c1
  refine awp_seq ?_
  refine awp_region ?_
  refine awps_stp0 rfl rfl (by decide) (stp_move (.inl rfl) rfl) ?_
  first | refine awps_stp0 rfl rfl (by decide) (stp_len_dat rfl sl_S_api_Kept rfl) ?_ | refine awps_stp0 rfl rfl (by decide) (stp_len_rowd rfl sl_S_api_Kept rfl rfl) ?_ | refine awps_stp0 rfl rfl (by decide) (stp_len_nil rfl sl_S_api_Kept rfl) ?_ | refine awps_stp0 rfl rfl (by decide) (stp_len_vw rfl sl_S_api_Kept rfl) ?_
  refine awps_stp0 rfl rfl (by decide) (stp_binI rfl rfl rfl rfl) ?_
  refine awps_stp0 rfl rfl (by decide) (stp_move (.inr rfl) rfl) ?_
  refine awps_nil ?_
  refine thenQ_nil ?_
  refine awp_cond rfl (fun c2 => ?_) (fun c2 => ?_)
  · try simp only [↓str_beq_t, ↓str_beq_f, decide_eq_true_eq, decide_eq_false_iff_not, Bool.not_eq_true', Bool.not_eq_false', Int.not_lt, Int.not_le, beq_iff_eq, beq_eq_false_iff_ne, bne_iff_ne, bne_eq_false_iff_eq, ne_eq] at c2
    refine awp_seq ?_
    refine awp_region ?_
    refine awps_stp0 rfl rfl (by decide) (stp_move (.inr rfl) rfl) ?_
    refine awps_stp0 rfl rfl (by decide) (stp_move (.inr rfl) rfl) ?_
    refine awps_nil ?_
    refine thenQ_nil ?_
    refine awp_ret ?_
    refine inQ_ret (thenQ_ret (?_))
    -- leaf g12Fg17Fg21Fg25Fg29F1F2T
    refine ret0 (noL hL) (.inl rfl) (resAs_tmp rfl (resAs_tmp rfl (resAs_nil))) ?_ ?_
    · rfl
    refine ⟨?_, rfl⟩
    first
      | (have h1 : addC l n f = false := by
           first
             | (rw [addC_of hlb hfb g21 g25, decide_eq_false (show ¬ l.length = 0 by omega), decide_eq_false (show ¬ lastS l < n by omega)]; rfl)
             | (rw [addC, g12]; rfl)
             | (rw [addC, g17]; simp; done)
             | (rw [addC, decide_eq_false (show ¬ 0 ≤ n by omega)]; simp; done)
             | (rw [addC, decide_eq_false (show ¬ n ≤ 1073741824 by omega)]; simp; done)
         have h2 : addE l n f = 1 := by rw [addE, if_pos h1]
         exact .inl ⟨by rw [h2]; decide, by rw [h2]; rfl⟩)
      | (have h1 : addC l n f = true := by
           rw [addC_of hlb hfb g21 g25]
           first
             | (rw [decide_eq_true (show l.length = 0 by omega)]; rfl)
             | (rw [decide_eq_true (show lastS l < n by omega)]; simp; done)
         have h0 : ¬ addC l n f = false := by rw [h1]; decide
         first
           | (have h2 : addE l n f = 4 := by rw [addE, if_neg h0, if_pos (show 0 ≤ atN f l by omega)]
              exact .inl ⟨by rw [h2]; decide, by rw [h2]; rfl⟩)
           | (have h2 : addE l n f = 2 := by rw [addE, if_neg h0, if_neg (show ¬ 0 ≤ atN f l by omega), if_pos (show 300 ≤ l.length by omega)]
              exact .inl ⟨by rw [h2]; decide, by rw [h2]; rfl⟩)
           | (have h2 : addE l n f = 0 := by rw [addE, if_neg h0, if_neg (show ¬ 0 ≤ atN f l by omega), if_neg (show ¬ 300 ≤ l.length by omega)]
              refine .inr ?_
              have e : kpDs (addL l n f) = kpDs l ++ [kpD ⟨n, f⟩] := by rw [addL, if_pos h2, kpDs, List.map_append]; rfl
              rw [e, h2]; rfl))
  try simp only [↓str_beq_t, ↓str_beq_f, decide_eq_true_eq, decide_eq_false_iff_not, Bool.not_eq_true', Bool.not_eq_false', Int.not_lt, Int.not_le, beq_iff_eq, beq_eq_false_iff_ne, bne_iff_ne, bne_eq_false_iff_eq, ne_eq] at c2
  refine awp_skip ?_
  refine inQ_nil ?_
  refine thenQ_nil ?_
  refine awp_seq ?_
  refine awp_drawG 5 mixed rfl rfl rfl rfl ?_
  refine MGo_c0 rfl (by decide) (.run rfl (stp_move (.inl rfl) rfl)) ?_
  refine MGo_u rfl rfl (by decide) (stpU_call (avs := [_]) true rfl en_facts_Owns rfl rfl (Owns_ok l hl3 hw hmay) (fun _ => rfl) rfl) ?_
  refine MGo_c0 rfl (by decide) (.run rfl (stp_move (.inl rfl) rfl)) ?_
  first | refine MGo_c0 rfl (by decide) (.run rfl (stp_load_all rfl tf_api_Fact rfl rfl rfl rfl)) ?_ | refine MGo_c0 rfl (by decide) (.run rfl (stp_load rfl tf_api_Fact rfl rfl rfl rfl rfl)) ?_ | refine MGo_c0 rfl (by decide) (.run rfl (stp_load_elpa rfl tf_api_Fact rfl rfl)) ?_ | refine MGo_c0 rfl (by decide) (.run rfl (stp_load_elpn rfl tf_api_Fact rfl rfl rfl)) ?_
  refine MGo_c0 rfl (by decide) (.run rfl (stp_call (avs := [_]) true rfl en_facts_Own rfl rfl (factsOwn_ok f hf (factB_may hfb)) (fun _ => rfl) rfl)) ?_
  refine MGo_nil ⟨rfl, rfl, ?_⟩
  refine awps_stp0 rfl rfl (by decide) (stp_build rfl zv_api_Kept rfl pl_api_Kept rfl rfl) ?_
  refine awps_stp0 rfl rfl (by decide) (stp_buildSliceD true rfl sl_S_api_Kept zv_api_Kept rfl rfl (by decide) (by decide) (by decide) rfl rfl rfl rfl) ?_
  first | refine awps_u rfl rfl (by decide) (stpU_append1 57 ta_S_api_Kept rfl rfl rfl rfl rfl rfl rfl rfl (noL hL _) (by simp [chunk]; omega) rfl) rfl ?_ | refine awps_u rfl rfl (by decide) (stpU_appendd 57 ta_S_api_Kept rfl rfl rfl rfl rfl (noL hL _) (fun d hd => by simp only [chunk, List.mem_cons, List.not_mem_nil, or_false] at hd; subst hd; rfl) (by simp [chunk]; omega) rfl) rfl ?_ | refine awps_u rfl rfl (by decide) (stpU_appendi 57 ta_S_api_Kept rfl rfl rfl rfl (rfl) rfl (noL hL _) (fun d hd => by simp only [chunk, List.mem_cons, List.not_mem_nil, or_false] at hd; subst hd; rfl) (by simp [chunk]; omega) rfl) rfl ?_
  refine awps_stp0 rfl rfl (by decide) (stp_move (.inr rfl) rfl) ?_
  refine awps_stp0 rfl rfl (by decide) (stp_move (.inr rfl) rfl) ?_
  refine awps_sub (sub_freeze (l := 57) rfl (by decide) (noL hL _) rfl rfl) ?_
  refine awps_nil ?_
  refine thenQ_nil ?_
  refine awp_ret ?_
  -- leaf g12Fg17Fg21Fg25Fg29F1F2F
  refine ret0 (noL hL) (.inl rfl) (resAs_tmp rfl (resAs_tmp rfl (resAs_nil))) ?_ ?_
  · rfl
  refine ⟨?_, rfl⟩
  first
    | (have h1 : addC l n f = false := by
         first
           | (rw [addC_of hlb hfb g21 g25, decide_eq_false (show ¬ l.length = 0 by omega), decide_eq_false (show ¬ lastS l < n by omega)]; rfl)
           | (rw [addC, g12]; rfl)
           | (rw [addC, g17]; simp; done)
           | (rw [addC, decide_eq_false (show ¬ 0 ≤ n by omega)]; simp; done)
           | (rw [addC, decide_eq_false (show ¬ n ≤ 1073741824 by omega)]; simp; done)
       have h2 : addE l n f = 1 := by rw [addE, if_pos h1]
       exact .inl ⟨by rw [h2]; decide, by rw [h2]; rfl⟩)
    | (have h1 : addC l n f = true := by
         rw [addC_of hlb hfb g21 g25]
         first
           | (rw [decide_eq_true (show l.length = 0 by omega)]; rfl)
           | (rw [decide_eq_true (show lastS l < n by omega)]; simp; done)
       have h0 : ¬ addC l n f = false := by rw [h1]; decide
       first
         | (have h2 : addE l n f = 4 := by rw [addE, if_neg h0, if_pos (show 0 ≤ atN f l by omega)]
            exact .inl ⟨by rw [h2]; decide, by rw [h2]; rfl⟩)
         | (have h2 : addE l n f = 2 := by rw [addE, if_neg h0, if_neg (show ¬ 0 ≤ atN f l by omega), if_pos (show 300 ≤ l.length by omega)]
            exact .inl ⟨by rw [h2]; decide, by rw [h2]; rfl⟩)
         | (have h2 : addE l n f = 0 := by rw [addE, if_neg h0, if_neg (show ¬ 0 ≤ atN f l by omega), if_neg (show ¬ 300 ≤ l.length by omega)]
            refine .inr ?_
            have e : kpDs (addL l n f) = kpDs l ++ [kpD ⟨n, f⟩] := by rw [addL, if_pos h2, kpDs, List.map_append]; rfl
            rw [e, h2]; rfl))
end Go.Proofs.Ytdecgkhdbfgldaa

set_option linter.unusedVariables false
set_option linter.unusedSimpArgs false
set_option maxRecDepth 8000
namespace Go.Proofs.Ytdecgkhdbfgldaa
open Go
def wK (k : Kp) : Int := wT k.f.t
def wKs (l : List Kp) : Int := wgtL wK l.length l
theorem KeptsWeight_ok (l : List Kp) (hl : lenOk l) (hw : ∀ k ∈ l, k.wf) : PF 53 [.dat false 7 (kpDs l)] (iv (wKs l)) := by
  have hlen := kpDs_length l
  have hF : ∀ u, u ∈ l → 0 ≤ wK u ∧ wK u ≤ 4362862138900000 := fun u hu => wT_range u.f.t (hw u hu).2.1
  simp only [lenOk] at hl
  refine AC_intro Try.func53 rfl Try.ntmps53 (Nat.le_of_ble_eq_true rfl) fun c hL hQ hDD => ?_
  refine awp_seq ?_
  refine awp_region ?_
  refine awps_stp0 rfl rfl (by decide) (stp_move (.inr rfl) rfl) ?_
  refine awps_nil ?_
  refine thenQ_nil ?_
  refine awp_seq ?_
  refine awp_region ?_
  refine awps_stp0 rfl rfl (by decide) (stp_move (.inl rfl) rfl) ?_
  first | refine awps_stp0 rfl rfl (by decide) (stp_len_dat rfl sl_S_api_Kept rfl) ?_ | refine awps_stp0 rfl rfl (by decide) (stp_len_rowd rfl sl_S_api_Kept rfl rfl) ?_ | refine awps_stp0 rfl rfl (by decide) (stp_len_nil rfl sl_S_api_Kept rfl) ?_ | refine awps_stp0 rfl rfl (by decide) (stp_len_vw rfl sl_S_api_Kept rfl) ?_
  refine awps_stp0 rfl rfl (by decide) (stp_move (.inr rfl) rfl) ?_
  refine awps_nil ?_
  refine thenQ_nil ?_
  refine awp_seq ?_
  refine awp_seq ?_
  refine awp_region ?_
  refine awps_stp0 rfl rfl (by decide) (stp_move (.inr rfl) rfl) ?_
  refine awps_nil ?_
  refine thenQ_nil ?_
  refine awp_block ?_
  refine awp_while (l.length) (fun k => k ≤ l.length ∧ ∀ j, j < k → wgtL wK l.length (l.take j) < 1048576) (fun k => ⟨[(0, .dat false 7 (kpDs l)), (3, iv (wgtL wK l.length (l.take k))), (4, iv (k : Int))], []⟩) (⟨by omega, fun j hj => absurd hj (by omega)⟩) ?_ (fun k hk hp => ?_)
  · exact sub_re (SubT.cons (lk_eq rfl (by first | rfl | simp)) (SubT.cons (lk_eq rfl (by exact int_imm (by simp only [List.take_zero, wgtL]; omega))) (SubT.cons (lk_eq rfl (by first | rfl | simp)) (SubT.nil)))) (SubO.nil) rfl rfl (noL' (noL hL) _)
  have hwk := wgtL_le wK 4362862138900000 (by omega) l.length (l.take k) (fun u hu => (hF u (List.mem_of_mem_take hu)).2) (by omega)
  have hw0 := wgtL_ge' wK l.length (l.take k) (fun u hu => (hF u (List.mem_of_mem_take hu)).1)
  refine awp_seq ?_
  refine awp_seq ?_
  refine awp_region ?_
  refine awps_stp0 rfl rfl (by decide) (stp_move (.inl rfl) rfl) ?_
  refine awps_stp0 rfl rfl (by decide) (stp_move (.inl rfl) rfl) ?_
  first | refine awps_stp0 rfl rfl (by decide) (stp_len_dat rfl sl_S_api_Kept rfl) ?_ | refine awps_stp0 rfl rfl (by decide) (stp_len_rowd rfl sl_S_api_Kept rfl rfl) ?_ | refine awps_stp0 rfl rfl (by decide) (stp_len_nil rfl sl_S_api_Kept rfl) ?_ | refine awps_stp0 rfl rfl (by decide) (stp_len_vw rfl sl_S_api_Kept rfl) ?_
  refine awps_stp0 rfl rfl (by decide) (stp_binI rfl rfl rfl rfl) ?_
  refine awps_stp0 rfl rfl (by decide) (stp_move (.inl rfl) rfl) ?_
  refine awps_split 11 rfl (fun g11 => ?_) (fun g11 => ?_)
  · try simp only [↓str_beq_t, ↓str_beq_f, decide_eq_true_eq, decide_eq_false_iff_not, Bool.not_eq_true', Bool.not_eq_false', Int.not_lt, Int.not_le, beq_iff_eq, beq_eq_false_iff_ne, bne_iff_ne, bne_eq_false_iff_eq, ne_eq] at g11
    obtain ⟨u, hu⟩ := get_of_lt (l := l) (k := k) (by omega)
    have hum := List.mem_of_getElem? hu
    have huw := hF u hum
    have hws : wK u = wT u.f.t := rfl
    have hut := (hw u hum).2.1
    refine awps_g0 rfl rfl rfl (by decide) rfl (by decide) (stp_move (.inl rfl) rfl) ?_
    refine awps_g0 rfl rfl rfl (by decide) rfl (by decide) (stp_binI rfl rfl rfl rfl) ?_
    refine awps_stp0 rfl rfl (by decide) (stp_pick rfl rfl rfl) ?_
    refine awps_nil ?_
    refine thenQ_nil ?_
    refine awp_cond rfl (fun c0 => ?_) (fun c0 => ?_)
    · try simp only [↓str_beq_t, ↓str_beq_f, decide_eq_true_eq, decide_eq_false_iff_not, Bool.not_eq_true', Bool.not_eq_false', Int.not_lt, Int.not_le, beq_iff_eq, beq_eq_false_iff_ne, bne_iff_ne, bne_eq_false_iff_eq, ne_eq] at c0
      refine awp_skip ?_
      refine thenQ_nil ?_
      refine awp_seq ?_
      refine awp_block ?_
      refine awp_region ?_
      refine awps_stp0 rfl rfl (by decide) (stp_move (.inl rfl) rfl) ?_
      refine awps_stp0 rfl rfl (by decide) (stp_move (.inl rfl) rfl) ?_
      refine awps_stp0 rfl rfl (by decide) (stp_move (.inl rfl) rfl) ?_
      first | refine awps_stp0 rfl rfl (by decide) (stp_indexAddr rfl sl_S_api_Kept rfl rfl (by omega) (kpDs_get hu)) ?_ | refine awps_stp0 rfl rfl (by decide) (stp_indexAddr_rowd rfl sl_S_api_Kept rfl rfl rfl (by omega) (kpDs_get hu)) ?_ | refine awps_stp0 rfl rfl (by decide) (stp_indexAddr_row rfl sl_S_api_Kept rfl rfl rfl (by omega) (kpDs_get hu) (by decide)) ?_
      first | refine awps_stp0 rfl rfl (by decide) (stp_fieldAddr rfl fo_api_Kept_1 rfl) ?_ | refine awps_stp0 rfl rfl (by decide) (stp_fieldAddr_elp rfl fo_api_Kept_1 rfl) ?_
      first | refine awps_stp0 rfl rfl (by decide) (stp_fieldAddr rfl fo_api_Fact_0 rfl) ?_ | refine awps_stp0 rfl rfl (by decide) (stp_fieldAddr_elp rfl fo_api_Fact_0 rfl) ?_
      first | refine awps_stp0 rfl rfl (by decide) (stp_load_all rfl tf_api_Term rfl rfl rfl rfl) ?_ | refine awps_stp0 rfl rfl (by decide) (stp_load rfl tf_api_Term rfl rfl rfl rfl rfl) ?_ | refine awps_stp0 rfl rfl (by decide) (stp_load_elpa rfl tf_api_Term rfl rfl) ?_ | refine awps_stp0 rfl rfl (by decide) (stp_load_elpn rfl tf_api_Term rfl rfl rfl) ?_
      refine awps_call (avs := [_, _]) true rfl rfl rfl (by decide) en_almagestlaw0_TermWeight rfl rfl (TermWeight30_ok u.f.t hut) rfl rfl ?_
      refine awps_stp0 rfl rfl (by decide) (stp_add rfl rfl rfl (by omega)) ?_
      refine awps_stp0 rfl rfl (by decide) (stp_move (.inr rfl) rfl) ?_
      refine awps_nil ?_
      refine inQ_nil ?_
      refine thenQ_nil ?_
      refine awp_region ?_
      refine awps_stp0 rfl rfl (by decide) (stp_move (.inl rfl) rfl) ?_
      refine awps_stp0 rfl rfl (by decide) (stp_add rfl rfl rfl (by omega)) ?_
      refine awps_stp0 rfl rfl (by decide) (stp_move (.inr rfl) rfl) ?_
      refine awps_nil ?_
      have hb := wgtL_snoc wK l.length (l.take k) u (fun j hj => by
        by_cases hjk : j < k
        · have := hp.2 j hjk; rwa [List.take_take, Nat.min_eq_left (by omega)]
        · rw [List.take_of_length_le (by simp; omega)]; omega)
      rw [← take_snoc hu] at hb
      refine thenQ_nil ?_
      refine ⟨?_, ?_, ?_⟩
      · skip
        omega
      · skip
        refine ⟨by omega, fun j hj => ?_⟩
        by_cases hjk : j < k
        · exact hp.2 j hjk
        · rw [show j = k by omega]; omega
      exact sub_re (SubT.cons (lk_eq rfl (by first | rfl | simp)) (SubT.cons (lk_eq rfl (by exact int_imm (by rw [hb]; try omega))) (SubT.cons (lk_eq rfl (by first | rfl | simp)) (SubT.nil)))) (SubO.nil) rfl rfl (noL' (noL hL) _)
    try simp only [↓str_beq_t, ↓str_beq_f, decide_eq_true_eq, decide_eq_false_iff_not, Bool.not_eq_true', Bool.not_eq_false', Int.not_lt, Int.not_le, beq_iff_eq, beq_eq_false_iff_ne, bne_iff_ne, bne_eq_false_iff_eq, ne_eq] at c0
    have hfin : wgtL wK l.length (l.take k) = wgtL wK l.length l := ((wgtL_take wK _ _ k hp.1 hp.2).trans (wgtL_stop _ _ _ (by omega))).symm
    refine awp_exit ?_
    refine thenQ_exit (thenQ_exit (inQ_hit ?_))
    refine thenQ_nil ?_
    refine awp_seq ?_
    refine awp_region ?_
    refine awps_stp0 rfl rfl (by decide) (stp_move (.inl rfl) rfl) ?_
    refine awps_stp0 rfl rfl (by decide) (stp_move (.inr rfl) rfl) ?_
    refine awps_nil ?_
    refine thenQ_nil ?_
    refine awp_ret ?_
    -- leaf g11T0F
    refine ret0 (noL hL) (.inl rfl) (resAs_tmp rfl (resAs_nil)) ?_ ?_
    · rfl
    exact ⟨int_w hfin, rfl⟩
  try simp only [↓str_beq_t, ↓str_beq_f, decide_eq_true_eq, decide_eq_false_iff_not, Bool.not_eq_true', Bool.not_eq_false', Int.not_lt, Int.not_le, beq_iff_eq, beq_eq_false_iff_ne, bne_iff_ne, bne_eq_false_iff_eq, ne_eq] at g11
  have hfin : wgtL wK l.length (l.take k) = wgtL wK l.length l := by rw [List.take_of_length_le (by omega)]
  refine awps_gs rfl rfl rfl rfl (by decide) rfl (by decide) ?_
  refine awps_gs rfl rfl rfl rfl (by decide) rfl (by decide) ?_
  refine awps_stp0 rfl rfl (by decide) (stp_pick rfl rfl rfl) ?_
  refine awps_nil ?_
  refine thenQ_nil ?_
  refine awp_condF rfl ?_
  refine awp_exit ?_
  refine thenQ_exit (thenQ_exit (inQ_hit ?_))
  refine thenQ_nil ?_
  refine awp_seq ?_
  refine awp_region ?_
  refine awps_stp0 rfl rfl (by decide) (stp_move (.inl rfl) rfl) ?_
  refine awps_stp0 rfl rfl (by decide) (stp_move (.inr rfl) rfl) ?_
  refine awps_nil ?_
  refine thenQ_nil ?_
  refine awp_ret ?_
  -- leaf g11F
  refine ret0 (noL hL) (.inl rfl) (resAs_tmp rfl (resAs_nil)) ?_ ?_
  · rfl
  exact ⟨int_w hfin, rfl⟩
theorem wKs_range (l : List Kp) (hl : lenOk l) (hw : ∀ k ∈ l, k.wf) : 0 ≤ wKs l ∧ wKs l ≤ 4600000000000000 := by
  have hF : ∀ u, u ∈ l → 0 ≤ wK u ∧ wK u ≤ 4362862138900000 := fun u hu => wT_range u.f.t (hw u hu).2.1
  have h1 := wgtL_le wK 4362862138900000 (by omega) l.length l (fun u hu => (hF u hu).2) (by simp only [lenOk] at hl; omega)
  have h2 := wgtL_ge' wK l.length l (fun u hu => (hF u hu).1)
  simp only [wKs]; omega
def wF (f : Ft) : Int := wT f.t
def heavy9 (p : Ask9) : Bool := decide (2500 < wgtL wF (wKs p.L + p.F.length + p.N.length) p.F)
theorem Heavy9_ok (p : Ask9) (hp : p.wf) : PF 18 [.agg (lift false (a9D p))] (bv (heavy9 p)) := by
  obtain ⟨L, l, Z⟩ := p
  obtain ⟨⟨hlL, hwL⟩, ⟨hl, hwF⟩, hlZ, hwZ⟩ := hp
  have hlen := ftDs_length l
  have hlen2 : (ftDs (Ask9.mk L l Z).F).length = l.length := hlen
  have hlenZ := inDs_length Z
  have hlenZ2 : (inDs (Ask9.mk L l Z).N).length = Z.length := hlenZ
  have hrL := wKs_range L hlL hwL
  have hF : ∀ u, u ∈ l → 0 ≤ wF u ∧ wF u ≤ 5000000000000000 := fun u hu => by
    have := wT_range u.t (hwF u hu).1; simp only [wF]; omega
  simp only [lenOk] at hl hlZ
  refine AC_intro Try.func18 rfl Try.ntmps18 (Nat.le_of_ble_eq_true rfl) fun c hL hQ hDD => ?_
  refine awp_seq ?_
  refine awp_region ?_
  refine awps_stp1 rfl rfl (by decide) (stp_box 1 rfl rfl rfl) rfl ?_
  refine awps_stp0 rfl rfl (by decide) (stp_move (.inr rfl) rfl) ?_
  refine awps_nil ?_
  refine thenQ_nil ?_
  refine awp_seq ?_
  refine awp_drawG 10 mixed rfl rfl rfl rfl ?_
  first | refine MGo_c0 rfl (by decide) (.run rfl (stp_fieldAddr rfl fo_almagestlaw9_Ask_0 rfl)) ?_ | refine MGo_c0 rfl (by decide) (.run rfl (stp_fieldAddr_elp rfl fo_almagestlaw9_Ask_0 rfl)) ?_
  first | refine MGo_c0 rfl (by decide) (.run rfl (stp_load rfl tf_S_api_Kept rfl rfl rfl rfl rfl)) ?_ | refine MGo_c0 rfl (by decide) (.run rfl (stp_load_elp1 rfl tf_S_api_Kept rfl)) ?_ | refine MGo_c0 rfl (by decide) (.run rfl (stp_load_elpn rfl tf_S_api_Kept rfl rfl rfl)) ?_
  refine MGo_c0 rfl (by decide) (.run rfl (stp_call (avs := [_]) true rfl en_almagestlaw0_KeptsWeight rfl rfl (KeptsWeight_ok L hlL hwL) (fun _ => rfl) rfl)) ?_
  first | refine MGo_c0 rfl (by decide) (.run rfl (stp_fieldAddr rfl fo_almagestlaw9_Ask_1 rfl)) ?_ | refine MGo_c0 rfl (by decide) (.run rfl (stp_fieldAddr_elp rfl fo_almagestlaw9_Ask_1 rfl)) ?_
  first | refine MGo_c0 rfl (by decide) (.run rfl (stp_load rfl tf_S_api_Fact rfl rfl rfl rfl rfl)) ?_ | refine MGo_c0 rfl (by decide) (.run rfl (stp_load_elp1 rfl tf_S_api_Fact rfl)) ?_ | refine MGo_c0 rfl (by decide) (.run rfl (stp_load_elpn rfl tf_S_api_Fact rfl rfl rfl)) ?_
  first | refine MGo_c0 rfl (by decide) (.run rfl (stp_len_dat rfl sl_S_api_Fact rfl)) ?_ | refine MGo_c0 rfl (by decide) (.run rfl (stp_len_rowd rfl sl_S_api_Fact rfl rfl)) ?_ | refine MGo_c0 rfl (by decide) (.run rfl (stp_len_nil rfl sl_S_api_Fact rfl)) ?_ | refine MGo_c0 rfl (by decide) (.run rfl (stp_len_vw rfl sl_S_api_Fact rfl)) ?_
  refine MGo_c0 rfl (by decide) (.run rfl (stp_add rfl rfl rfl (by omega))) ?_
  first | refine MGo_c0 rfl (by decide) (.run rfl (stp_fieldAddr rfl fo_almagestlaw9_Ask_2 rfl)) ?_ | refine MGo_c0 rfl (by decide) (.run rfl (stp_fieldAddr_elp rfl fo_almagestlaw9_Ask_2 rfl)) ?_
  first | refine MGo_c0 rfl (by decide) (.run rfl (stp_load rfl tf_S_int rfl rfl rfl rfl rfl)) ?_ | refine MGo_c0 rfl (by decide) (.run rfl (stp_load_elp1 rfl tf_S_int rfl)) ?_ | refine MGo_c0 rfl (by decide) (.run rfl (stp_load_elpn rfl tf_S_int rfl rfl rfl)) ?_
  first | refine MGo_c0 rfl (by decide) (.run rfl (stp_len_dat rfl sl_S_int rfl)) ?_ | refine MGo_c0 rfl (by decide) (.run rfl (stp_len_rowd rfl sl_S_int rfl rfl)) ?_ | refine MGo_c0 rfl (by decide) (.run rfl (stp_len_nil rfl sl_S_int rfl)) ?_ | refine MGo_c0 rfl (by decide) (.run rfl (stp_len_vw rfl sl_S_int rfl)) ?_
  refine MGo_nil ⟨rfl, rfl, ?_⟩
  refine awps_stp0 rfl rfl (by decide) (stp_add rfl rfl rfl (by omega)) ?_
  refine awps_stp0 rfl rfl (by decide) (stp_move (.inr rfl) rfl) ?_
  refine awps_nil ?_
  refine thenQ_nil ?_
  refine awp_seq ?_
  refine awp_seq ?_
  refine awp_region ?_
  refine awps_stp0 rfl rfl (by decide) (stp_move (.inr rfl) rfl) ?_
  refine awps_nil ?_
  refine thenQ_nil ?_
  refine awp_block ?_
  refine awp_while (l.length) (fun k => k ≤ l.length ∧ ∀ j, j < k → wgtL wF (wKs L + l.length + Z.length) (l.take j) < 1048576) (fun k => ⟨[(1, .ptr 1 0), (3, iv (wgtL wF (wKs L + l.length + Z.length) (l.take k))), (4, iv (k : Int))], [(1, .box (lift false (a9D ⟨L, l, Z⟩)))]⟩) (⟨by omega, fun j hj => absurd hj (by omega)⟩) ?_ (fun k hk hp => ?_)
  · exact sub_re (SubT.cons (lk_eq rfl (by first | rfl | simp)) (SubT.cons (lk_eq rfl (by exact int_imm (by simp only [List.take_zero, wgtL]; omega))) (SubT.cons (lk_eq rfl (by first | rfl | simp)) (SubT.nil)))) (SubO.cons (ok_eq rfl (by rfl)) (SubO.nil)) rfl rfl (noL' (noL hL) _)
  have hwk := wgtL_le wF 5000000000000000 (by omega) (wKs L + l.length + Z.length) (l.take k) (fun u hu => (hF u (List.mem_of_mem_take hu)).2) (by omega)
  have hw0 := wgtL_ge' wF (wKs L + l.length + Z.length) (l.take k) (fun u hu => (hF u (List.mem_of_mem_take hu)).1)
  refine awp_seq ?_
  refine awp_seq ?_
  refine awp_region ?_
  refine awps_stp0 rfl rfl (by decide) (stp_move (.inl rfl) rfl) ?_
  first | refine awps_stp0 rfl rfl (by decide) (stp_fieldAddr rfl fo_almagestlaw9_Ask_1 rfl) ?_ | refine awps_stp0 rfl rfl (by decide) (stp_fieldAddr_elp rfl fo_almagestlaw9_Ask_1 rfl) ?_
  first | refine awps_stp0 rfl rfl (by decide) (stp_load rfl tf_S_api_Fact rfl rfl rfl rfl rfl) ?_ | refine awps_stp0 rfl rfl (by decide) (stp_load_elp1 rfl tf_S_api_Fact rfl) ?_ | refine awps_stp0 rfl rfl (by decide) (stp_load_elpn rfl tf_S_api_Fact rfl rfl rfl) ?_
  first | refine awps_stp0 rfl rfl (by decide) (stp_len_dat rfl sl_S_api_Fact rfl) ?_ | refine awps_stp0 rfl rfl (by decide) (stp_len_rowd rfl sl_S_api_Fact rfl rfl) ?_ | refine awps_stp0 rfl rfl (by decide) (stp_len_nil rfl sl_S_api_Fact rfl) ?_ | refine awps_stp0 rfl rfl (by decide) (stp_len_vw rfl sl_S_api_Fact rfl) ?_
  refine awps_stp0 rfl rfl (by decide) (stp_binI rfl rfl rfl rfl) ?_
  refine awps_stp0 rfl rfl (by decide) (stp_move (.inl rfl) rfl) ?_
  refine awps_split 21 rfl (fun g21 => ?_) (fun g21 => ?_)
  · try simp only [↓str_beq_t, ↓str_beq_f, decide_eq_true_eq, decide_eq_false_iff_not, Bool.not_eq_true', Bool.not_eq_false', Int.not_lt, Int.not_le, beq_iff_eq, beq_eq_false_iff_ne, bne_iff_ne, bne_eq_false_iff_eq, ne_eq] at g21
    obtain ⟨u, hu⟩ := get_of_lt (l := l) (k := k) (by omega)
    have hum := List.mem_of_getElem? hu
    have huw := hF u hum
    have hul := (hwF u hum).1
    have hws : wF u = wT u.t := rfl
    refine awps_g0 rfl rfl rfl (by decide) rfl (by decide) (stp_move (.inl rfl) rfl) ?_
    refine awps_g0 rfl rfl rfl (by decide) rfl (by decide) (stp_binI rfl rfl rfl rfl) ?_
    refine awps_stp0 rfl rfl (by decide) (stp_pick rfl rfl rfl) ?_
    refine awps_nil ?_
    refine thenQ_nil ?_
    refine awp_cond rfl (fun c0 => ?_) (fun c0 => ?_)
    · try simp only [↓str_beq_t, ↓str_beq_f, decide_eq_true_eq, decide_eq_false_iff_not, Bool.not_eq_true', Bool.not_eq_false', Int.not_lt, Int.not_le, beq_iff_eq, beq_eq_false_iff_ne, bne_iff_ne, bne_eq_false_iff_eq, ne_eq] at c0
      refine awp_skip ?_
      refine thenQ_nil ?_
      refine awp_seq ?_
      refine awp_block ?_
      refine awp_region ?_
      refine awps_stp0 rfl rfl (by decide) (stp_move (.inl rfl) rfl) ?_
      first | refine awps_stp0 rfl rfl (by decide) (stp_fieldAddr rfl fo_almagestlaw9_Ask_1 rfl) ?_ | refine awps_stp0 rfl rfl (by decide) (stp_fieldAddr_elp rfl fo_almagestlaw9_Ask_1 rfl) ?_
      first | refine awps_stp0 rfl rfl (by decide) (stp_load rfl tf_S_api_Fact rfl rfl rfl rfl rfl) ?_ | refine awps_stp0 rfl rfl (by decide) (stp_load_elp1 rfl tf_S_api_Fact rfl) ?_ | refine awps_stp0 rfl rfl (by decide) (stp_load_elpn rfl tf_S_api_Fact rfl rfl rfl) ?_
      refine awps_stp0 rfl rfl (by decide) (stp_move (.inl rfl) rfl) ?_
      first | refine awps_stp0 rfl rfl (by decide) (stp_indexAddr rfl sl_S_api_Fact rfl rfl (by omega) (ftDs_get hu)) ?_ | refine awps_stp0 rfl rfl (by decide) (stp_indexAddr_rowd rfl sl_S_api_Fact rfl rfl rfl (by omega) (ftDs_get hu)) ?_ | refine awps_stp0 rfl rfl (by decide) (stp_indexAddr_row rfl sl_S_api_Fact rfl rfl rfl (by omega) (ftDs_get hu) (by decide)) ?_
      first | refine awps_stp0 rfl rfl (by decide) (stp_fieldAddr rfl fo_api_Fact_0 rfl) ?_ | refine awps_stp0 rfl rfl (by decide) (stp_fieldAddr_elp rfl fo_api_Fact_0 rfl) ?_
      first | refine awps_stp0 rfl rfl (by decide) (stp_load_all rfl tf_api_Term rfl rfl rfl rfl) ?_ | refine awps_stp0 rfl rfl (by decide) (stp_load rfl tf_api_Term rfl rfl rfl rfl rfl) ?_ | refine awps_stp0 rfl rfl (by decide) (stp_load_elpa rfl tf_api_Term rfl rfl) ?_ | refine awps_stp0 rfl rfl (by decide) (stp_load_elpn rfl tf_api_Term rfl rfl rfl) ?_
      refine awps_call (avs := [_, _]) true rfl rfl rfl (by decide) en_almagestlaw0_TermWeight rfl rfl (TermWeight30_ok u.t hul) rfl rfl ?_
      refine awps_stp0 rfl rfl (by decide) (stp_add rfl rfl rfl (by omega)) ?_
      refine awps_stp0 rfl rfl (by decide) (stp_move (.inr rfl) rfl) ?_
      refine awps_nil ?_
      refine inQ_nil ?_
      refine thenQ_nil ?_
      refine awp_region ?_
      refine awps_stp0 rfl rfl (by decide) (stp_move (.inl rfl) rfl) ?_
      refine awps_stp0 rfl rfl (by decide) (stp_add rfl rfl rfl (by omega)) ?_
      refine awps_stp0 rfl rfl (by decide) (stp_move (.inr rfl) rfl) ?_
      refine awps_nil ?_
      have hb := wgtL_snoc wF (wKs L + l.length + Z.length) (l.take k) u (fun j hj => by
        by_cases hjk : j < k
        · have := hp.2 j hjk; rwa [List.take_take, Nat.min_eq_left (by omega)]
        · rw [List.take_of_length_le (by simp; omega)]; omega)
      rw [← take_snoc hu] at hb
      refine thenQ_nil ?_
      refine ⟨?_, ?_, ?_⟩
      · skip
        omega
      · skip
        refine ⟨by omega, fun j hj => ?_⟩
        by_cases hjk : j < k
        · exact hp.2 j hjk
        · rw [show j = k by omega]; omega
      exact sub_re (SubT.cons (lk_eq rfl (by first | rfl | simp)) (SubT.cons (lk_eq rfl (by exact int_imm (by rw [hb]; try omega))) (SubT.cons (lk_eq rfl (by first | rfl | simp)) (SubT.nil)))) (SubO.cons (ok_eq rfl (by rfl)) (SubO.nil)) rfl rfl (noL' (noL hL) _)
    try simp only [↓str_beq_t, ↓str_beq_f, decide_eq_true_eq, decide_eq_false_iff_not, Bool.not_eq_true', Bool.not_eq_false', Int.not_lt, Int.not_le, beq_iff_eq, beq_eq_false_iff_ne, bne_iff_ne, bne_eq_false_iff_eq, ne_eq] at c0
    have hfin : wgtL wF (wKs L + l.length + Z.length) (l.take k) = wgtL wF (wKs L + l.length + Z.length) l := ((wgtL_take wF _ _ k hp.1 hp.2).trans (wgtL_stop _ _ _ (by omega))).symm
    refine awp_exit ?_
    refine thenQ_exit (thenQ_exit (inQ_hit ?_))
    refine thenQ_nil ?_
    refine awp_seq ?_
    refine awp_region ?_
    refine awps_stp0 rfl rfl (by decide) (stp_move (.inl rfl) rfl) ?_
    refine awps_stp0 rfl rfl (by decide) (stp_binI rfl rfl rfl rfl) ?_
    refine awps_stp0 rfl rfl (by decide) (stp_move (.inr rfl) rfl) ?_
    refine awps_nil ?_
    refine thenQ_nil ?_
    refine awp_ret ?_
    -- leaf g21T0F
    refine ret0 (noL hL) (.inl rfl) (resAs_tmp rfl (resAs_nil)) ?_ ?_
    · rfl
    refine ⟨bool_w ?_, rfl⟩
    rw [hfin]
    simp only [heavy9]
    try rfl
  try simp only [↓str_beq_t, ↓str_beq_f, decide_eq_true_eq, decide_eq_false_iff_not, Bool.not_eq_true', Bool.not_eq_false', Int.not_lt, Int.not_le, beq_iff_eq, beq_eq_false_iff_ne, bne_iff_ne, bne_eq_false_iff_eq, ne_eq] at g21
  have hfin : wgtL wF (wKs L + l.length + Z.length) (l.take k) = wgtL wF (wKs L + l.length + Z.length) l := by rw [List.take_of_length_le (by omega)]
  refine awps_gs rfl rfl rfl rfl (by decide) rfl (by decide) ?_
  refine awps_gs rfl rfl rfl rfl (by decide) rfl (by decide) ?_
  refine awps_stp0 rfl rfl (by decide) (stp_pick rfl rfl rfl) ?_
  refine awps_nil ?_
  refine thenQ_nil ?_
  refine awp_condF rfl ?_
  refine awp_exit ?_
  refine thenQ_exit (thenQ_exit (inQ_hit ?_))
  refine thenQ_nil ?_
  refine awp_seq ?_
  refine awp_region ?_
  refine awps_stp0 rfl rfl (by decide) (stp_move (.inl rfl) rfl) ?_
  refine awps_stp0 rfl rfl (by decide) (stp_binI rfl rfl rfl rfl) ?_
  refine awps_stp0 rfl rfl (by decide) (stp_move (.inr rfl) rfl) ?_
  refine awps_nil ?_
  refine thenQ_nil ?_
  refine awp_ret ?_
  -- leaf g21F
  refine ret0 (noL hL) (.inl rfl) (resAs_tmp rfl (resAs_nil)) ?_ ?_
  · rfl
  refine ⟨bool_w ?_, rfl⟩
  rw [hfin]
  simp only [heavy9]
  try rfl
end Go.Proofs.Ytdecgkhdbfgldaa
