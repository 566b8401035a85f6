/- Part 10 of the proof: Ha, Gq, Gr, Gs, Gt, Gu. -/
import Derived.Test.YtdecgkhdbfgldaaGreatE9
import Derived.DeepKeys4
set_option linter.unusedVariables false
set_option linter.unusedSimpArgs false
set_option maxRecDepth 8000
namespace Go.Proofs.YtdecgkhdbfgldaaGreat
open Go
theorem spv_int {k : IntKind} {a : Int} {v : Value} (h : SpV (.int k a) v) : ∃ b, v = .int k b := by
  rcases h with rfl | ⟨_, _, _, h, rfl⟩ | ⟨_, _, h, _⟩ | ⟨_, _, _, h, _⟩
  · exact ⟨a, rfl⟩
  · cases h; exact ⟨_, rfl⟩
  · cases h
  · cases h
theorem spv_str {a : ByteArray} {v : Value} (h : SpV (.string a) v) : ∃ b, v = .string b := by
  rcases h with rfl | ⟨_, _, _, h, _⟩ | ⟨_, _, h, rfl⟩ | ⟨_, _, _, h, _⟩
  · exact ⟨a, rfl⟩
  · cases h
  · cases h; exact ⟨_, rfl⟩
  · cases h
def dlb : Nat → Tm → Prop
  | 0, _ => False
  | d + 1, t => t.args.length ≤ 140737488351232 ∧ ∀ u, u ∈ t.args → dlb d u
theorem dlb_of : ∀ (d : Nat) (t : Tm), dle d t → t.wf → dlb d t
  | 0, t, h, _ => h
  | d + 1, t, h, hw => ⟨by have := hw.2.2.2.1; omega, fun u hu => dlb_of d u (h u hu) (Tm.wfs_mem hw.2.2.2.2 hu)⟩
mutual
theorem shTm : ∀ (t : Tm) (ds' : List D), ShCs (tmD0 t) ds' → ∃ t', ds' = tmD t' ∧ ∀ d, dlb d t → dlb d t'
  | ⟨k, nm, n, xs⟩, ds', h => by
    simp only [tmD0, ShCs, ShD] at h
    obtain ⟨_, _, rfl, ⟨v1, rfl, h1⟩, _, _, rfl, ⟨v2, rfl, h2⟩, _, _, rfl, ⟨v3, rfl, h3⟩, _, _, rfl, ⟨es', rfl, h4⟩, rfl⟩ := h
    obtain ⟨k', rfl⟩ := spv_int h1
    obtain ⟨s', rfl⟩ := spv_str h2
    obtain ⟨n', rfl⟩ := spv_int h3
    rcases h4 with rfl | h4
    · refine ⟨⟨k', s', n', []⟩, rfl, fun d hd => ?_⟩
      cases d with
      | zero => exact hd
      | succ d => exact ⟨Nat.zero_le _, fun u hu => by cases hu⟩
    · obtain ⟨xs', rfl, hl', hd'⟩ := shTms xs es' h4
      refine ⟨⟨k', s', n', xs'⟩, rfl, fun d hd => ?_⟩
      cases d with
      | zero => exact hd
      | succ d => exact ⟨by rw [hl']; exact hd.1, hd' d hd.2⟩
theorem shTms : ∀ (xs : List Tm) (es' : List (List D)), ShEs (tmDs xs) es' → ∃ xs', es' = tmDs xs' ∧ xs'.length = xs.length ∧ ∀ d, (∀ u ∈ xs, dlb d u) → ∀ u ∈ xs', dlb d u
  | [], es', h => by simp only [tmDs, ShEs] at h; subst h; exact ⟨[], rfl, rfl, fun d _ u hu => by cases hu⟩
  | t :: ts, es', h => by
    simp only [tmDs, ShEs] at h
    obtain ⟨e', es'', rfl, h1, h2⟩ := h
    obtain ⟨t', rfl, h3⟩ := shTm t e' h1
    obtain ⟨ts', rfl, h4, h5⟩ := shTms ts es'' h2
    refine ⟨t' :: ts', by simp only [tmDs, tmD0_eq], by simp [h4], fun d hd u hu => ?_⟩
    rcases List.mem_cons.1 hu with rfl | hu
    · exact h3 d (hd t (by simp))
    · exact h5 d (fun u hu => hd u (by simp [hu])) u hu
end
theorem shTmD {t : Tm} {ds' : List D} (h : ShCs (tmD t) ds') : ∃ t', ds' = tmD t' ∧ ∀ d, dlb d t → dlb d t' := shTm t ds' (by rw [tmD0_eq]; exact h)
theorem sh_tmbox {t : Tm} {o' : Ob} (h : ShOb (.box (lift true (tmD t))) o') : ∃ t', o' = .box (lift true (tmD t')) ∧ t'.args.length = t.args.length ∧ ∀ d, dlb d t → dlb d t' := by
  simp only [ShOb, tmD, lift, List.map_cons, List.map_nil, D.av, ShL, ShV, if_true] at h
  obtain ⟨cs', rfl, _, _, rfl, rfl, _, _, rfl, rfl, _, _, rfl, rfl, _, _, rfl, ⟨es', rfl, h⟩, rfl⟩ := h
  obtain ⟨xs', rfl, h1, h2⟩ := shTms t.args es' h
  refine ⟨⟨t.kind, t.name, t.n, xs'⟩, rfl, h1, fun d hd => ?_⟩
  cases d with
  | zero => exact hd
  | succ d => exact ⟨by rw [h1]; exact hd.1, h2 d hd.2⟩
theorem shO_one {l : Nat} {o : Ob} {O' : List (Nat × Ob)} (h : ShO [(l, o)] O') : ∃ o', O' = [(l, o')] ∧ ShOb o o' := by
  simp only [ShO] at h
  obtain ⟨o', O'', rfl, h, rfl⟩ := h
  exact ⟨o', rfl, h⟩
theorem shL_false : ∀ (ds : List D) (cs' : List AV), ShL (lift false ds) cs' → cs' = lift false ds
  | [], cs', h => by simpa [lift, ShL] using h
  | d :: ds, cs', h => by
    simp only [lift, List.map_cons, ShL] at h
    obtain ⟨v', vs', rfl, h1, h2⟩ := h
    have ih := shL_false ds vs' h2
    have : v' = D.av false d := by
      cases d with
      | imm v => simpa [D.av, ShV] using h1
      | sl k es =>
        simp only [D.av, ShV] at h1
        obtain ⟨es', rfl, h1⟩ := h1
        have : es' = es := by simpa using h1
        rw [this]; rfl
    rw [this, ih]; rfl
theorem shO_box {l : Nat} {ds : List D} {O' : List (Nat × Ob)} (h : ShO [(l, .box (lift false ds))] O') : O' = [(l, .box (lift false ds))] := by
  obtain ⟨o', rfl, h2⟩ := shO_one h
  simp only [ShOb] at h2
  obtain ⟨cs', rfl, h3⟩ := h2
  rw [shL_false ds cs' h3]
theorem spoilTerm_ok : ∀ (d : Nat) (t : Tm), dlb d t → SPC Tryz.prog 97 (tmA true t)
  | 0, t, h => h.elim
  | d + 1, t, h => by
    have ih := fun u hu => spoilTerm_ok d u hu
    have hlt := h.1
    refine SPC_intro Tryz.func97 rfl Tryz.ntmps97 (Nat.le_of_ble_eq_true rfl) rfl fun c hL hQW hDD => ?_; refine awp_seq ?_; refine awp_region ?_; refine awps_stp1 rfl rfl (by decide) (stp_box 1 rfl rfl rfl) rfl ?_; refine awps_nil ?_; refine thenQ_nil ?_; refine awp_seq ?_; refine awp_region ?_; refine awps_stp0 rfl rfl (by decide) (stp_move (.inr rfl) rfl) ?_; refine awps_nil ?_
    refine thenQ_nil ?_; refine awp_block ?_; refine awp_whileE (α := Tm) (t.args.length) (fun k u => dlb (d + 1) u ∧ u.args.length = t.args.length ∧ k ≤ t.args.length) (fun k u => ⟨[(1, .ptr 1 0), (2, iv (k : Int))], [(1, .box (lift true (tmD u)))]⟩) (t) (⟨h, rfl, by omega⟩) ?_ (fun k u hk hp => ?_)
    · exact sub_re (SubT.cons (lk_eq rfl (by first | rfl | simp)) (SubT.cons (lk_eq rfl (by first | rfl | simp)) (SubT.nil))) (SubO.cons (ok_eq rfl (by rfl)) (SubO.nil)) rfl rfl (noL' (noL hL) _)
    have hlu := tmDs_length u.args
    refine awp_seq ?_; refine awp_seq ?_; refine awp_region ?_; refine awps_stp0 rfl rfl (by decide) (stp_move (.inl rfl) rfl) ?_; refine awps_stp0 rfl rfl (by decide) (stp_fieldAddr rfl fo_api_Term_3 rfl) ?_; refine awps_stp0 rfl rfl (by decide) (stp_load rfl tf_S_api_Term rfl rfl rfl rfl rfl) ?_; refine awps_stp0 rfl rfl (by decide) (stp_len_dat rfl sl_S_api_Term rfl) ?_; refine awps_stp0 rfl rfl (by decide) (stp_binI rfl rfl rfl rfl) ?_; refine awps_nil ?_; refine thenQ_nil ?_; refine awp_cond rfl (fun c0 => ?_) (fun c0 => ?_)
    · try simp only [↓cqA, cqB] at c0
      obtain ⟨x, hx⟩ := get_of_lt (l := u.args) (k := k) (by omega)
      have hxd : dlb d x := hp.1.2 x (List.mem_of_getElem? hx)
      refine awp_skip ?_; refine thenQ_nil ?_; refine awp_seq ?_; refine awp_block ?_; refine awp_seq ?_; refine awp_region ?_; refine awps_stp0 rfl rfl (by decide) (stp_fieldAddr rfl fo_api_Term_3 rfl) ?_; refine awps_stp0 rfl rfl (by decide) (stp_load rfl tf_S_api_Term rfl rfl rfl rfl rfl) ?_; refine awps_stp0 rfl rfl (by decide) (stp_move (.inl rfl) rfl) ?_; refine awps_stp0 rfl rfl (by decide) (stp_indexAddr rfl sl_S_api_Term rfl rfl (by omega) (tmDs_get hx)) ?_; refine awps_stp0 rfl rfl (by decide) (stp_load_elpa rfl tf_api_Term rfl rfl) ?_
      refine awps_sub (sub_re (T1 := [(14, tmA true x), (1, .ptr 1 0), (2, iv (k : Int))]) (O1 := [(1, .box (lift true (tmD u)))]) (SubT.cons rfl (SubT.cons rfl (SubT.cons rfl SubT.nil))) (SubO.cons rfl SubO.nil) rfl rfl (noL' (noL hL) _)) ?_; refine awps_spoil rfl rfl rfl (by decide) en_almagestlaw0_Term rfl rfl rfl rfl (ih x hxd) hQW (fun T' O' hT hO => ?_)
      simp only [ShT, ShV] at hT
      obtain ⟨_, _, rfl, _, _, _, rfl, rfl, _, _, rfl, rfl, rfl⟩ := hT
      obtain ⟨ob1, rfl, hO2⟩ := shO_one hO
      obtain ⟨u1, rfl, hu1, hud1⟩ := sh_tmbox hO2
      have hlu1 := tmDs_length u1.args
      obtain ⟨x1, hx1⟩ := get_of_lt (l := u1.args) (k := k) (by omega)
      refine awps_nil ?_; refine thenQ_nil ?_; refine awp_region ?_; refine awps_stp0 rfl rfl (by decide) (stp_fieldAddr rfl fo_api_Term_3 rfl) ?_; refine awps_stp0 rfl rfl (by decide) (stp_load rfl tf_S_api_Term rfl rfl rfl rfl rfl) ?_; refine awps_stp0 rfl rfl (by decide) (stp_move (.inl rfl) rfl) ?_; refine awps_stp0 rfl rfl (by decide) (stp_build rfl zv_api_Term rfl pl_api_Term rfl rfl) ?_; refine awps_stp0 rfl rfl (by decide) (stp_indexAddr rfl sl_S_api_Term rfl rfl (by omega) (tmDs_get hx1)) ?_
      refine awps_sub (sub_re (T1 := [(20, .elp true (tmD x1)), (19, .agg [iv (-9), sv ⟨#[]⟩, iv 0, .imm (.slice none 0 0)]), (1, .ptr 1 0), (2, iv (k : Int))]) (O1 := [(1, .box (lift true (tmD u1)))]) (SubT.cons rfl (SubT.cons rfl (SubT.cons rfl (SubT.cons rfl SubT.nil)))) (SubO.cons rfl SubO.nil) rfl rfl (noL' (noL hL) _)) ?_; refine awps_spoilstore rfl rfl rfl tf_api_Term rfl rfl rfl rfl (by decide) rfl hQW (fun T' O' hT hO => ?_)
      simp only [ShT, ShV] at hT
      obtain ⟨_, _, rfl, _, _, _, rfl, _, _, _, rfl, rfl, _, _, rfl, rfl, rfl⟩ := hT
      obtain ⟨ob1, rfl, hO2⟩ := shO_one hO
      obtain ⟨u2, rfl, hu2, hud2⟩ := sh_tmbox hO2
      refine awps_nil ?_; refine inQ_nil ?_; refine thenQ_nil ?_; refine awp_region ?_; refine awps_stp0 rfl rfl (by decide) (stp_move (.inl rfl) rfl) ?_; refine awps_stp0 rfl rfl (by decide) (stp_add rfl rfl rfl (by omega)) ?_; refine awps_stp0 rfl rfl (by decide) (stp_move (.inr rfl) rfl) ?_; refine awps_nil ?_; refine thenQ_nil ?_; refine ⟨?_, u2, ?_, ?_⟩
      · skip
        omega
      · skip
        exact ⟨hud2 _ (hud1 _ hp.1), by omega, by omega⟩
      exact sub_re (SubT.cons (lk_eq rfl (by first | rfl | simp)) (SubT.cons (lk_eq rfl (by first | rfl | simp)) (SubT.nil))) (SubO.cons (ok_eq rfl (by rfl)) (SubO.nil)) rfl rfl (noL' (noL hL) _)
    try simp only [↓cqA, cqB] at c0
    refine awp_exit ?_; refine thenQ_exit (thenQ_exit (inQ_hit ?_))
    -- leaf 0F
    refine ret0 (noL hL) (.inr rfl) (resAs_nil) ?_ ?_
    · rfl
    exact ⟨rfl, rfl⟩
end Go.Proofs.YtdecgkhdbfgldaaGreat

set_option linter.unusedVariables false
set_option linter.unusedSimpArgs false
set_option maxRecDepth 8000
namespace Go.Proofs.YtdecgkhdbfgldaaGreat
open Go
def u8 (n : Int) : UInt8 := UInt8.ofNat (n % 256).toNat
theorem wrap_u8 (n : Int) : IntKind.u8.wrap n = ((u8 n).toNat : Int) := by
  have h1 : 0 ≤ n % 256 := Int.emod_nonneg _ (by decide)
  have h2 : n % 256 < 256 := Int.emod_lt_of_pos _ (by decide)
  have e : IntKind.u8.wrap n = n % 256 := by
    simp [IntKind.wrap, IntKind.signed, IntKind.bits]
  rw [e, u8, UInt8.toNat_ofNat']
  omega
def kq (n : Int) : Int := IntKind.u32.wrap (IntKind.i32.wrap n)
def keyL : Nat → Tm → List UInt8
  | 0, _ => []
  | d + 1, t => [u8 t.kind, u8 t.name.size] ++ t.name.data.toList ++ [u8 (kq t.n / 2 ^ min (24 : Int).toNat IntKind.u32.bits), u8 (kq t.n / 2 ^ min (16 : Int).toNat IntKind.u32.bits), u8 (kq t.n / 2 ^ min (8 : Int).toNat IntKind.u32.bits), u8 (kq t.n), u8 t.args.length] ++ (t.args.map (keyL d)).flatten
theorem shp_name {t : Tm} (h : t.shp) : t.name.size ≤ 16 := by
  have hw : ∀ p, wordB p t.name = true → t.name.size ≤ 16 := fun p hp => by
    simp only [wordB, Bool.and_eq_true, decide_eq_true_eq] at hp
    exact hp.1.1.2
  rcases ((Tm.shp_iff t).1 h).1 with ⟨_, h, _⟩ | ⟨_, _, h, _⟩ | ⟨_, h, _⟩
  · exact hw _ h
  · omega
  · exact hw _ h
theorem keyL_len : ∀ (d : Nat) (t : Tm), t.shp → (keyL d t).length ≤ 23 * t.sz
  | 0, t, _ => by simp [keyL]
  | d + 1, t, h => by
    have hn := shp_name h
    have e : t.name.data.toList.length = t.name.size := by simp
    have key : ∀ l : List Tm, (∀ u ∈ l, u.shp) → (l.map (keyL d)).flatten.length ≤ 23 * (l.map Tm.sz).sum := fun l => by
      induction l with
      | nil => intro _; simp
      | cons a l ih =>
        intro hl
        have h1 := ih fun u hu => hl u (by simp [hu])
        have h2 := keyL_len d a (hl a (by simp))
        simp only [List.map_cons, List.flatten_cons, List.length_append, List.sum_cons]
        omega
    have h3 := key t.args fun u hu => h.arg hu
    rw [Tm.sz_eq, keyL]
    simp only [List.length_append, List.length_cons, List.length_nil, e]
    omega
theorem Key_ok : ∀ (d : Nat) (t : Tm), dle d t → t.shp → t.wf → t.sz ≤ 1000 → PF 195 [tmA false t] (sv ⟨(keyL d t).toArray⟩)
  | 0, t, h, _, _, _ => h.elim
  | d + 1, t, h, hs, ht, hz => by
    have hlen := tmDs_length t.args
    have hal : t.args.length ≤ 4 := by
      rcases ((Tm.shp_iff t).1 hs).1 with ⟨_, _, _, e⟩ | ⟨_, _, _, e⟩ | ⟨_, _, _, e⟩ <;> simp_all
    have hnm := shp_name hs
    have hkl := keyL_len (d + 1) t hs
    have hk2 : (keyL (d + 1) t).length = 7 + t.name.size + ((t.args.map (keyL d)).flatten).length := by
      have e : t.name.data.toList.length = t.name.size := by simp
      rw [keyL]; simp only [List.length_append, List.length_cons, List.length_nil, e]; omega
    have e8 : ∀ l : List UInt8, (ByteArray.mk l.toArray).size = l.length := fun l => by simp [ByteArray.size]
    refine AC_intro Tryz.func195 rfl Tryz.ntmps195 (Nat.le_of_ble_eq_true rfl) fun c hL hQ hDD => ?_; refine awp_seq ?_; refine awp_region ?_; refine awps_stp1 rfl rfl (by decide) (stp_box 1 rfl rfl rfl) rfl ?_; refine awps_stp0 rfl rfl (by decide) (stp_move (.inr rfl) rfl) ?_; refine awps_nil ?_; refine thenQ_nil ?_; refine awp_seq ?_; refine awp_region ?_; refine awps_stp0 rfl rfl (by decide) (stp_fieldAddr rfl fo_api_Term_0 rfl) ?_; refine awps_stp0 rfl rfl (by decide) (stp_load rfl tf_int rfl rfl rfl rfl rfl) ?_; refine awps_stp0 rfl rfl (by decide) (stp_conv rfl us_int ul_uint8 rfl) ?_
    refine awps_stp0 rfl rfl (by decide) (stp_fieldAddr rfl fo_api_Term_1 rfl) ?_; refine awps_stp0 rfl rfl (by decide) (stp_load rfl tf_string rfl rfl rfl rfl rfl) ?_; refine awps_stp0 rfl rfl (by decide) (stp_len_str rfl ul_string rfl) ?_; refine awps_stp0 rfl rfl (by decide) (stp_conv rfl us_int ul_uint8 rfl) ?_
    rw [wrap_u8, wrap_u8]
    refine awps_stp1 rfl rfl (by decide) (stp_buildSlice 14 rfl sl_S_uint8 zv_uint8 rfl rfl (by decide) (by decide) (by decide) rfl rfl rfl) rfl ?_; refine awps_rowd 14 false 2 rfl rfl rfl rfl ?_; refine awps_stp0 rfl rfl (by decide) (stp_move (.inr rfl) rfl) ?_; refine awps_nil ?_; refine thenQ_nil ?_; refine awp_seq ?_; refine awp_region ?_; refine awps_stp0 rfl rfl (by decide) (stp_move (.inl rfl) rfl) ?_; refine awps_stp0 rfl rfl (by decide) (stp_fieldAddr rfl fo_api_Term_1 rfl) ?_; refine awps_stp0 rfl rfl (by decide) (stp_load rfl tf_string rfl rfl rfl rfl rfl) ?_
    refine awps_append_str 18 ta_S_uint8 (by kernel_rfl) ul_string rfl rfl (by decide) rfl rfl rfl (noL hL _) rfl rfl (by simp [chunk]; omega) ?_; refine awps_stp0 rfl rfl (by decide) (stp_move (.inr rfl) rfl) ?_; refine awps_nil ?_; refine thenQ_nil ?_; refine awp_seq ?_; refine awp_region ?_; refine awps_stp0 rfl rfl (by decide) (stp_fieldAddr rfl fo_api_Term_2 rfl) ?_; refine awps_stp0 rfl rfl (by decide) (stp_load rfl tf_int rfl rfl rfl rfl rfl) ?_
    refine awps_stp0 rfl rfl (by decide) (stp_conv rfl us_int ul_int32 rfl) ?_; refine awps_stp0 rfl rfl (by decide) (stp_conv rfl us_int32 ul_uint32 rfl) ?_; refine awps_stp0 rfl rfl (by decide) (stp_move (.inr rfl) rfl) ?_; refine awps_nil ?_; refine thenQ_nil ?_; refine awp_seq ?_; refine awp_region ?_; refine awps_stp0 rfl rfl (by decide) (stp_move (.inl rfl) rfl) ?_
    refine awps_stp0 rfl rfl (by decide) (stp_move (.inl rfl) rfl) ?_; refine awps_stp0 rfl rfl (by decide) (stp_shr rfl rfl rfl (by decide)) ?_; refine awps_stp0 rfl rfl (by decide) (stp_conv rfl us_uint32 ul_uint8 rfl) ?_; refine awps_stp0 rfl rfl (by decide) (stp_move (.inl rfl) rfl) ?_; refine awps_stp0 rfl rfl (by decide) (stp_shr rfl rfl rfl (by decide)) ?_
    refine awps_stp0 rfl rfl (by decide) (stp_conv rfl us_uint32 ul_uint8 rfl) ?_; refine awps_stp0 rfl rfl (by decide) (stp_move (.inl rfl) rfl) ?_; refine awps_stp0 rfl rfl (by decide) (stp_shr rfl rfl rfl (by decide)) ?_; refine awps_stp0 rfl rfl (by decide) (stp_conv rfl us_uint32 ul_uint8 rfl) ?_; refine awps_stp0 rfl rfl (by decide) (stp_move (.inl rfl) rfl) ?_; refine awps_stp0 rfl rfl (by decide) (stp_conv rfl us_uint32 ul_uint8 rfl) ?_; refine awps_stp0 rfl rfl (by decide) (stp_fieldAddr rfl fo_api_Term_3 rfl) ?_
    refine awps_stp0 rfl rfl (by decide) (stp_load rfl tf_S_api_Term rfl rfl rfl rfl rfl) ?_; refine awps_stp0 rfl rfl (by decide) (stp_len_dat rfl sl_S_api_Term rfl) ?_; refine awps_stp0 rfl rfl (by decide) (stp_conv rfl us_int ul_uint8 rfl) ?_
    simp only [wrap_u8]
    refine awps_stp1 rfl rfl (by decide) (stp_buildSlice 39 rfl sl_S_uint8 zv_uint8 rfl rfl (by decide) (by decide) (by decide) rfl rfl rfl) rfl ?_; refine awps_rowd 39 false 5 rfl rfl rfl rfl ?_; refine awps_append_src 40 ta_S_uint8 rfl rfl (by decide) rfl rfl rfl (src_rowd rfl rfl) rfl (fun d hd => by simp only [chunk, List.take, List.drop, List.mem_cons, List.not_mem_nil, or_false] at hd; rcases hd with rfl | rfl | rfl | rfl | rfl <;> rfl) (noL hL _) rfl (by simp [chunk, btL_length]; omega) rfl ?_; refine awps_stp0 rfl rfl (by decide) (stp_move (.inr rfl) rfl) ?_
    refine awps_nil ?_; refine thenQ_nil ?_; refine awp_seq ?_; refine awp_seq ?_; refine awp_region ?_; refine awps_stp0 rfl rfl (by decide) (stp_fieldAddr rfl fo_api_Term_3 rfl) ?_; refine awps_stp0 rfl rfl (by decide) (stp_load rfl tf_S_api_Term rfl rfl rfl rfl rfl) ?_; refine awps_stp0 rfl rfl (by decide) (stp_len_dat rfl sl_S_api_Term rfl) ?_; refine awps_stp0 rfl rfl (by decide) (stp_move (.inl rfl) rfl) ?_; refine awps_nil ?_; refine thenQ_nil ?_; refine awp_block ?_
    refine awp_while (t.args.length) (fun k => k ≤ t.args.length) (fun k => ⟨[(3, .row 3), (42, .dat false 4 (tmDs t.args)), (43, iv (tmDs t.args).length), (44, iv (k : Int))], [(3, .rowd 5 1 false (btL ([u8 t.kind, u8 t.name.size] ++ t.name.data.toList ++ [u8 (kq t.n / 2 ^ min (24 : Int).toNat IntKind.u32.bits), u8 (kq t.n / 2 ^ min (16 : Int).toNat IntKind.u32.bits), u8 (kq t.n / 2 ^ min (8 : Int).toNat IntKind.u32.bits), u8 (kq t.n), u8 t.args.length] ++ ((t.args.take k).map (keyL d)).flatten)))]⟩) (by omega) ?_ (fun k hk hp => ?_)
    · exact Sub.trans (sub_rename 40 3 (noL hL _) (noL hL _)) (sub_re (SubT.cons (lk_eq rfl (by first | rfl | simp)) (SubT.cons (lk_eq rfl (by first | rfl | simp)) (SubT.cons (lk_eq rfl (by first | rfl | simp)) (SubT.cons (lk_eq rfl (by first | rfl | simp)) (SubT.nil))))) (SubO.cons (ok_eq rfl (by simp [btL, chunk, hlen]; rfl)) (SubO.nil)) rfl rfl (noL' (noL hL) _))
    have hfl := flat_le (t.args.map (keyL d)) k
    rw [← List.map_take] at hfl
    have hbl := btL_length ([u8 t.kind, u8 t.name.size] ++ t.name.data.toList ++ [u8 (kq t.n / 2 ^ min (24 : Int).toNat IntKind.u32.bits), u8 (kq t.n / 2 ^ min (16 : Int).toNat IntKind.u32.bits), u8 (kq t.n / 2 ^ min (8 : Int).toNat IntKind.u32.bits), u8 (kq t.n), u8 t.args.length] ++ ((t.args.take k).map (keyL d)).flatten)
    have hbl2 : ([u8 t.kind, u8 t.name.size] ++ t.name.data.toList ++ [u8 (kq t.n / 2 ^ min (24 : Int).toNat IntKind.u32.bits), u8 (kq t.n / 2 ^ min (16 : Int).toNat IntKind.u32.bits), u8 (kq t.n / 2 ^ min (8 : Int).toNat IntKind.u32.bits), u8 (kq t.n), u8 t.args.length] ++ ((t.args.take k).map (keyL d)).flatten).length = 7 + t.name.size + (((t.args.take k).map (keyL d)).flatten).length := by
      have e : t.name.data.toList.length = t.name.size := by simp
      simp only [List.length_append, List.length_cons, List.length_nil, e]; omega
    refine awp_seq ?_; refine awp_region ?_; refine awps_stp0 rfl rfl (by decide) (stp_binI rfl rfl rfl rfl) ?_; refine awps_nil ?_; refine thenQ_nil ?_; refine awp_seq ?_; refine awp_cond rfl (fun c0 => ?_) (fun c0 => ?_)
    · try simp only [↓cqA, cqB] at c0
      obtain ⟨u, hu⟩ := get_of_lt (l := t.args) (k := k) (by omega)
      have hum := List.mem_of_getElem? hu
      have husz : u.sz ≤ t.sz := by
        have := sum_split (l := t.args) (k := k) (u := u) Tm.sz hu
        rw [Tm.sz_eq t]; omega
      have hul := keyL_len d u (hs.arg hum)
      have hue := e8 (keyL d u)
      refine awp_skip ?_; refine thenQ_nil ?_; refine awp_seq ?_; refine awp_block ?_; refine awp_seq ?_; refine awp_region ?_; refine awps_stp0 rfl rfl (by decide) (stp_indexAddr rfl sl_S_api_Term rfl rfl (by omega) (tmDs_get hu)) ?_; refine awps_stp0 rfl rfl (by decide) (stp_load_elpa rfl tf_api_Term rfl rfl) ?_
      refine awps_stp1 rfl rfl (by decide) (stp_alloc 6 rfl zv_api_Term rfl) rfl ?_; refine awps_store rfl rfl rfl tf_api_Term rfl rfl rfl rfl rfl rfl rfl rfl rfl ?_; refine awps_nil ?_; refine thenQ_nil ?_; refine awp_region ?_; refine awps_stp0 rfl rfl (by decide) (stp_move (.inl rfl) rfl) ?_; refine awps_stp0 rfl rfl (by decide) (stp_load_all rfl tf_api_Term rfl rfl rfl rfl) ?_
      refine awps_call (avs := [_]) true rfl rfl rfl (by decide) en_term_Key rfl rfl (Key_ok d u (h u hum) (hs.arg hum) (Tm.wfs_mem ht.2.2.2.2 hum) (by omega)) rfl rfl ?_; refine awps_append_str 51 ta_S_uint8 (by kernel_rfl) ul_string rfl rfl (by decide) rfl rfl rfl (noL hL _) rfl rfl (by omega) ?_; refine awps_stp0 rfl rfl (by decide) (stp_move (.inr rfl) rfl) ?_; refine awps_nil ?_
      refine inQ_nil ?_; refine thenQ_nil ?_; refine awp_region ?_; refine awps_stp0 rfl rfl (by decide) (stp_add rfl rfl rfl (by omega)) ?_; refine awps_stp0 rfl rfl (by decide) (stp_move (.inl rfl) rfl) ?_; refine awps_nil ?_; refine thenQ_nil ?_; refine ⟨?_, ?_, ?_⟩
      · skip
        omega
      · skip
        omega
      exact Sub.trans (sub_rename 51 3 (noL hL _) (noL hL _)) (sub_re (SubT.cons (lk_eq rfl (by first | rfl | simp)) (SubT.cons (lk_eq rfl (by first | rfl | simp)) (SubT.cons (lk_eq rfl (by first | rfl | simp)) (SubT.cons (lk_eq rfl (by first | rfl | simp)) (SubT.nil))))) (SubO.cons (ok_eq rfl (by rw [take_snoc hu, List.map_append, List.flatten_append]; simp [btL]; rfl)) (SubO.nil)) rfl rfl (noL' (noL hL) _))
    try simp only [↓cqA, cqB] at c0
    refine awp_exit ?_; refine thenQ_exit (thenQ_exit (inQ_hit ?_)); refine thenQ_nil ?_; refine awp_seq ?_; refine awp_region ?_; refine awps_stp0 rfl rfl (by decide) (stp_move (.inl rfl) rfl) ?_; refine awps_stp0 rfl rfl (by decide) (stp_conv_bytes rfl (by kernel_rfl) ul_uint8 ul_string rfl rfl) ?_; refine awps_stp0 rfl rfl (by decide) (stp_move (.inr rfl) rfl) ?_; refine awps_nil ?_; refine thenQ_nil ?_; refine awp_ret ?_
    -- leaf 0F
    refine ret0 (noL hL) (.inl rfl) (resAs_tmp rfl (resAs_nil)) ?_ ?_
    · rfl
    refine ⟨?_, rfl⟩
    rw [List.take_of_length_le (by omega), keyL]; rfl
end Go.Proofs.YtdecgkhdbfgldaaGreat

set_option linter.unusedVariables false
set_option linter.unusedSimpArgs false
namespace Go.Proofs.YtdecgkhdbfgldaaGreat
open Go
theorem u8_inj {a b : Int} (h : u8 a = u8 b) : a % 256 = b % 256 := by
  have := congrArg (fun x : UInt8 => (x.toNat : Int)) h
  simp only [← wrap_u8] at this
  have e : ∀ n : Int, IntKind.u8.wrap n = n % 256 := fun n => by simp [IntKind.wrap, IntKind.signed, IntKind.bits]
  rwa [e, e] at this
theorem kq_range (n : Int) : 0 ≤ kq n ∧ kq n < 4294967296 := by
  have e : ∀ n : Int, IntKind.u32.wrap n = n % 4294967296 := fun n => by simp [IntKind.wrap, IntKind.signed, IntKind.bits]
  rw [kq, e]
  exact ⟨Int.emod_nonneg _ (by decide), Int.emod_lt_of_pos _ (by decide)⟩
theorem kq_inj {a b : Int} (ha : -1073741824 ≤ a ∧ a ≤ 1073741824) (hb : -1073741824 ≤ b ∧ b ≤ 1073741824) (h : kq a = kq b) : a = b := by
  have e : ∀ n : Int, IntKind.u32.wrap n = n % 4294967296 := fun n => by simp [IntKind.wrap, IntKind.signed, IntKind.bits]
  have e2 : ∀ n : Int, -1073741824 ≤ n ∧ n ≤ 1073741824 → IntKind.i32.wrap n = n := fun n hn => by
    simp [IntKind.wrap, IntKind.signed, IntKind.bits]
    split <;> omega
  rw [kq, kq, e, e, e2 a ha, e2 b hb] at h
  omega
theorem flat_inj {α β : Type} {f : α → List β} : ∀ (l m : List α) (r s : List β), l.length = m.length → (∀ a ∈ l, ∀ b ∈ m, ∀ r s, f a ++ r = f b ++ s → a = b ∧ r = s) → (l.map f).flatten ++ r = (m.map f).flatten ++ s → l = m ∧ r = s
  | [], [], r, s, _, _, h => ⟨rfl, by simpa using h⟩
  | a :: l, b :: m, r, s, hl, hf, h => by
    simp only [List.map_cons, List.flatten_cons, List.append_assoc] at h
    obtain ⟨h1, h2⟩ := hf a (by simp) b (by simp) _ _ h
    obtain ⟨h3, h4⟩ := flat_inj l m r s (by simpa using hl) (fun x hx y hy => hf x (by simp [hx]) y (by simp [hy])) h2
    exact ⟨by rw [h1, h3], h4⟩
  | [], _ :: _, _, _, hl, _, _ => by simp at hl
  | _ :: _, [], _, _, hl, _, _ => by simp at hl
theorem shp_n {t : Tm} (h : t.shp) : -1073741824 ≤ t.n ∧ t.n ≤ 1073741824 := by
  rcases ((Tm.shp_iff t).1 h).1 with ⟨_, _, e, _⟩ | ⟨_, e, _⟩ | ⟨_, _, e, _⟩
  · omega
  · simpa [numB] using e
  · omega
theorem shp_k {t : Tm} (h : t.shp) : 1 ≤ t.kind ∧ t.kind ≤ 3 := by
  rcases ((Tm.shp_iff t).1 h).1 with ⟨e, _⟩ | ⟨e, _⟩ | ⟨e, _⟩ <;> omega
theorem shp_al {t : Tm} (h : t.shp) : t.args.length ≤ 4 := by
  rcases ((Tm.shp_iff t).1 h).1 with ⟨_, _, _, e⟩ | ⟨_, _, _, e⟩ | ⟨_, _, _, e⟩
  · rw [e]; simp
  · rw [e]; simp
  · exact e
theorem keyL_inj : ∀ (d : Nat) (a b : Tm), dle d a → dle d b → a.shp → b.shp → ∀ r s : List UInt8, keyL d a ++ r = keyL d b ++ s → a = b ∧ r = s
  | 0, a, _, h, _, _, _ => h.elim
  | d + 1, a, b, da, db, sa, sb => fun r s h => by
    have na := shp_name sa
    have nb := shp_name sb
    have la : a.name.data.toList.length = a.name.size := by simp
    have lb : b.name.data.toList.length = b.name.size := by simp
    have ka := shp_k sa
    have kb := shp_k sb
    have aa := shp_al sa
    have ab := shp_al sb
    rw [keyL, keyL] at h
    simp only [List.append_assoc, List.cons_append, List.nil_append, List.cons.injEq] at h
    obtain ⟨h1, h2, h⟩ := h
    have h1 := u8_inj h1
    have h2 := u8_inj h2
    have hsz : a.name.size = b.name.size := by omega
    obtain ⟨h3, h⟩ := List.append_inj h (by rw [la, lb, hsz])
    simp only [List.cons.injEq] at h
    obtain ⟨q1, q2, q3, q4, q5, h⟩ := h
    have q1 := u8_inj q1
    have q2 := u8_inj q2
    have q3 := u8_inj q3
    have q4 := u8_inj q4
    have q5 := u8_inj q5
    have c24 : min (24 : Int).toNat IntKind.u32.bits = 24 := by decide
    have c16 : min (16 : Int).toNat IntKind.u32.bits = 16 := by decide
    have c8 : min (8 : Int).toNat IntKind.u32.bits = 8 := by decide
    rw [c24] at q1
    rw [c16] at q2
    rw [c8] at q3
    have ra := kq_range a.n
    have rb := kq_range b.n
    have hq : kq a.n = kq b.n := by
      have p24 : (2 : Int) ^ 24 = 16777216 := by decide
      have p16 : (2 : Int) ^ 16 = 65536 := by decide
      have p8 : (2 : Int) ^ 8 = 256 := by decide
      rw [p24] at q1
      rw [p16] at q2
      rw [p8] at q3
      omega
    have hn := kq_inj (shp_n sa) (shp_n sb) hq
    obtain ⟨h4, h5⟩ := flat_inj a.args b.args r s (by omega) (fun x hx y hy => keyL_inj d x y (da x hx) (db y hy) (sa.arg hx) (sb.arg hy)) h
    refine ⟨?_, h5⟩
    have hk : a.kind = b.kind := by omega
    have hnm := bext h3
    cases a; cases b
    simp only at hk hnm hn h4
    rw [hk, hnm, hn, h4]
end Go.Proofs.YtdecgkhdbfgldaaGreat

set_option linter.unusedVariables false
set_option linter.unusedSimpArgs false
set_option maxRecDepth 8000
namespace Go.Proofs.YtdecgkhdbfgldaaGreat
open Go Go.Maps
def keyS (f : Ft) : ByteArray := ⟨(keyL 5 f.t).toArray⟩
abbrev idA (f : Ft) : AV := .agg [sv (keyS f), iv f.fr, iv f.to]
theorem Of_ok (f : Ft) (hf : f.wf) (hm : mayT f.t = true) : PF 180 [ftA f] (idA f) := by
  have hz := ((mayT_iff f.t).1 hm).2.2
  refine AC_intro Tryz.func180 rfl Tryz.ntmps180 (Nat.le_of_ble_eq_true rfl) fun c hL hQ hDD => ?_; refine awp_seq ?_; refine awp_region ?_; refine awps_stp1 rfl rfl (by decide) (stp_box 1 rfl rfl rfl) rfl ?_; refine awps_stp1 rfl rfl (by decide) (stp_alloc 2 rfl zv_facts_ID rfl) rfl ?_; refine awps_nil ?_; refine thenQ_nil ?_; refine awp_seq ?_; refine awp_drawG 5 mixed rfl rfl rfl rfl ?_; refine MGo_c0 rfl (by decide) (.run rfl (stp_fieldAddr rfl fo_api_Fact_0 rfl)) ?_; refine MGo_c0 rfl (by decide) (.run rfl (stp_load rfl tf_api_Term rfl rfl rfl rfl rfl)) ?_
  refine MGo_c0 rfl (by decide) (.run rfl (stp_call (avs := [_]) true rfl en_term_Key rfl rfl (Key_ok 5 f.t (may_dle hm) (may_shp hm) hf.1 (by omega)) (fun _ => rfl) rfl)) ?_; refine MGo_c0 rfl (by decide) (.run rfl (stp_fieldAddr rfl fo_api_Fact_1 rfl)) ?_; refine MGo_c0 rfl (by decide) (.run rfl (stp_load rfl tf_api_Span rfl rfl rfl rfl rfl)) ?_
  refine MGo_nil ⟨rfl, rfl, ?_⟩; refine awps_stp0 rfl rfl (by decide) (stp_build rfl zv_facts_ID rfl pl_facts_ID rfl rfl) ?_; refine awps_store rfl rfl rfl tf_facts_ID rfl rfl rfl rfl rfl rfl rfl rfl rfl ?_; refine awps_nil ?_; refine thenQ_nil ?_; refine awp_ret ?_
  -- leaf 
  refine ret0 (noL hL) (.inl rfl) (resAs_cell tf_facts_ID rfl rfl rfl (resAs_nil)) ?_ ?_
  · rfl
  exact ⟨rfl, rfl⟩
theorem kd_facts_ID : Keyed Tryz.prog 197 := Keyed.of_law (deep_law_laid laidOut (m := 3) (by omega) (of_decide_eq_true (by kernel_rfl)) (by kernel_rfl) (by kernel_rfl))
def idLit (f : Ft) : Lit := .string (keyBytes [.string (keyS f).data.toList, .int .i64 f.fr, .int .i64 f.to])
abbrev idV (f : Ft) : Value := .agg #[.string (keyS f), .int .i64 f.fr, .int .i64 f.to]
noncomputable def idFs : Array Field := match Tryz.prog.underlying 197 with | some (.struct fs) => fs | _ => #[]
theorem idFs_u : Tryz.prog.underlying 197 = some (.struct idFs) := by kernel_rfl
theorem idFs_l : idFs.toList.map (fun f => (f.type, f.offset)) = [(9, 0), (84, 1)] := by kernel_rfl
theorem idFs_a : idFs.all (·.name != "_") = true := by kernel_rfl
noncomputable def spFs : Array Field := match Tryz.prog.underlying 84 with | some (.struct fs) => fs | _ => #[]
theorem spFs_u : Tryz.prog.underlying 84 = some (.struct spFs) := by kernel_rfl
theorem spFs_l : spFs.toList.map (fun f => (f.type, f.offset)) = [(3, 0), (3, 1)] := by kernel_rfl
theorem spFs_a : spFs.all (·.name != "_") = true := by kernel_rfl
theorem mapM_pair {α : Type} (g : TypeId → Nat → Option α) (l : List Field) : l.mapM (fun f => g f.type f.offset) = (l.map fun f => (f.type, f.offset)).mapM fun p => g p.1 p.2 := by
  induction l with
  | nil => rfl
  | cons a l ih => simp only [List.map_cons, List.mapM_cons, ih]
theorem i64_wf {n : Int} (h : i64 n) : (Lit.int .i64 n).wf = true := by
  simp only [i64] at h
  simp [Lit.wf, IntKind.min, IntKind.max, IntKind.signed, IntKind.bits]
  omega
theorem keyLits_int (d : Nat) {n : Int} (h : i64 n) : Tryz.prog.keyLits (d + 1) 3 [.int .i64 n] = some [.int .i64 n] := by
  unfold Program.keyLits; rw [ul_int]
  simp [i64_wf h]
theorem keyLits_str (d : Nat) {s : ByteArray} (h : s.size ≤ maxLen) : Tryz.prog.keyLits (d + 1) 9 [.string s] = some [.string s.data.toList] := by
  unfold Program.keyLits; rw [ul_string]
  simp [h]
theorem keyLits_Span (d : Nat) {a b : Int} (h1 : i64 a) (h2 : i64 b) : Tryz.prog.keyLits (d + 2) 84 [.int .i64 a, .int .i64 b] = some [.int .i64 a, .int .i64 b] := by
  unfold Program.keyLits; rw [spFs_u]
  simp only
  rw [if_pos ⟨by kernel_rfl, spFs_a⟩, mapM_pair (fun t o => Tryz.prog.keyLits (d + 1) t (([Value.int .i64 a, .int .i64 b].drop o).take (Tryz.prog.cellsOf t))), spFs_l]
  have e : Tryz.prog.cellsOf 3 = 1 := by kernel_rfl
  simp only [List.mapM_cons, List.mapM_nil, e, List.drop_zero, List.drop_succ_cons, List.take_succ_cons, List.take_zero, keyLits_int d h1, keyLits_int d h2]
  rfl
theorem keyLits_ID (d : Nat) (f : Ft) (hs : (keyS f).size ≤ maxLen) (h1 : i64 f.fr) (h2 : i64 f.to) : Tryz.prog.keyLits (d + 3) 197 [.string (keyS f), .int .i64 f.fr, .int .i64 f.to] = some [.string (keyS f).data.toList, .int .i64 f.fr, .int .i64 f.to] := by
  unfold Program.keyLits; rw [idFs_u]
  simp only
  rw [if_pos ⟨by kernel_rfl, idFs_a⟩, mapM_pair (fun t o => Tryz.prog.keyLits (d + 2) t (([Value.string (keyS f), .int .i64 f.fr, .int .i64 f.to].drop o).take (Tryz.prog.cellsOf t))), idFs_l]
  have e : Tryz.prog.cellsOf 9 = 1 := by kernel_rfl
  have e2 : Tryz.prog.cellsOf 84 = 2 := by kernel_rfl
  simp only [List.mapM_cons, List.mapM_nil, e, e2, List.drop_zero, List.drop_succ_cons, List.take_succ_cons, List.take_zero, keyLits_str (d + 1) hs, keyLits_Span d h1 h2]
  rfl
theorem keyOf_ID (f : Ft) (hs : (keyS f).size ≤ maxLen) (h1 : i64 f.fr) (h2 : i64 f.to) : keyOf Tryz.prog 197 (idV f) = some (idLit f) := by
  unfold keyOf
  rw [idFs_u]
  simp only
  rw [if_pos (by kernel_rfl)]
  have hn : Tryz.prog.types.size + 1 = (Tryz.prog.types.size - 2) + 3 := by kernel_rfl
  rw [hn]
  have := keyLits_ID (Tryz.prog.types.size - 2) f hs h1 h2
  rw [show (idV f).cells.toList = [.string (keyS f), .int .i64 f.fr, .int .i64 f.to] from rfl, this]
  rfl
end Go.Proofs.YtdecgkhdbfgldaaGreat

set_option linter.unusedVariables false
set_option linter.unusedSimpArgs false
set_option maxRecDepth 8000
namespace Go.Proofs.YtdecgkhdbfgldaaGreat
open Go Go.Maps
def sameId (a b : Ft) : Bool := decide (keyS a = keyS b) && decide (a.fr = b.fr) && decide (a.to = b.to)
def stepL (l : List Kp) (i : Nat) : Bool := match l[i]? with
  | some x => factB x.f && decide (0 ≤ x.seq) && (decide (i = 0) || match l[i - 1]? with | some y => decide (y.seq < x.seq) | none => false) && !((l.take i).any fun y => sameId y.f x.f)
  | none => true
def listB (l : List Kp) : Bool := decide (l.length ≤ 300) && (List.range l.length).all (stepL l)
def keysL (l : List Kp) : List Lit := (l.map fun k => idLit k.f).reverse
theorem keyS_size {f : Ft} (hm : mayT f.t = true) : (keyS f).size ≤ 1000 := by
  have h := keyL_len 5 f.t (may_shp hm)
  have h2 := ((mayT_iff f.t).1 hm).2.2
  have e : (keyS f).size = (keyL 5 f.t).length := by simp [keyS, ByteArray.size]
  omega
theorem keyOf_may {f : Ft} (hf : f.wf) (hm : mayT f.t = true) : keyOf Tryz.prog 197 (idV f) = some (idLit f) := keyOf_ID f (by have := keyS_size hm; simp only [maxLen]; omega) hf.2.1 hf.2.2
theorem idLit_iff {a b : Ft} (ha : a.wf) (hb : b.wf) (ma : mayT a.t = true) (mb : mayT b.t = true) : idLit a = idLit b ↔ sameId a b = true := by
  constructor
  · intro h
    have h1 := keyOf_may ha ma
    rw [h] at h1
    have := kd_facts_ID.inj h1 (keyOf_may hb mb)
    simp only [Value.agg.injEq, Array.mk.injEq, List.cons.injEq, Value.string.injEq, Value.int.injEq, true_and, and_true] at this
    simp [sameId, this.1, this.2.1, this.2.2]
  · intro h
    simp only [sameId, Bool.and_eq_true, decide_eq_true_eq] at h
    rw [idLit, idLit, h.1.1, h.1.2, h.2]
theorem keysL_mem {l : List Kp} {f : Ft} (hw : ∀ k ∈ l, k.wf) (hm : ∀ k ∈ l, mayT k.f.t = true) (hf : f.wf) (mf : mayT f.t = true) : idLit f ∈ keysL l ↔ (l.any fun y => sameId y.f f) = true := by
  rw [keysL, List.mem_reverse, List.mem_map, List.any_eq_true]
  constructor
  · rintro ⟨k, hk, e⟩; exact ⟨k, hk, (idLit_iff (hw k hk).2 hf (hm k hk) mf).1 e⟩
  · rintro ⟨k, hk, e⟩; exact ⟨k, hk, (idLit_iff (hw k hk).2 hf (hm k hk) mf).2 e⟩
theorem stepL_get {l : List Kp} {k : Nat} {x : Kp} (h : l[k]? = some x) : stepL l k = (factB x.f && decide (0 ≤ x.seq) && (decide (k = 0) || match l[k - 1]? with | some y => decide (y.seq < x.seq) | none => false) && !((l.take k).any fun y => sameId y.f x.f)) := by
  rw [stepL, h]
theorem List_ok (l : List Kp) (hw : ∀ k ∈ l, k.wf) : PF 118 [.dat false 7 (kpDs l)] (bv (listB l)) := by
  have hlen := kpDs_length l
  refine AC_intro Tryz.func118 rfl Tryz.ntmps118 (Nat.le_of_ble_eq_true rfl) fun c hL hQ hDD => ?_; refine awp_seq ?_; refine awp_region ?_; refine awps_stp0 rfl rfl (by decide) (stp_move (.inr rfl) rfl) ?_; refine awps_nil ?_; refine thenQ_nil ?_; refine awp_seq ?_; refine awp_seq ?_; refine awp_region ?_; refine awps_stp0 rfl rfl (by decide) (stp_move (.inl rfl) rfl) ?_; refine awps_stp0 rfl rfl (by decide) (stp_len_dat rfl sl_S_api_Kept rfl) ?_
  refine awps_stp0 rfl rfl (by decide) (stp_binI rfl rfl rfl rfl) ?_; refine awps_nil ?_; refine thenQ_nil ?_; refine awp_cond rfl (fun c0 => ?_) (fun c0 => ?_)
  · try simp only [↓cqA, cqB] at c0
    refine awp_seq ?_; refine awp_region ?_; refine awps_stp0 rfl rfl (by decide) (stp_move (.inr rfl) rfl) ?_; refine awps_nil ?_; refine thenQ_nil ?_; refine awp_ret ?_; refine thenQ_ret (?_)
    -- leaf 0T
    refine ret0 (noL hL) (.inl rfl) (resAs_tmp rfl (resAs_nil)) ?_ ?_
    · rfl
    refine ⟨bool_w ?_, rfl⟩
    symm
    rw [listB]
    first
      | (rw [decide_eq_false (show ¬ l.length ≤ 300 by omega)]; rfl)
      | (have hst : stepL l k = false := by
           rw [stepL_get hu, hy]
           first | (rw [l19]; rfl) | (rw [c2]; simp; done) | (simp; omega)
         have : (List.range l.length).all (stepL l) = false := List.all_eq_false.2 ⟨k, by simp; omega, by simp [hst]⟩
         rw [this]; simp)
      | (rw [decide_eq_true (show l.length ≤ 300 by omega), List.all_eq_true.2 (fun j hj => hp.2 j (by have := List.mem_range.1 hj; omega))]; rfl)
  try simp only [↓cqA, cqB] at c0
  refine awp_skip ?_; refine thenQ_nil ?_; refine awp_seq ?_; refine awp_region ?_; refine awps_stp1 rfl rfl (by decide) (stp_makeMap 9 rfl (kd_facts_ID)) rfl ?_; refine awps_stp0 rfl rfl (by decide) (stp_move (.inr rfl) rfl) ?_; refine awps_nil ?_; refine thenQ_nil ?_; refine awp_seq ?_; refine awp_seq ?_; refine awp_region ?_; refine awps_stp0 rfl rfl (by decide) (stp_move (.inl rfl) rfl) ?_; refine awps_stp0 rfl rfl (by decide) (stp_len_dat rfl sl_S_api_Kept rfl) ?_
  refine awps_stp0 rfl rfl (by decide) (stp_move (.inl rfl) rfl) ?_; refine awps_nil ?_; refine thenQ_nil ?_; refine awp_block ?_; refine awp_while (l.length) (fun k => k ≤ l.length ∧ ∀ j, j < k → stepL l j = true) (fun k => ⟨[(0, .dat false 7 (kpDs l)), (3, .map 9), (10, .dat false 7 (kpDs l)), (11, iv (kpDs l).length), (12, iv (k : Int))], [(9, .mp Tryz.prog 197 (keysL (l.take k)))]⟩) (⟨by omega, fun j hj => absurd hj (by omega)⟩) ?_ (fun k hk hp => ?_)
  · exact sub_re (SubT.cons (lk_eq rfl (by first | rfl | simp)) (SubT.cons (lk_eq rfl (by first | rfl | simp)) (SubT.cons (lk_eq rfl (by first | rfl | simp)) (SubT.cons (lk_eq rfl (by first | rfl | simp)) (SubT.cons (lk_eq rfl (by first | rfl | simp)) (SubT.nil)))))) (SubO.cons (ok_eq rfl (by rfl)) (SubO.nil)) rfl rfl (noL' (noL hL) _)
  have hmm : ∀ x ∈ l.take k, mayT x.f.t = true := fun x hx => by
    obtain ⟨j, hj⟩ := List.getElem?_of_mem hx
    rw [List.getElem?_take] at hj
    split at hj
    · rename_i hjk
      have := hp.2 j hjk
      rw [stepL_get hj] at this
      simp only [Bool.and_eq_true] at this
      exact factB_may this.1.1.1
    · cases hj
  have hww : ∀ x ∈ l.take k, x.wf := fun x hx => hw x (List.mem_of_mem_take hx)
  have hkl : (keysL (l.take k)).length ≤ l.length := by simp [keysL]; omega
  refine awp_seq ?_; refine awp_region ?_; refine awps_stp0 rfl rfl (by decide) (stp_binI rfl rfl rfl rfl) ?_; refine awps_nil ?_; refine thenQ_nil ?_; refine awp_seq ?_; refine awp_cond rfl (fun c1 => ?_) (fun c1 => ?_)
  · try simp only [↓cqA, cqB] at c1
    obtain ⟨u, hu⟩ := get_of_lt (l := l) (k := k) (by omega)
    have huw := hw u (List.mem_of_getElem? hu)
    have huf := huw.2
    obtain ⟨y, hy⟩ := get_of_lt (l := l) (k := k - 1) (by omega)
    have hy2 : l[((k : Int) - 1).toNat]? = some y := by rw [show ((k : Int) - 1).toNat = k - 1 by omega]; exact hy
    refine awp_skip ?_; refine thenQ_nil ?_; refine awp_seq ?_; refine awp_block ?_; refine awp_seq ?_; refine awp_region ?_; refine awps_stp0 rfl rfl (by decide) (stp_move (.inl rfl) rfl) ?_; refine awps_stp0 rfl rfl (by decide) (stp_indexAddr rfl sl_S_api_Kept rfl rfl (by omega) (kpDs_get hu)) ?_; refine awps_stp0 rfl rfl (by decide) (stp_load_elpa rfl tf_api_Kept rfl rfl) ?_
    refine awps_stp1 rfl rfl (by decide) (stp_alloc 5 rfl zv_api_Kept rfl) rfl ?_; refine awps_stp0 rfl rfl (by decide) (stp_move (.inr rfl) rfl) ?_; refine awps_store rfl rfl rfl tf_api_Kept rfl rfl rfl rfl rfl rfl rfl rfl rfl ?_; refine awps_nil ?_; refine thenQ_nil ?_; refine awp_seq ?_; refine awp_seq ?_
    rcases Bool.eq_false_or_eq_true (factB u.f) with l19 | l19
    · have m19 := l19
      try simp only [↓cqA, cqB] at m19
      rcases Bool.eq_false_or_eq_true (decide (u.seq < 0)) with l24 | l24
      · have m24 := l24
        try simp only [↓cqA, cqB] at m24
        refine awp_drawG 29 mixed rfl rfl rfl rfl ?_; refine MGo_c0 rfl (by decide) (.run rfl (stp_fieldAddr rfl fo_api_Kept_1 rfl)) ?_; refine MGo_c0 rfl (by decide) (.run rfl (stp_load rfl tf_api_Fact rfl rfl rfl rfl rfl)) ?_; refine MGo_c0 rfl (by decide) (.run rfl (stp_call (avs := [_]) true rfl en_facts_Is rfl rfl (by have hh := factsIs_ok u.f huf; rw [l19] at hh; exact hh) (fun _ => rfl) rfl)) ?_; refine MGo_c0 rfl (by decide) (.run rfl (stp_not rfl rfl)) ?_; refine MGo_c0 rfl (by decide) (.run rfl (stp_move (.inl rfl) rfl)) ?_
        refine MGo_c0 rfl (by decide) (.want rfl rfl rfl (by decide) (stp_fieldAddr rfl fo_api_Kept_0 rfl)) ?_; refine MGo_c0 rfl (by decide) (.want rfl rfl rfl (by decide) (stp_load rfl tf_int rfl rfl rfl rfl rfl)) ?_; refine MGo_c0 rfl (by decide) (.want rfl rfl rfl (by decide) (stp_binI (r := .bool true) rfl rfl rfl (congrArg (fun b => some (Value.bool b)) l24))) ?_; refine MGo_c0 rfl (by decide) (.run rfl (stp_pick rfl rfl rfl)) ?_; refine MGo_c0 rfl (by decide) (.run rfl (stp_move (.inl rfl) rfl)) ?_; refine MGo_c0 rfl (by decide) (.skip rfl rfl rfl (by decide) (by decide)) ?_
        refine MGo_c0 rfl (by decide) (.skip rfl rfl rfl (by decide) (by decide)) ?_; refine MGo_c0 rfl (by decide) (.skip rfl rfl rfl (by decide) (by decide)) ?_; refine MGo_c0 rfl (by decide) (.skipu rfl rfl rfl (by decide)) ?_; refine MGo_c0 rfl (by decide) (.skipu rfl rfl rfl (by decide)) ?_; refine MGo_c0 rfl (by decide) (.skipu rfl rfl rfl (by decide)) ?_
        refine MGo_c0 rfl (by decide) (.skipu rfl rfl rfl (by decide)) ?_; refine MGo_c0 rfl (by decide) (.skipu rfl rfl rfl (by decide)) ?_; refine MGo_c0 rfl (by decide) (.skipu rfl rfl rfl (by decide)) ?_; refine MGo_c0 rfl (by decide) (.skipu rfl rfl rfl (by decide)) ?_; refine MGo_c0 rfl (by decide) (.skipu rfl rfl rfl (by decide)) ?_
        refine MGo_c0 rfl (by decide) (.skipu rfl rfl rfl (by decide)) ?_; refine MGo_c0 rfl (by decide) (.skip rfl rfl rfl (by decide) (by decide)) ?_; refine MGo_c0 rfl (by decide) (.run rfl (stp_pick rfl rfl rfl)) ?_; refine MGo_c0 rfl (by decide) (.run rfl (stp_move (.inl rfl) rfl)) ?_; refine MGo_c0 rfl (by decide) (.skip rfl rfl rfl (by decide) (by decide)) ?_
        refine MGo_c0 rfl (by decide) (.skip rfl rfl rfl (by decide) (by decide)) ?_; refine MGo_c0 rfl (by decide) (.skip rfl rfl rfl (by decide) (by decide)) ?_; refine MGo_c0 rfl (by decide) (.skip rfl rfl rfl (by decide) (by decide)) ?_; refine MGo_nil ⟨rfl, rfl, ?_⟩; refine awps_gs rfl rfl rfl rfl (by decide) rfl (by decide) ?_
        refine awps_stp0 rfl rfl (by decide) (stp_pick rfl rfl rfl) ?_; refine awps_nil ?_; refine thenQ_nil ?_; refine awp_condT rfl ?_; refine awp_seq ?_; refine awp_region ?_; refine awps_stp0 rfl rfl (by decide) (stp_move (.inr rfl) rfl) ?_; refine awps_nil ?_; refine thenQ_nil ?_; refine awp_ret ?_; refine thenQ_ret (inQ_ret (thenQ_ret (thenQ_ret (inQ_ret (thenQ_ret (?_))))))
        -- leaf 0F1Tl19Tl24T
        refine ret0 (noL hL) (.inl rfl) (resAs_tmp rfl (resAs_nil)) ?_ ?_
        · rfl
        refine ⟨bool_w ?_, rfl⟩
        symm
        rw [listB]
        first
          | (rw [decide_eq_false (show ¬ l.length ≤ 300 by omega)]; rfl)
          | (have hst : stepL l k = false := by
               rw [stepL_get hu, hy]
               first | (rw [l19]; rfl) | (rw [c2]; simp; done) | (simp; omega)
             have : (List.range l.length).all (stepL l) = false := List.all_eq_false.2 ⟨k, by simp; omega, by simp [hst]⟩
             rw [this]; simp)
          | (rw [decide_eq_true (show l.length ≤ 300 by omega), List.all_eq_true.2 (fun j hj => hp.2 j (by have := List.mem_range.1 hj; omega))]; rfl)
      have m24 := l24
      try simp only [↓cqA, cqB] at m24
      rcases Bool.eq_false_or_eq_true (decide ((k : Int) > 0)) with l28 | l28
      · have m28 := l28
        try simp only [↓cqA, cqB] at m28
        rcases Bool.eq_false_or_eq_true (decide (u.seq ≤ y.seq)) with l38 | l38
        · have m38 := l38
          try simp only [↓cqA, cqB] at m38
          refine awp_drawG 29 mixed rfl rfl rfl rfl ?_; refine MGo_c0 rfl (by decide) (.run rfl (stp_fieldAddr rfl fo_api_Kept_1 rfl)) ?_; refine MGo_c0 rfl (by decide) (.run rfl (stp_load rfl tf_api_Fact rfl rfl rfl rfl rfl)) ?_; refine MGo_c0 rfl (by decide) (.run rfl (stp_call (avs := [_]) true rfl en_facts_Is rfl rfl (by have hh := factsIs_ok u.f huf; rw [l19] at hh; exact hh) (fun _ => rfl) rfl)) ?_; refine MGo_c0 rfl (by decide) (.run rfl (stp_not rfl rfl)) ?_; refine MGo_c0 rfl (by decide) (.run rfl (stp_move (.inl rfl) rfl)) ?_
          refine MGo_c0 rfl (by decide) (.want rfl rfl rfl (by decide) (stp_fieldAddr rfl fo_api_Kept_0 rfl)) ?_; refine MGo_c0 rfl (by decide) (.want rfl rfl rfl (by decide) (stp_load rfl tf_int rfl rfl rfl rfl rfl)) ?_; refine MGo_c0 rfl (by decide) (.want rfl rfl rfl (by decide) (stp_binI (r := .bool false) rfl rfl rfl (congrArg (fun b => some (Value.bool b)) l24))) ?_; refine MGo_c0 rfl (by decide) (.run rfl (stp_pick rfl rfl rfl)) ?_; refine MGo_c0 rfl (by decide) (.run rfl (stp_move (.inl rfl) rfl)) ?_
          refine MGo_c0 rfl (by decide) (.want rfl rfl rfl (by decide) (stp_move (.inl rfl) rfl)) ?_; refine MGo_c0 rfl (by decide) (.want rfl rfl rfl (by decide) (stp_binI (r := .bool true) rfl rfl rfl (congrArg (fun b => some (Value.bool b)) l28))) ?_; refine MGo_c0 rfl (by decide) (.want rfl rfl rfl (by decide) (stp_move (.inl rfl) rfl)) ?_; refine MGo_c0 rfl (by decide) (.want rfl rfl rfl (by decide) (stp_fieldAddr rfl fo_api_Kept_0 rfl)) ?_; refine MGo_c0 rfl (by decide) (.want rfl rfl rfl (by decide) (stp_load rfl tf_int rfl rfl rfl rfl rfl)) ?_
          refine MGo_c0 rfl (by decide) (.want rfl rfl rfl (by decide) (stp_move (.inl rfl) rfl)) ?_; refine MGo_c0 rfl (by decide) (.want rfl rfl rfl (by decide) (stp_move (.inl rfl) rfl)) ?_; refine MGo_c0 rfl (by decide) (.want rfl rfl rfl (by decide) (stp_sub rfl rfl rfl (by omega))) ?_; refine MGo_c0 rfl (by decide) (.want rfl rfl rfl (by decide) (stp_indexAddr rfl sl_S_api_Kept rfl rfl (by omega) (kpDs_get hy2))) ?_; refine MGo_c0 rfl (by decide) (.want rfl rfl rfl (by decide) (stp_fieldAddr_elp rfl fo_api_Kept_0 rfl)) ?_
          refine MGo_c0 rfl (by decide) (.want rfl rfl rfl (by decide) (stp_load_elp1 rfl tf_int rfl)) ?_; refine MGo_c0 rfl (by decide) (.want rfl rfl rfl (by decide) (stp_binI (r := .bool true) rfl rfl rfl (congrArg (fun b => some (Value.bool b)) l38))) ?_; refine MGo_c0 rfl (by decide) (.want rfl rfl rfl (by decide) (stp_pick rfl rfl rfl)) ?_; refine MGo_c0 rfl (by decide) (.run rfl (stp_pick rfl rfl rfl)) ?_; refine MGo_c0 rfl (by decide) (.run rfl (stp_move (.inl rfl) rfl)) ?_
          refine MGo_c0 rfl (by decide) (.skip rfl rfl rfl (by decide) (by decide)) ?_; refine MGo_c0 rfl (by decide) (.skip rfl rfl rfl (by decide) (by decide)) ?_; refine MGo_c0 rfl (by decide) (.skip rfl rfl rfl (by decide) (by decide)) ?_; refine MGo_c0 rfl (by decide) (.skip rfl rfl rfl (by decide) (by decide)) ?_; refine MGo_nil ⟨rfl, rfl, ?_⟩
          refine awps_gs rfl rfl rfl rfl (by decide) rfl (by decide) ?_; refine awps_stp0 rfl rfl (by decide) (stp_pick rfl rfl rfl) ?_; refine awps_nil ?_; refine thenQ_nil ?_; refine awp_condT rfl ?_; refine awp_seq ?_; refine awp_region ?_; refine awps_stp0 rfl rfl (by decide) (stp_move (.inr rfl) rfl) ?_; refine awps_nil ?_; refine thenQ_nil ?_; refine awp_ret ?_; refine thenQ_ret (inQ_ret (thenQ_ret (thenQ_ret (inQ_ret (thenQ_ret (?_))))))
          -- leaf 0F1Tl19Tl24Fl28Tl38T
          refine ret0 (noL hL) (.inl rfl) (resAs_tmp rfl (resAs_nil)) ?_ ?_
          · rfl
          refine ⟨bool_w ?_, rfl⟩
          symm
          rw [listB]
          first
            | (rw [decide_eq_false (show ¬ l.length ≤ 300 by omega)]; rfl)
            | (have hst : stepL l k = false := by
                 rw [stepL_get hu, hy]
                 first | (rw [l19]; rfl) | (rw [c2]; simp; done) | (simp; omega)
               have : (List.range l.length).all (stepL l) = false := List.all_eq_false.2 ⟨k, by simp; omega, by simp [hst]⟩
               rw [this]; simp)
            | (rw [decide_eq_true (show l.length ≤ 300 by omega), List.all_eq_true.2 (fun j hj => hp.2 j (by have := List.mem_range.1 hj; omega))]; rfl)
        have m38 := l38
        try simp only [↓cqA, cqB] at m38
        refine awp_drawG 29 mixed rfl rfl rfl rfl ?_; refine MGo_c0 rfl (by decide) (.run rfl (stp_fieldAddr rfl fo_api_Kept_1 rfl)) ?_; refine MGo_c0 rfl (by decide) (.run rfl (stp_load rfl tf_api_Fact rfl rfl rfl rfl rfl)) ?_; refine MGo_c0 rfl (by decide) (.run rfl (stp_call (avs := [_]) true rfl en_facts_Is rfl rfl (by have hh := factsIs_ok u.f huf; rw [l19] at hh; exact hh) (fun _ => rfl) rfl)) ?_; refine MGo_c0 rfl (by decide) (.run rfl (stp_not rfl rfl)) ?_; refine MGo_c0 rfl (by decide) (.run rfl (stp_move (.inl rfl) rfl)) ?_
        refine MGo_c0 rfl (by decide) (.want rfl rfl rfl (by decide) (stp_fieldAddr rfl fo_api_Kept_0 rfl)) ?_; refine MGo_c0 rfl (by decide) (.want rfl rfl rfl (by decide) (stp_load rfl tf_int rfl rfl rfl rfl rfl)) ?_
        refine MGo_c0 rfl (by decide) (.want rfl rfl rfl (by decide) (stp_binI (r := .bool false) rfl rfl rfl (congrArg (fun b => some (Value.bool b)) l24))) ?_; refine MGo_c0 rfl (by decide) (.run rfl (stp_pick rfl rfl rfl)) ?_; refine MGo_c0 rfl (by decide) (.run rfl (stp_move (.inl rfl) rfl)) ?_; refine MGo_c0 rfl (by decide) (.want rfl rfl rfl (by decide) (stp_move (.inl rfl) rfl)) ?_
        refine MGo_c0 rfl (by decide) (.want rfl rfl rfl (by decide) (stp_binI (r := .bool true) rfl rfl rfl (congrArg (fun b => some (Value.bool b)) l28))) ?_; refine MGo_c0 rfl (by decide) (.want rfl rfl rfl (by decide) (stp_move (.inl rfl) rfl)) ?_; refine MGo_c0 rfl (by decide) (.want rfl rfl rfl (by decide) (stp_fieldAddr rfl fo_api_Kept_0 rfl)) ?_; refine MGo_c0 rfl (by decide) (.want rfl rfl rfl (by decide) (stp_load rfl tf_int rfl rfl rfl rfl rfl)) ?_
        refine MGo_c0 rfl (by decide) (.want rfl rfl rfl (by decide) (stp_move (.inl rfl) rfl)) ?_; refine MGo_c0 rfl (by decide) (.want rfl rfl rfl (by decide) (stp_move (.inl rfl) rfl)) ?_; refine MGo_c0 rfl (by decide) (.want rfl rfl rfl (by decide) (stp_sub rfl rfl rfl (by omega))) ?_; refine MGo_c0 rfl (by decide) (.want rfl rfl rfl (by decide) (stp_indexAddr rfl sl_S_api_Kept rfl rfl (by omega) (kpDs_get hy2))) ?_; refine MGo_c0 rfl (by decide) (.want rfl rfl rfl (by decide) (stp_fieldAddr_elp rfl fo_api_Kept_0 rfl)) ?_
        refine MGo_c0 rfl (by decide) (.want rfl rfl rfl (by decide) (stp_load_elp1 rfl tf_int rfl)) ?_; refine MGo_c0 rfl (by decide) (.want rfl rfl rfl (by decide) (stp_binI (r := .bool false) rfl rfl rfl (congrArg (fun b => some (Value.bool b)) l38))) ?_; refine MGo_c0 rfl (by decide) (.want rfl rfl rfl (by decide) (stp_pick rfl rfl rfl)) ?_; refine MGo_c0 rfl (by decide) (.run rfl (stp_pick rfl rfl rfl)) ?_; refine MGo_c0 rfl (by decide) (.run rfl (stp_move (.inl rfl) rfl)) ?_; refine MGo_c0 rfl (by decide) (.want rfl rfl rfl (by decide) (stp_move (.inl rfl) rfl)) ?_
        refine MGo_c0 rfl (by decide) (.want rfl rfl rfl (by decide) (stp_fieldAddr rfl fo_api_Kept_1 rfl)) ?_; refine MGo_c0 rfl (by decide) (.want rfl rfl rfl (by decide) (stp_load rfl tf_api_Fact rfl rfl rfl rfl rfl)) ?_; refine MGo_c0 rfl (by decide) (.want rfl rfl rfl (by decide) (stp_call (avs := [_]) true rfl en_facts_Of rfl rfl (Of_ok u.f huf (factB_may (by assumption))) (fun _ => rfl) rfl)) ?_; refine MGo_nil ⟨rfl, rfl, ?_⟩
        refine awps_g0 rfl rfl rfl (by decide) rfl (by decide) (stp_mapGet rfl um_map_facts_ID_bool Tryz.zeroValue4 rfl rfl rfl rfl (keyOf_may huf (factB_may (by assumption))) ((keysL_mem hww hmm huf (factB_may (by assumption))).symm)) ?_; refine awps_stp0 rfl rfl (by decide) (stp_pick rfl rfl rfl) ?_; refine awps_nil ?_; refine thenQ_nil ?_; refine awp_cond rfl (fun c2 => ?_) (fun c2 => ?_)
        · try simp only [↓cqA, cqB] at c2
          refine awp_seq ?_; refine awp_region ?_; refine awps_stp0 rfl rfl (by decide) (stp_move (.inr rfl) rfl) ?_; refine awps_nil ?_; refine thenQ_nil ?_; refine awp_ret ?_; refine thenQ_ret (inQ_ret (thenQ_ret (thenQ_ret (inQ_ret (thenQ_ret (?_))))))
          -- leaf 0F1Tl19Tl24Fl28Tl38F2T
          refine ret0 (noL hL) (.inl rfl) (resAs_tmp rfl (resAs_nil)) ?_ ?_
          · rfl
          refine ⟨bool_w ?_, rfl⟩
          symm
          rw [listB]
          first
            | (rw [decide_eq_false (show ¬ l.length ≤ 300 by omega)]; rfl)
            | (have hst : stepL l k = false := by
                 rw [stepL_get hu, hy]
                 first | (rw [l19]; rfl) | (rw [c2]; simp; done) | (simp; omega)
               have : (List.range l.length).all (stepL l) = false := List.all_eq_false.2 ⟨k, by simp; omega, by simp [hst]⟩
               rw [this]; simp)
            | (rw [decide_eq_true (show l.length ≤ 300 by omega), List.all_eq_true.2 (fun j hj => hp.2 j (by have := List.mem_range.1 hj; omega))]; rfl)
        try simp only [↓cqA, cqB] at c2
        refine awp_skip ?_; refine thenQ_nil ?_; refine awp_region ?_; refine awps_stp0 rfl rfl (by decide) (stp_move (.inl rfl) rfl) ?_; refine awps_stp0 rfl rfl (by decide) (stp_fieldAddr rfl fo_api_Kept_1 rfl) ?_; refine awps_stp0 rfl rfl (by decide) (stp_load rfl tf_api_Fact rfl rfl rfl rfl rfl) ?_
        refine awps_call (avs := [_]) true rfl rfl rfl (by decide) en_facts_Of rfl rfl (Of_ok u.f huf (factB_may (by assumption))) rfl rfl ?_; refine awps_mapSet rfl rfl rfl um_map_facts_ID_bool rfl rfl rfl rfl rfl (keyOf_may huf (factB_may (by assumption))) (by simp only [maxLen]; omega) ?_; refine awps_nil ?_; refine inQ_nil ?_; refine thenQ_nil ?_; refine awp_region ?_; refine awps_stp0 rfl rfl (by decide) (stp_add rfl rfl rfl (by omega)) ?_; refine awps_stp0 rfl rfl (by decide) (stp_move (.inl rfl) rfl) ?_; refine awps_nil ?_; refine thenQ_nil ?_; refine ⟨?_, ?_, ?_⟩
        · skip
          omega
        · skip
          refine ⟨by omega, fun j hj => ?_⟩
          by_cases hjk : j < k
          · exact hp.2 j hjk
          · rw [show j = k by omega, stepL_get hu, l19, hy, c2]
            simp; omega
        exact sub_re (SubT.cons (lk_eq rfl (by first | rfl | simp)) (SubT.cons (lk_eq rfl (by first | rfl | simp)) (SubT.cons (lk_eq rfl (by first | rfl | simp)) (SubT.cons (lk_eq rfl (by first | rfl | simp)) (SubT.cons (lk_eq rfl (by first | rfl | simp)) (SubT.nil)))))) (SubO.cons (ok_eq rfl (by rw [take_snoc hu]; simp [keysL, Ob.rn])) (SubO.nil)) rfl rfl (noL' (noL hL) _)
      have m28 := l28
      try simp only [↓cqA, cqB] at m28
      refine awp_drawG 29 mixed rfl rfl rfl rfl ?_; refine MGo_c0 rfl (by decide) (.run rfl (stp_fieldAddr rfl fo_api_Kept_1 rfl)) ?_; refine MGo_c0 rfl (by decide) (.run rfl (stp_load rfl tf_api_Fact rfl rfl rfl rfl rfl)) ?_; refine MGo_c0 rfl (by decide) (.run rfl (stp_call (avs := [_]) true rfl en_facts_Is rfl rfl (by have hh := factsIs_ok u.f huf; rw [l19] at hh; exact hh) (fun _ => rfl) rfl)) ?_; refine MGo_c0 rfl (by decide) (.run rfl (stp_not rfl rfl)) ?_; refine MGo_c0 rfl (by decide) (.run rfl (stp_move (.inl rfl) rfl)) ?_
      refine MGo_c0 rfl (by decide) (.want rfl rfl rfl (by decide) (stp_fieldAddr rfl fo_api_Kept_0 rfl)) ?_; refine MGo_c0 rfl (by decide) (.want rfl rfl rfl (by decide) (stp_load rfl tf_int rfl rfl rfl rfl rfl)) ?_
      refine MGo_c0 rfl (by decide) (.want rfl rfl rfl (by decide) (stp_binI (r := .bool false) rfl rfl rfl (congrArg (fun b => some (Value.bool b)) l24))) ?_; refine MGo_c0 rfl (by decide) (.run rfl (stp_pick rfl rfl rfl)) ?_; refine MGo_c0 rfl (by decide) (.run rfl (stp_move (.inl rfl) rfl)) ?_; refine MGo_c0 rfl (by decide) (.want rfl rfl rfl (by decide) (stp_move (.inl rfl) rfl)) ?_
      refine MGo_c0 rfl (by decide) (.want rfl rfl rfl (by decide) (stp_binI (r := .bool false) rfl rfl rfl (congrArg (fun b => some (Value.bool b)) l28))) ?_; refine MGo_c0 rfl (by decide) (.want rfl rfl rfl (by decide) (stp_move (.inl rfl) rfl)) ?_; refine MGo_c0 rfl (by decide) (.skip rfl rfl rfl (by decide) (by decide)) ?_
      refine MGo_c0 rfl (by decide) (.skip rfl rfl rfl (by decide) (by decide)) ?_; refine MGo_c0 rfl (by decide) (.skip rfl rfl rfl (by decide) (by decide)) ?_; refine MGo_c0 rfl (by decide) (.skip rfl rfl rfl (by decide) (by decide)) ?_; refine MGo_c0 rfl (by decide) (.skip rfl rfl rfl (by decide) (by decide)) ?_; refine MGo_c0 rfl (by decide) (.skip rfl rfl rfl (by decide) (by decide)) ?_
      refine MGo_c0 rfl (by decide) (.skip rfl rfl rfl (by decide) (by decide)) ?_; refine MGo_c0 rfl (by decide) (.skip rfl rfl rfl (by decide) (by decide)) ?_; refine MGo_c0 rfl (by decide) (.skip rfl rfl rfl (by decide) (by decide)) ?_; refine MGo_c0 rfl (by decide) (.want rfl rfl rfl (by decide) (stp_pick rfl rfl rfl)) ?_; refine MGo_c0 rfl (by decide) (.run rfl (stp_pick rfl rfl rfl)) ?_; refine MGo_c0 rfl (by decide) (.run rfl (stp_move (.inl rfl) rfl)) ?_; refine MGo_c0 rfl (by decide) (.want rfl rfl rfl (by decide) (stp_move (.inl rfl) rfl)) ?_
      refine MGo_c0 rfl (by decide) (.want rfl rfl rfl (by decide) (stp_fieldAddr rfl fo_api_Kept_1 rfl)) ?_; refine MGo_c0 rfl (by decide) (.want rfl rfl rfl (by decide) (stp_load rfl tf_api_Fact rfl rfl rfl rfl rfl)) ?_; refine MGo_c0 rfl (by decide) (.want rfl rfl rfl (by decide) (stp_call (avs := [_]) true rfl en_facts_Of rfl rfl (Of_ok u.f huf (factB_may (by assumption))) (fun _ => rfl) rfl)) ?_; refine MGo_nil ⟨rfl, rfl, ?_⟩
      refine awps_g0 rfl rfl rfl (by decide) rfl (by decide) (stp_mapGet rfl um_map_facts_ID_bool Tryz.zeroValue4 rfl rfl rfl rfl (keyOf_may huf (factB_may (by assumption))) ((keysL_mem hww hmm huf (factB_may (by assumption))).symm)) ?_; refine awps_stp0 rfl rfl (by decide) (stp_pick rfl rfl rfl) ?_; refine awps_nil ?_; refine thenQ_nil ?_; refine awp_cond rfl (fun c2 => ?_) (fun c2 => ?_)
      · try simp only [↓cqA, cqB] at c2
        refine awp_seq ?_; refine awp_region ?_; refine awps_stp0 rfl rfl (by decide) (stp_move (.inr rfl) rfl) ?_; refine awps_nil ?_; refine thenQ_nil ?_; refine awp_ret ?_; refine thenQ_ret (inQ_ret (thenQ_ret (thenQ_ret (inQ_ret (thenQ_ret (?_))))))
        -- leaf 0F1Tl19Tl24Fl28F2T
        refine ret0 (noL hL) (.inl rfl) (resAs_tmp rfl (resAs_nil)) ?_ ?_
        · rfl
        refine ⟨bool_w ?_, rfl⟩
        symm
        rw [listB]
        first
          | (rw [decide_eq_false (show ¬ l.length ≤ 300 by omega)]; rfl)
          | (have hst : stepL l k = false := by
               rw [stepL_get hu, hy]
               first | (rw [l19]; rfl) | (rw [c2]; simp; done) | (simp; omega)
             have : (List.range l.length).all (stepL l) = false := List.all_eq_false.2 ⟨k, by simp; omega, by simp [hst]⟩
             rw [this]; simp)
          | (rw [decide_eq_true (show l.length ≤ 300 by omega), List.all_eq_true.2 (fun j hj => hp.2 j (by have := List.mem_range.1 hj; omega))]; rfl)
      try simp only [↓cqA, cqB] at c2
      refine awp_skip ?_; refine thenQ_nil ?_; refine awp_region ?_; refine awps_stp0 rfl rfl (by decide) (stp_move (.inl rfl) rfl) ?_; refine awps_stp0 rfl rfl (by decide) (stp_fieldAddr rfl fo_api_Kept_1 rfl) ?_; refine awps_stp0 rfl rfl (by decide) (stp_load rfl tf_api_Fact rfl rfl rfl rfl rfl) ?_
      refine awps_call (avs := [_]) true rfl rfl rfl (by decide) en_facts_Of rfl rfl (Of_ok u.f huf (factB_may (by assumption))) rfl rfl ?_; refine awps_mapSet rfl rfl rfl um_map_facts_ID_bool rfl rfl rfl rfl rfl (keyOf_may huf (factB_may (by assumption))) (by simp only [maxLen]; omega) ?_; refine awps_nil ?_; refine inQ_nil ?_; refine thenQ_nil ?_; refine awp_region ?_; refine awps_stp0 rfl rfl (by decide) (stp_add rfl rfl rfl (by omega)) ?_; refine awps_stp0 rfl rfl (by decide) (stp_move (.inl rfl) rfl) ?_; refine awps_nil ?_; refine thenQ_nil ?_; refine ⟨?_, ?_, ?_⟩
      · skip
        omega
      · skip
        refine ⟨by omega, fun j hj => ?_⟩
        by_cases hjk : j < k
        · exact hp.2 j hjk
        · rw [show j = k by omega, stepL_get hu, l19, hy, c2]
          simp; omega
      exact sub_re (SubT.cons (lk_eq rfl (by first | rfl | simp)) (SubT.cons (lk_eq rfl (by first | rfl | simp)) (SubT.cons (lk_eq rfl (by first | rfl | simp)) (SubT.cons (lk_eq rfl (by first | rfl | simp)) (SubT.cons (lk_eq rfl (by first | rfl | simp)) (SubT.nil)))))) (SubO.cons (ok_eq rfl (by rw [take_snoc hu]; simp [keysL, Ob.rn])) (SubO.nil)) rfl rfl (noL' (noL hL) _)
    have m19 := l19
    try simp only [↓cqA, cqB] at m19
    refine awp_drawG 29 mixed rfl rfl rfl rfl ?_; refine MGo_c0 rfl (by decide) (.run rfl (stp_fieldAddr rfl fo_api_Kept_1 rfl)) ?_; refine MGo_c0 rfl (by decide) (.run rfl (stp_load rfl tf_api_Fact rfl rfl rfl rfl rfl)) ?_
    refine MGo_c0 rfl (by decide) (.run rfl (stp_call (avs := [_]) true rfl en_facts_Is rfl rfl (by have hh := factsIs_ok u.f huf; rw [l19] at hh; exact hh) (fun _ => rfl) rfl)) ?_; refine MGo_c0 rfl (by decide) (.run rfl (stp_not rfl rfl)) ?_; refine MGo_c0 rfl (by decide) (.run rfl (stp_move (.inl rfl) rfl)) ?_; refine MGo_c0 rfl (by decide) (.skip rfl rfl rfl (by decide) (by decide)) ?_
    refine MGo_c0 rfl (by decide) (.skip rfl rfl rfl (by decide) (by decide)) ?_; refine MGo_c0 rfl (by decide) (.skip rfl rfl rfl (by decide) (by decide)) ?_; refine MGo_c0 rfl (by decide) (.run rfl (stp_pick rfl rfl rfl)) ?_; refine MGo_c0 rfl (by decide) (.run rfl (stp_move (.inl rfl) rfl)) ?_; refine MGo_c0 rfl (by decide) (.skip rfl rfl rfl (by decide) (by decide)) ?_
    refine MGo_c0 rfl (by decide) (.skip rfl rfl rfl (by decide) (by decide)) ?_; refine MGo_c0 rfl (by decide) (.skip rfl rfl rfl (by decide) (by decide)) ?_; refine MGo_c0 rfl (by decide) (.skipu rfl rfl rfl (by decide)) ?_; refine MGo_c0 rfl (by decide) (.skipu rfl rfl rfl (by decide)) ?_; refine MGo_c0 rfl (by decide) (.skipu rfl rfl rfl (by decide)) ?_
    refine MGo_c0 rfl (by decide) (.skipu rfl rfl rfl (by decide)) ?_; refine MGo_c0 rfl (by decide) (.skipu rfl rfl rfl (by decide)) ?_; refine MGo_c0 rfl (by decide) (.skipu rfl rfl rfl (by decide)) ?_; refine MGo_c0 rfl (by decide) (.skipu rfl rfl rfl (by decide)) ?_; refine MGo_c0 rfl (by decide) (.skipu rfl rfl rfl (by decide)) ?_
    refine MGo_c0 rfl (by decide) (.skipu rfl rfl rfl (by decide)) ?_; refine MGo_c0 rfl (by decide) (.skip rfl rfl rfl (by decide) (by decide)) ?_; refine MGo_c0 rfl (by decide) (.run rfl (stp_pick rfl rfl rfl)) ?_; refine MGo_c0 rfl (by decide) (.run rfl (stp_move (.inl rfl) rfl)) ?_; refine MGo_c0 rfl (by decide) (.skip rfl rfl rfl (by decide) (by decide)) ?_
    refine MGo_c0 rfl (by decide) (.skip rfl rfl rfl (by decide) (by decide)) ?_; refine MGo_c0 rfl (by decide) (.skip rfl rfl rfl (by decide) (by decide)) ?_; refine MGo_c0 rfl (by decide) (.skip rfl rfl rfl (by decide) (by decide)) ?_; refine MGo_nil ⟨rfl, rfl, ?_⟩; refine awps_gs rfl rfl rfl rfl (by decide) rfl (by decide) ?_; refine awps_stp0 rfl rfl (by decide) (stp_pick rfl rfl rfl) ?_
    refine awps_nil ?_; refine thenQ_nil ?_; refine awp_condT rfl ?_; refine awp_seq ?_; refine awp_region ?_; refine awps_stp0 rfl rfl (by decide) (stp_move (.inr rfl) rfl) ?_; refine awps_nil ?_; refine thenQ_nil ?_; refine awp_ret ?_; refine thenQ_ret (inQ_ret (thenQ_ret (thenQ_ret (inQ_ret (thenQ_ret (?_))))))
    -- leaf 0F1Tl19F
    refine ret0 (noL hL) (.inl rfl) (resAs_tmp rfl (resAs_nil)) ?_ ?_
    · rfl
    refine ⟨bool_w ?_, rfl⟩
    symm
    rw [listB]
    first
      | (rw [decide_eq_false (show ¬ l.length ≤ 300 by omega)]; rfl)
      | (have hst : stepL l k = false := by
           rw [stepL_get hu, hy]
           first | (rw [l19]; rfl) | (rw [c2]; simp; done) | (simp; omega)
         have : (List.range l.length).all (stepL l) = false := List.all_eq_false.2 ⟨k, by simp; omega, by simp [hst]⟩
         rw [this]; simp)
      | (rw [decide_eq_true (show l.length ≤ 300 by omega), List.all_eq_true.2 (fun j hj => hp.2 j (by have := List.mem_range.1 hj; omega))]; rfl)
  try simp only [↓cqA, cqB] at c1
  refine awp_exit ?_; refine thenQ_exit (thenQ_exit (inQ_hit ?_)); refine thenQ_nil ?_; refine awp_seq ?_; refine awp_region ?_; refine awps_stp0 rfl rfl (by decide) (stp_move (.inr rfl) rfl) ?_; refine awps_nil ?_; refine thenQ_nil ?_; refine awp_ret ?_
  -- leaf 0F1F
  refine ret0 (noL hL) (.inl rfl) (resAs_tmp rfl (resAs_nil)) ?_ ?_
  · rfl
  refine ⟨bool_w ?_, rfl⟩
  symm
  rw [listB]
  first
    | (rw [decide_eq_false (show ¬ l.length ≤ 300 by omega)]; rfl)
    | (have hst : stepL l k = false := by
         rw [stepL_get hu, hy]
         first | (rw [l19]; rfl) | (rw [c2]; simp; done) | (simp; omega)
       have : (List.range l.length).all (stepL l) = false := List.all_eq_false.2 ⟨k, by simp; omega, by simp [hst]⟩
       rw [this]; simp)
    | (rw [decide_eq_true (show l.length ≤ 300 by omega), List.all_eq_true.2 (fun j hj => hp.2 j (by have := List.mem_range.1 hj; omega))]; rfl)
end Go.Proofs.YtdecgkhdbfgldaaGreat

set_option linter.unusedVariables false
set_option linter.unusedSimpArgs false
set_option maxRecDepth 8000
namespace Go.Proofs.YtdecgkhdbfgldaaGreat
open Go
theorem atN_cases (f : Ft) : ∀ l : List Kp, atN f l = -1 ∨ ∃ (i : Nat) (x : Kp), atN f l = i ∧ l[i]? = some x ∧ cmpF x.f f = 0
  | [] => .inl rfl
  | k :: l => by
    rw [atN]
    split
    · rename_i h; exact .inr ⟨0, k, rfl, rfl, h⟩
    · rcases atN_cases f l with h | ⟨i, x, h1, h2, h3⟩
      · rw [h]; exact .inl rfl
      · rw [h1, if_neg (by omega)]
        exact .inr ⟨i + 1, x, by omega, by simpa using h2, h3⟩
theorem listB_may {l : List Kp} (h : listB l = true) : l.length ≤ 300 ∧ ∀ k ∈ l, factB k.f = true := by
  simp only [listB, Bool.and_eq_true, decide_eq_true_eq, List.all_eq_true, List.mem_range] at h
  refine ⟨h.1, fun k hk => ?_⟩
  obtain ⟨j, hj⟩ := List.getElem?_of_mem hk
  have := h.2 j (List.getElem?_eq_some_iff.1 hj).1
  rw [stepL_get hj] at this
  simp only [Bool.and_eq_true] at this
  exact this.1.1.1
def findE (l : List Kp) (f : Ft) : Int := if listB l = true ∧ factB f = true then (if atN f l < 0 then 3 else 0) else 1
def findN (l : List Kp) (f : Ft) : Int := if listB l = true ∧ factB f = true then (if atN f l < 0 then 0 else match l[(atN f l).toNat]? with | some x => x.seq | none => 0) else 0
theorem Find_ok (l : List Kp) (hw : ∀ k ∈ l, k.wf) (f : Ft) (hf : f.wf) : PF 53 [.dat false 7 (kpDs l), ftA f] (.tup [iv (findN l f), iv (findE l f)]) := by
  refine AC_intro Tryz.func53 rfl Tryz.ntmps53 (Nat.le_of_ble_eq_true rfl) fun c hL hQ hDD => ?_; refine awp_seq ?_; refine awp_region ?_; refine awps_stp1 rfl rfl (by decide) (stp_box 3 rfl rfl rfl) rfl ?_; refine awps_stp0 rfl rfl (by decide) (stp_move (.inr rfl) rfl) ?_; refine awps_stp0 rfl rfl (by decide) (stp_move (.inr rfl) rfl) ?_; refine awps_nil ?_; refine thenQ_nil ?_
  refine awp_seq ?_; refine awp_seq ?_; refine awp_region ?_; refine awps_stp0 rfl rfl (by decide) (stp_move (.inl rfl) rfl) ?_; refine awps_call (avs := [_]) true rfl rfl rfl (by decide) en_facts_List rfl rfl (List_ok l hw) rfl rfl ?_; refine awps_stp0 rfl rfl (by decide) (stp_not rfl rfl) ?_; refine awps_stp0 rfl rfl (by decide) (stp_move (.inl rfl) rfl) ?_; refine awps_split 10 rfl (fun g10 => ?_) (fun g10 => ?_)
  · try simp only [↓cqA, cqB] at g10
    refine awps_gs rfl rfl rfl rfl (by decide) rfl (by decide) ?_; refine awps_gs rfl rfl rfl rfl (by decide) rfl (by decide) ?_; refine awps_gs rfl rfl rfl rfl (by decide) rfl (by decide) ?_; refine awps_stp0 rfl rfl (by decide) (stp_pick rfl rfl rfl) ?_; refine awps_nil ?_; refine thenQ_nil ?_; refine awp_condT rfl ?_; refine awp_seq ?_; refine awp_region ?_; refine awps_stp0 rfl rfl (by decide) (stp_move (.inr rfl) rfl) ?_; refine awps_stp0 rfl rfl (by decide) (stp_move (.inr rfl) rfl) ?_; refine awps_nil ?_; refine thenQ_nil ?_; refine awp_ret ?_; refine thenQ_ret (?_)
    -- leaf g10T
    refine ret0 (noL hL) (.inl rfl) (resAs_tmp rfl (resAs_tmp rfl (resAs_nil))) ?_ ?_
    · rfl
    refine ⟨?_, rfl⟩
    rw [findN, findE, if_neg (by simp_all), if_neg (by simp_all)]; rfl
  try simp only [↓cqA, cqB] at g10
  refine awps_g0 rfl rfl rfl (by decide) rfl (by decide) (stp_load_all rfl tf_api_Fact rfl rfl rfl rfl) ?_; refine awps_g0 rfl rfl rfl (by decide) rfl (by decide) (stp_call (avs := [_]) true rfl en_facts_Is rfl rfl (factsIs_ok f hf) (fun _ => rfl) rfl) ?_; refine awps_g0 rfl rfl rfl (by decide) rfl (by decide) (stp_not rfl rfl) ?_; refine awps_stp0 rfl rfl (by decide) (stp_pick rfl rfl rfl) ?_; refine awps_nil ?_; refine thenQ_nil ?_; refine awp_cond rfl (fun c0 => ?_) (fun c0 => ?_)
  · try simp only [↓cqA, cqB] at c0
    refine awp_seq ?_; refine awp_region ?_; refine awps_stp0 rfl rfl (by decide) (stp_move (.inr rfl) rfl) ?_; refine awps_stp0 rfl rfl (by decide) (stp_move (.inr rfl) rfl) ?_; refine awps_nil ?_; refine thenQ_nil ?_; refine awp_ret ?_; refine thenQ_ret (?_)
    -- leaf g10F0T
    refine ret0 (noL hL) (.inl rfl) (resAs_tmp rfl (resAs_tmp rfl (resAs_nil))) ?_ ?_
    · rfl
    refine ⟨?_, rfl⟩
    rw [findN, findE, if_neg (by simp_all), if_neg (by simp_all)]; rfl
  try simp only [↓cqA, cqB] at c0
  have hlb : listB l = true := by simp_all
  have hfb : factB f = true := by simp_all
  have hcc : listB l = true ∧ factB f = true := ⟨hlb, hfb⟩
  obtain ⟨hl3, hlm⟩ := listB_may hlb
  refine awp_skip ?_; refine thenQ_nil ?_; refine awp_seq ?_; refine awp_region ?_; refine awps_stp0 rfl rfl (by decide) (stp_move (.inl rfl) rfl) ?_; refine awps_stp0 rfl rfl (by decide) (stp_load_all rfl tf_api_Fact rfl rfl rfl rfl) ?_
  refine awps_call (avs := [_, _]) true rfl rfl rfl (by decide) en_facts_At rfl rfl (At_ok l f hl3 hw (fun k hk => factB_may (hlm k hk)) hf) rfl rfl ?_; refine awps_stp0 rfl rfl (by decide) (stp_move (.inr rfl) rfl) ?_; refine awps_nil ?_; refine thenQ_nil ?_; refine awp_seq ?_; refine awp_seq ?_; refine awp_region ?_; refine awps_stp0 rfl rfl (by decide) (stp_move (.inl rfl) rfl) ?_; refine awps_stp0 rfl rfl (by decide) (stp_binI rfl rfl rfl rfl) ?_; refine awps_nil ?_; refine thenQ_nil ?_; refine awp_cond rfl (fun c1 => ?_) (fun c1 => ?_)
  · try simp only [↓cqA, cqB] at c1
    refine awp_seq ?_; refine awp_region ?_; refine awps_stp0 rfl rfl (by decide) (stp_move (.inr rfl) rfl) ?_; refine awps_stp0 rfl rfl (by decide) (stp_move (.inr rfl) rfl) ?_; refine awps_nil ?_; refine thenQ_nil ?_; refine awp_ret ?_; refine thenQ_ret (?_)
    -- leaf g10F0F1T
    refine ret0 (noL hL) (.inl rfl) (resAs_tmp rfl (resAs_tmp rfl (resAs_nil))) ?_ ?_
    · rfl
    refine ⟨?_, rfl⟩
    rw [findN, findE, if_pos hcc, if_pos hcc, if_pos c1, if_pos c1]; rfl
  try simp only [↓cqA, cqB] at c1
  obtain ⟨i, x, ha, hx, _⟩ : ∃ (i : Nat) (x : Kp), atN f l = i ∧ l[i]? = some x ∧ cmpF x.f f = 0 := by
    rcases atN_cases f l with h | h
    · omega
    · exact h
  have hx2 : l[(atN f l).toNat]? = some x := by rw [ha]; exact hx
  refine awp_skip ?_; refine thenQ_nil ?_; refine awp_seq ?_; refine awp_region ?_; refine awps_stp0 rfl rfl (by decide) (stp_move (.inl rfl) rfl) ?_; refine awps_stp0 rfl rfl (by decide) (stp_move (.inl rfl) rfl) ?_; refine awps_stp0 rfl rfl (by decide) (stp_indexAddr rfl sl_S_api_Kept rfl rfl (by omega) (kpDs_get hx2)) ?_; refine awps_stp0 rfl rfl (by decide) (stp_fieldAddr_elp rfl fo_api_Kept_0 rfl) ?_; refine awps_stp0 rfl rfl (by decide) (stp_load_elp1 rfl tf_int rfl) ?_
  refine awps_stp0 rfl rfl (by decide) (stp_move (.inr rfl) rfl) ?_; refine awps_stp0 rfl rfl (by decide) (stp_move (.inr rfl) rfl) ?_; refine awps_nil ?_; refine thenQ_nil ?_; refine awp_ret ?_
  -- leaf g10F0F1F
  refine ret0 (noL hL) (.inl rfl) (resAs_tmp rfl (resAs_tmp rfl (resAs_nil))) ?_ ?_
  · rfl
  refine ⟨?_, rfl⟩
  rw [findN, findE, if_pos hcc, if_pos hcc, if_neg (show ¬ atN f l < 0 by omega), if_neg (show ¬ atN f l < 0 by omega), hx2]; rfl
def lastS (l : List Kp) : Int := match l[l.length - 1]? with | some x => x.seq | none => -1
def addC (l : List Kp) (n : Int) (f : Ft) : Bool := listB l && factB f && decide (0 ≤ n) && decide (n ≤ 1073741824) && (decide (l.length = 0) || decide (lastS l < n))
def addE (l : List Kp) (n : Int) (f : Ft) : Int := if addC l n f = false then 1 else if 0 ≤ atN f l then 4 else if 300 ≤ l.length then 2 else 0
def addL (l : List Kp) (n : Int) (f : Ft) : List Kp := if addE l n f = 0 then l ++ [⟨n, f⟩] else []
theorem addC_of {l : List Kp} {n : Int} {f : Ft} (hl : listB l = true) (hf : factB f = true) (h0 : 0 ≤ n) (h1 : n ≤ 1073741824) : addC l n f = (decide (l.length = 0) || decide (lastS l < n)) := by
  rw [addC, hl, hf, decide_eq_true h0, decide_eq_true h1]; rfl
theorem Add_ok (l : List Kp) (hw : ∀ k ∈ l, k.wf) (n : Int) (hn : i64 n) (f : Ft) (hf : f.wf) : PF 56 [.dat false 7 (kpDs l), iv n, ftA f] (.tup [.dat true 7 (kpDs (addL l n f)), iv (addE l n f)]) := by
  have hlen := kpDs_length l
  refine AC_leP (Post := fun r O => ((addE l n f ≠ 0 ∧ r = .tup [.imm (.slice none 0 0), iv (addE l n f)]) ∨ r = .tup [.dat true 7 (kpDs (addL l n f)), iv (addE l n f)]) ∧ O = []) ?_ (fun r O' h => by
    obtain ⟨⟨h1, rfl⟩ | rfl, rfl⟩ := h
    · exact ⟨_, .tup (.cons (.nil (f := true) (k := 7)) (.cons .refl .nil)), by rw [addL, if_neg h1]; rfl, rfl⟩
    · exact ⟨_, .refl, rfl, rfl⟩)
  have hlast : 0 < l.length → ∃ x, l[((l.length : Int) - 1).toNat]? = some x ∧ lastS l = x.seq := fun h => by
    obtain ⟨x, hx⟩ := get_of_lt (l := l) (k := l.length - 1) (by omega)
    exact ⟨x, by rw [show ((l.length : Int) - 1).toNat = l.length - 1 by omega]; exact hx, by rw [lastS, hx]⟩
  refine AC_intro Tryz.func56 rfl Tryz.ntmps56 (Nat.le_of_ble_eq_true rfl) fun c hL hQ hDD => ?_; refine awp_seq ?_; refine awp_region ?_; refine awps_stp1 rfl rfl (by decide) (stp_box 5 rfl rfl rfl) rfl ?_; refine awps_stp0 rfl rfl (by decide) (stp_move (.inr rfl) rfl) ?_; refine awps_stp0 rfl rfl (by decide) (stp_move (.inr rfl) rfl) ?_; refine awps_nil ?_; refine thenQ_nil ?_
  refine awp_seq ?_; refine awp_block ?_; refine awp_seq ?_; refine awp_region ?_; refine awps_stp0 rfl rfl (by decide) (stp_move (.inl rfl) rfl) ?_; refine awps_call (avs := [_]) true rfl rfl rfl (by decide) en_facts_List rfl rfl (List_ok l hw) rfl rfl ?_; refine awps_stp0 rfl rfl (by decide) (stp_not rfl rfl) ?_; refine awps_stp0 rfl rfl (by decide) (stp_move (.inl rfl) rfl) ?_; refine awps_split 12 rfl (fun g12 => ?_) (fun g12 => ?_)
  · try simp only [↓cqA, cqB] at g12
    refine awps_gs rfl rfl rfl rfl (by decide) rfl (by decide) ?_; refine awps_gs rfl rfl rfl rfl (by decide) rfl (by decide) ?_; refine awps_gs rfl rfl rfl rfl (by decide) rfl (by decide) ?_; refine awps_stp0 rfl rfl (by decide) (stp_pick rfl rfl rfl) ?_; refine awps_stp0 rfl rfl (by decide) (stp_move (.inl rfl) rfl) ?_; refine awps_gs rfl rfl rfl rfl (by decide) rfl (by decide) ?_
    refine awps_gs rfl rfl rfl rfl (by decide) rfl (by decide) ?_; refine awps_stp0 rfl rfl (by decide) (stp_pick rfl rfl rfl) ?_; refine awps_stp0 rfl rfl (by decide) (stp_move (.inl rfl) rfl) ?_; refine awps_gs rfl rfl rfl rfl (by decide) rfl (by decide) ?_; refine awps_gs rfl rfl rfl rfl (by decide) rfl (by decide) ?_; refine awps_stp0 rfl rfl (by decide) (stp_pick rfl rfl rfl) ?_
    refine awps_stp0 rfl rfl (by decide) (stp_move (.inl rfl) rfl) ?_; refine awps_gs rfl rfl rfl rfl (by decide) rfl (by decide) ?_; refine awps_gs rfl rfl rfl rfl (by decide) rfl (by decide) ?_; refine awps_gs rfl rfl rfl rfl (by decide) rfl (by decide) ?_; refine awps_gs rfl rfl rfl rfl (by decide) rfl (by decide) ?_; refine awps_gu rfl rfl rfl (by decide) rfl (by decide) ?_
    refine awps_gu rfl rfl rfl (by decide) rfl (by decide) ?_; refine awps_gu rfl rfl rfl (by decide) rfl (by decide) ?_; refine awps_gu rfl rfl rfl (by decide) rfl (by decide) ?_; refine awps_gu rfl rfl rfl (by decide) rfl (by decide) ?_; refine awps_gu rfl rfl rfl (by decide) rfl (by decide) ?_; refine awps_gu rfl rfl rfl (by decide) rfl (by decide) ?_
    refine awps_gu rfl rfl rfl (by decide) rfl (by decide) ?_; refine awps_gu rfl rfl rfl (by decide) rfl (by decide) ?_; refine awps_gs rfl rfl rfl rfl (by decide) rfl (by decide) ?_; refine awps_stp0 rfl rfl (by decide) (stp_pick rfl rfl rfl) ?_; refine awps_stp0 rfl rfl (by decide) (stp_move (.inr rfl) rfl) ?_; refine awps_nil ?_; refine thenQ_nil ?_; refine awp_condT rfl ?_
    refine awp_seq ?_; refine awp_region ?_; refine awps_stp0 rfl rfl (by decide) (stp_move (.inr rfl) rfl) ?_; refine awps_stp0 rfl rfl (by decide) (stp_move (.inr rfl) rfl) ?_; refine awps_nil ?_; refine thenQ_nil ?_; refine awp_ret ?_; refine inQ_ret (thenQ_ret (?_))
    -- leaf g12T
    refine ret0 (noL hL) (.inl rfl) (resAs_tmp rfl (resAs_tmp rfl (resAs_nil))) ?_ ?_
    · rfl
    refine ⟨?_, rfl⟩
    first
      | (have h1 : addC l n f = false := by
           first
             | (rw [addC_of hlb hfb g21 g25, decide_eq_false (show ¬ l.length = 0 by omega), decide_eq_false (show ¬ lastS l < n by omega)]; rfl)
             | (rw [addC, g12]; rfl)
             | (rw [addC, g17]; simp; done)
             | (rw [addC, decide_eq_false (show ¬ 0 ≤ n by omega)]; simp; done)
             | (rw [addC, decide_eq_false (show ¬ n ≤ 1073741824 by omega)]; simp; done)
         have h2 : addE l n f = 1 := by rw [addE, if_pos h1]
         exact .inl ⟨by rw [h2]; decide, by rw [h2]; rfl⟩)
      | (have h1 : addC l n f = true := by
           rw [addC_of hlb hfb g21 g25]
           first
             | (rw [decide_eq_true (show l.length = 0 by omega)]; rfl)
             | (rw [decide_eq_true (show lastS l < n by omega)]; simp; done)
         have h0 : ¬ addC l n f = false := by rw [h1]; decide
         first
           | (have h2 : addE l n f = 4 := by rw [addE, if_neg h0, if_pos (show 0 ≤ atN f l by omega)]
              exact .inl ⟨by rw [h2]; decide, by rw [h2]; rfl⟩)
           | (have h2 : addE l n f = 2 := by rw [addE, if_neg h0, if_neg (show ¬ 0 ≤ atN f l by omega), if_pos (show 300 ≤ l.length by omega)]
              exact .inl ⟨by rw [h2]; decide, by rw [h2]; rfl⟩)
           | (have h2 : addE l n f = 0 := by rw [addE, if_neg h0, if_neg (show ¬ 0 ≤ atN f l by omega), if_neg (show ¬ 300 ≤ l.length by omega)]
              refine .inr ?_
              have e : kpDs (addL l n f) = kpDs l ++ [kpD ⟨n, f⟩] := by rw [addL, if_pos h2, kpDs, List.map_append]; rfl
              rw [e, h2]; rfl))
  try simp only [↓cqA, cqB] at g12
  refine awps_g0 rfl rfl rfl (by decide) rfl (by decide) (stp_load_all rfl tf_api_Fact rfl rfl rfl rfl) ?_; refine awps_g0 rfl rfl rfl (by decide) rfl (by decide) (stp_call (avs := [_]) true rfl en_facts_Is rfl rfl (factsIs_ok f hf) (fun _ => rfl) rfl) ?_; refine awps_g0 rfl rfl rfl (by decide) rfl (by decide) (stp_not rfl rfl) ?_; refine awps_stp0 rfl rfl (by decide) (stp_pick rfl rfl rfl) ?_; refine awps_stp0 rfl rfl (by decide) (stp_move (.inl rfl) rfl) ?_; refine awps_split 17 rfl (fun g17 => ?_) (fun g17 => ?_)
  · try simp only [↓cqA, cqB] at g17
    refine awps_gs rfl rfl rfl rfl (by decide) rfl (by decide) ?_; refine awps_gs rfl rfl rfl rfl (by decide) rfl (by decide) ?_; refine awps_stp0 rfl rfl (by decide) (stp_pick rfl rfl rfl) ?_; refine awps_stp0 rfl rfl (by decide) (stp_move (.inl rfl) rfl) ?_; refine awps_gs rfl rfl rfl rfl (by decide) rfl (by decide) ?_; refine awps_gs rfl rfl rfl rfl (by decide) rfl (by decide) ?_
    refine awps_stp0 rfl rfl (by decide) (stp_pick rfl rfl rfl) ?_; refine awps_stp0 rfl rfl (by decide) (stp_move (.inl rfl) rfl) ?_; refine awps_gs rfl rfl rfl rfl (by decide) rfl (by decide) ?_; refine awps_gs rfl rfl rfl rfl (by decide) rfl (by decide) ?_; refine awps_gs rfl rfl rfl rfl (by decide) rfl (by decide) ?_; refine awps_gs rfl rfl rfl rfl (by decide) rfl (by decide) ?_
    refine awps_gu rfl rfl rfl (by decide) rfl (by decide) ?_; refine awps_gu rfl rfl rfl (by decide) rfl (by decide) ?_; refine awps_gu rfl rfl rfl (by decide) rfl (by decide) ?_; refine awps_gu rfl rfl rfl (by decide) rfl (by decide) ?_; refine awps_gu rfl rfl rfl (by decide) rfl (by decide) ?_; refine awps_gu rfl rfl rfl (by decide) rfl (by decide) ?_
    refine awps_gu rfl rfl rfl (by decide) rfl (by decide) ?_; refine awps_gu rfl rfl rfl (by decide) rfl (by decide) ?_; refine awps_gu rfl rfl rfl (by decide) rfl (by decide) ?_; refine awps_gs rfl rfl rfl rfl (by decide) rfl (by decide) ?_; refine awps_stp0 rfl rfl (by decide) (stp_pick rfl rfl rfl) ?_; refine awps_stp0 rfl rfl (by decide) (stp_move (.inr rfl) rfl) ?_; refine awps_nil ?_
    refine thenQ_nil ?_; refine awp_condT rfl ?_; refine awp_seq ?_; refine awp_region ?_; refine awps_stp0 rfl rfl (by decide) (stp_move (.inr rfl) rfl) ?_; refine awps_stp0 rfl rfl (by decide) (stp_move (.inr rfl) rfl) ?_; refine awps_nil ?_; refine thenQ_nil ?_; refine awp_ret ?_; refine inQ_ret (thenQ_ret (?_))
    -- leaf g12Fg17T
    refine ret0 (noL hL) (.inl rfl) (resAs_tmp rfl (resAs_tmp rfl (resAs_nil))) ?_ ?_
    · rfl
    refine ⟨?_, rfl⟩
    first
      | (have h1 : addC l n f = false := by
           first
             | (rw [addC_of hlb hfb g21 g25, decide_eq_false (show ¬ l.length = 0 by omega), decide_eq_false (show ¬ lastS l < n by omega)]; rfl)
             | (rw [addC, g12]; rfl)
             | (rw [addC, g17]; simp; done)
             | (rw [addC, decide_eq_false (show ¬ 0 ≤ n by omega)]; simp; done)
             | (rw [addC, decide_eq_false (show ¬ n ≤ 1073741824 by omega)]; simp; done)
         have h2 : addE l n f = 1 := by rw [addE, if_pos h1]
         exact .inl ⟨by rw [h2]; decide, by rw [h2]; rfl⟩)
      | (have h1 : addC l n f = true := by
           rw [addC_of hlb hfb g21 g25]
           first
             | (rw [decide_eq_true (show l.length = 0 by omega)]; rfl)
             | (rw [decide_eq_true (show lastS l < n by omega)]; simp; done)
         have h0 : ¬ addC l n f = false := by rw [h1]; decide
         first
           | (have h2 : addE l n f = 4 := by rw [addE, if_neg h0, if_pos (show 0 ≤ atN f l by omega)]
              exact .inl ⟨by rw [h2]; decide, by rw [h2]; rfl⟩)
           | (have h2 : addE l n f = 2 := by rw [addE, if_neg h0, if_neg (show ¬ 0 ≤ atN f l by omega), if_pos (show 300 ≤ l.length by omega)]
              exact .inl ⟨by rw [h2]; decide, by rw [h2]; rfl⟩)
           | (have h2 : addE l n f = 0 := by rw [addE, if_neg h0, if_neg (show ¬ 0 ≤ atN f l by omega), if_neg (show ¬ 300 ≤ l.length by omega)]
              refine .inr ?_
              have e : kpDs (addL l n f) = kpDs l ++ [kpD ⟨n, f⟩] := by rw [addL, if_pos h2, kpDs, List.map_append]; rfl
              rw [e, h2]; rfl))
  try simp only [↓cqA, cqB] at g17
  have hlb : listB l = true := by assumption
  have hfb : factB f = true := by assumption
  obtain ⟨hl3, hlm⟩ := listB_may hlb
  have hmay : ∀ k ∈ l, mayT k.f.t = true := fun k hk => factB_may (hlm k hk)
  refine awps_g0 rfl rfl rfl (by decide) rfl (by decide) (stp_move (.inl rfl) rfl) ?_; refine awps_g0 rfl rfl rfl (by decide) rfl (by decide) (stp_binI rfl rfl rfl rfl) ?_; refine awps_stp0 rfl rfl (by decide) (stp_pick rfl rfl rfl) ?_; refine awps_stp0 rfl rfl (by decide) (stp_move (.inl rfl) rfl) ?_; refine awps_split 21 rfl (fun g21 => ?_) (fun g21 => ?_)
  · try simp only [↓cqA, cqB] at g21
    refine awps_gs rfl rfl rfl rfl (by decide) rfl (by decide) ?_; refine awps_gs rfl rfl rfl rfl (by decide) rfl (by decide) ?_; refine awps_stp0 rfl rfl (by decide) (stp_pick rfl rfl rfl) ?_; refine awps_stp0 rfl rfl (by decide) (stp_move (.inl rfl) rfl) ?_; refine awps_gs rfl rfl rfl rfl (by decide) rfl (by decide) ?_; refine awps_gs rfl rfl rfl rfl (by decide) rfl (by decide) ?_
    refine awps_gs rfl rfl rfl rfl (by decide) rfl (by decide) ?_; refine awps_gs rfl rfl rfl rfl (by decide) rfl (by decide) ?_; refine awps_gu rfl rfl rfl (by decide) rfl (by decide) ?_; refine awps_gu rfl rfl rfl (by decide) rfl (by decide) ?_; refine awps_gu rfl rfl rfl (by decide) rfl (by decide) ?_; refine awps_gu rfl rfl rfl (by decide) rfl (by decide) ?_
    refine awps_gu rfl rfl rfl (by decide) rfl (by decide) ?_; refine awps_gu rfl rfl rfl (by decide) rfl (by decide) ?_; refine awps_gu rfl rfl rfl (by decide) rfl (by decide) ?_; refine awps_gu rfl rfl rfl (by decide) rfl (by decide) ?_; refine awps_gu rfl rfl rfl (by decide) rfl (by decide) ?_; refine awps_gs rfl rfl rfl rfl (by decide) rfl (by decide) ?_
    refine awps_stp0 rfl rfl (by decide) (stp_pick rfl rfl rfl) ?_; refine awps_stp0 rfl rfl (by decide) (stp_move (.inr rfl) rfl) ?_; refine awps_nil ?_; refine thenQ_nil ?_; refine awp_condT rfl ?_; refine awp_seq ?_; refine awp_region ?_; refine awps_stp0 rfl rfl (by decide) (stp_move (.inr rfl) rfl) ?_; refine awps_stp0 rfl rfl (by decide) (stp_move (.inr rfl) rfl) ?_; refine awps_nil ?_; refine thenQ_nil ?_; refine awp_ret ?_; refine inQ_ret (thenQ_ret (?_))
    -- leaf g12Fg17Fg21T
    refine ret0 (noL hL) (.inl rfl) (resAs_tmp rfl (resAs_tmp rfl (resAs_nil))) ?_ ?_
    · rfl
    refine ⟨?_, rfl⟩
    first
      | (have h1 : addC l n f = false := by
           first
             | (rw [addC_of hlb hfb g21 g25, decide_eq_false (show ¬ l.length = 0 by omega), decide_eq_false (show ¬ lastS l < n by omega)]; rfl)
             | (rw [addC, g12]; rfl)
             | (rw [addC, g17]; simp; done)
             | (rw [addC, decide_eq_false (show ¬ 0 ≤ n by omega)]; simp; done)
             | (rw [addC, decide_eq_false (show ¬ n ≤ 1073741824 by omega)]; simp; done)
         have h2 : addE l n f = 1 := by rw [addE, if_pos h1]
         exact .inl ⟨by rw [h2]; decide, by rw [h2]; rfl⟩)
      | (have h1 : addC l n f = true := by
           rw [addC_of hlb hfb g21 g25]
           first
             | (rw [decide_eq_true (show l.length = 0 by omega)]; rfl)
             | (rw [decide_eq_true (show lastS l < n by omega)]; simp; done)
         have h0 : ¬ addC l n f = false := by rw [h1]; decide
         first
           | (have h2 : addE l n f = 4 := by rw [addE, if_neg h0, if_pos (show 0 ≤ atN f l by omega)]
              exact .inl ⟨by rw [h2]; decide, by rw [h2]; rfl⟩)
           | (have h2 : addE l n f = 2 := by rw [addE, if_neg h0, if_neg (show ¬ 0 ≤ atN f l by omega), if_pos (show 300 ≤ l.length by omega)]
              exact .inl ⟨by rw [h2]; decide, by rw [h2]; rfl⟩)
           | (have h2 : addE l n f = 0 := by rw [addE, if_neg h0, if_neg (show ¬ 0 ≤ atN f l by omega), if_neg (show ¬ 300 ≤ l.length by omega)]
              refine .inr ?_
              have e : kpDs (addL l n f) = kpDs l ++ [kpD ⟨n, f⟩] := by rw [addL, if_pos h2, kpDs, List.map_append]; rfl
              rw [e, h2]; rfl))
  try simp only [↓cqA, cqB] at g21
  refine awps_g0 rfl rfl rfl (by decide) rfl (by decide) (stp_move (.inl rfl) rfl) ?_; refine awps_g0 rfl rfl rfl (by decide) rfl (by decide) (stp_binI rfl rfl rfl rfl) ?_; refine awps_stp0 rfl rfl (by decide) (stp_pick rfl rfl rfl) ?_; refine awps_stp0 rfl rfl (by decide) (stp_move (.inl rfl) rfl) ?_; refine awps_split 25 rfl (fun g25 => ?_) (fun g25 => ?_)
  · try simp only [↓cqA, cqB] at g25
    refine awps_gs rfl rfl rfl rfl (by decide) rfl (by decide) ?_; refine awps_gs rfl rfl rfl rfl (by decide) rfl (by decide) ?_; refine awps_gs rfl rfl rfl rfl (by decide) rfl (by decide) ?_; refine awps_gs rfl rfl rfl rfl (by decide) rfl (by decide) ?_; refine awps_gu rfl rfl rfl (by decide) rfl (by decide) ?_; refine awps_gu rfl rfl rfl (by decide) rfl (by decide) ?_
    refine awps_gu rfl rfl rfl (by decide) rfl (by decide) ?_; refine awps_gu rfl rfl rfl (by decide) rfl (by decide) ?_; refine awps_gu rfl rfl rfl (by decide) rfl (by decide) ?_; refine awps_gu rfl rfl rfl (by decide) rfl (by decide) ?_; refine awps_gu rfl rfl rfl (by decide) rfl (by decide) ?_; refine awps_gu rfl rfl rfl (by decide) rfl (by decide) ?_
    refine awps_gu rfl rfl rfl (by decide) rfl (by decide) ?_; refine awps_gs rfl rfl rfl rfl (by decide) rfl (by decide) ?_; refine awps_stp0 rfl rfl (by decide) (stp_pick rfl rfl rfl) ?_; refine awps_stp0 rfl rfl (by decide) (stp_move (.inr rfl) rfl) ?_; refine awps_nil ?_; refine thenQ_nil ?_; refine awp_condT rfl ?_; refine awp_seq ?_; refine awp_region ?_; refine awps_stp0 rfl rfl (by decide) (stp_move (.inr rfl) rfl) ?_; refine awps_stp0 rfl rfl (by decide) (stp_move (.inr rfl) rfl) ?_; refine awps_nil ?_; refine thenQ_nil ?_; refine awp_ret ?_; refine inQ_ret (thenQ_ret (?_))
    -- leaf g12Fg17Fg21Fg25T
    refine ret0 (noL hL) (.inl rfl) (resAs_tmp rfl (resAs_tmp rfl (resAs_nil))) ?_ ?_
    · rfl
    refine ⟨?_, rfl⟩
    first
      | (have h1 : addC l n f = false := by
           first
             | (rw [addC_of hlb hfb g21 g25, decide_eq_false (show ¬ l.length = 0 by omega), decide_eq_false (show ¬ lastS l < n by omega)]; rfl)
             | (rw [addC, g12]; rfl)
             | (rw [addC, g17]; simp; done)
             | (rw [addC, decide_eq_false (show ¬ 0 ≤ n by omega)]; simp; done)
             | (rw [addC, decide_eq_false (show ¬ n ≤ 1073741824 by omega)]; simp; done)
         have h2 : addE l n f = 1 := by rw [addE, if_pos h1]
         exact .inl ⟨by rw [h2]; decide, by rw [h2]; rfl⟩)
      | (have h1 : addC l n f = true := by
           rw [addC_of hlb hfb g21 g25]
           first
             | (rw [decide_eq_true (show l.length = 0 by omega)]; rfl)
             | (rw [decide_eq_true (show lastS l < n by omega)]; simp; done)
         have h0 : ¬ addC l n f = false := by rw [h1]; decide
         first
           | (have h2 : addE l n f = 4 := by rw [addE, if_neg h0, if_pos (show 0 ≤ atN f l by omega)]
              exact .inl ⟨by rw [h2]; decide, by rw [h2]; rfl⟩)
           | (have h2 : addE l n f = 2 := by rw [addE, if_neg h0, if_neg (show ¬ 0 ≤ atN f l by omega), if_pos (show 300 ≤ l.length by omega)]
              exact .inl ⟨by rw [h2]; decide, by rw [h2]; rfl⟩)
           | (have h2 : addE l n f = 0 := by rw [addE, if_neg h0, if_neg (show ¬ 0 ≤ atN f l by omega), if_neg (show ¬ 300 ≤ l.length by omega)]
              refine .inr ?_
              have e : kpDs (addL l n f) = kpDs l ++ [kpD ⟨n, f⟩] := by rw [addL, if_pos h2, kpDs, List.map_append]; rfl
              rw [e, h2]; rfl))
  try simp only [↓cqA, cqB] at g25
  refine awps_g0 rfl rfl rfl (by decide) rfl (by decide) (stp_move (.inl rfl) rfl) ?_; refine awps_g0 rfl rfl rfl (by decide) rfl (by decide) (stp_len_dat rfl sl_S_api_Kept rfl) ?_; refine awps_g0 rfl rfl rfl (by decide) rfl (by decide) (stp_binI rfl rfl rfl rfl) ?_; refine awps_g0 rfl rfl rfl (by decide) rfl (by decide) (stp_move (.inl rfl) rfl) ?_; refine awps_split 29 rfl (fun g29 => ?_) (fun g29 => ?_)
  · try simp only [↓cqA, cqB] at g29
    have hl30 := (listB_may (l := l) (by assumption)).1
    obtain ⟨x, hx, hxl⟩ := hlast (by omega)
    rw [← hlen] at hx
    refine awps_g0 rfl rfl rfl (by decide) rfl (by decide) (stp_move (.inl rfl) rfl) ?_; refine awps_g0 rfl rfl rfl (by decide) rfl (by decide) (stp_move (.inl rfl) rfl) ?_; refine awps_g0 rfl rfl rfl (by decide) rfl (by decide) (stp_move (.inl rfl) rfl) ?_; refine awps_g0 rfl rfl rfl (by decide) rfl (by decide) (stp_len_dat rfl sl_S_api_Kept rfl) ?_; refine awps_g0 rfl rfl rfl (by decide) rfl (by decide) (stp_sub rfl rfl rfl (by omega)) ?_; refine awps_g0 rfl rfl rfl (by decide) rfl (by decide) (stp_indexAddr rfl sl_S_api_Kept rfl rfl (by omega) (kpDs_get hx)) ?_
    refine awps_g0 rfl rfl rfl (by decide) rfl (by decide) (stp_fieldAddr_elp rfl fo_api_Kept_0 rfl) ?_; refine awps_g0 rfl rfl rfl (by decide) rfl (by decide) (stp_load_elp1 rfl tf_int rfl) ?_; refine awps_g0 rfl rfl rfl (by decide) rfl (by decide) (stp_binI rfl rfl rfl rfl) ?_; refine awps_g0 rfl rfl rfl (by decide) rfl (by decide) (stp_pick rfl rfl rfl) ?_; refine awps_stp0 rfl rfl (by decide) (stp_pick rfl rfl rfl) ?_; refine awps_stp0 rfl rfl (by decide) (stp_move (.inr rfl) rfl) ?_; refine awps_nil ?_; refine thenQ_nil ?_; refine awp_cond rfl (fun c0 => ?_) (fun c0 => ?_)
    · try simp only [↓cqA, cqB] at c0
      refine awp_seq ?_; refine awp_region ?_; refine awps_stp0 rfl rfl (by decide) (stp_move (.inr rfl) rfl) ?_; refine awps_stp0 rfl rfl (by decide) (stp_move (.inr rfl) rfl) ?_; refine awps_nil ?_; refine thenQ_nil ?_; refine awp_ret ?_; refine inQ_ret (thenQ_ret (?_))
      -- leaf g12Fg17Fg21Fg25Fg29T0T
      refine ret0 (noL hL) (.inl rfl) (resAs_tmp rfl (resAs_tmp rfl (resAs_nil))) ?_ ?_
      · rfl
      refine ⟨?_, rfl⟩
      first
        | (have h1 : addC l n f = false := by
             first
               | (rw [addC_of hlb hfb g21 g25, decide_eq_false (show ¬ l.length = 0 by omega), decide_eq_false (show ¬ lastS l < n by omega)]; rfl)
               | (rw [addC, g12]; rfl)
               | (rw [addC, g17]; simp; done)
               | (rw [addC, decide_eq_false (show ¬ 0 ≤ n by omega)]; simp; done)
               | (rw [addC, decide_eq_false (show ¬ n ≤ 1073741824 by omega)]; simp; done)
           have h2 : addE l n f = 1 := by rw [addE, if_pos h1]
           exact .inl ⟨by rw [h2]; decide, by rw [h2]; rfl⟩)
        | (have h1 : addC l n f = true := by
             rw [addC_of hlb hfb g21 g25]
             first
               | (rw [decide_eq_true (show l.length = 0 by omega)]; rfl)
               | (rw [decide_eq_true (show lastS l < n by omega)]; simp; done)
           have h0 : ¬ addC l n f = false := by rw [h1]; decide
           first
             | (have h2 : addE l n f = 4 := by rw [addE, if_neg h0, if_pos (show 0 ≤ atN f l by omega)]
                exact .inl ⟨by rw [h2]; decide, by rw [h2]; rfl⟩)
             | (have h2 : addE l n f = 2 := by rw [addE, if_neg h0, if_neg (show ¬ 0 ≤ atN f l by omega), if_pos (show 300 ≤ l.length by omega)]
                exact .inl ⟨by rw [h2]; decide, by rw [h2]; rfl⟩)
             | (have h2 : addE l n f = 0 := by rw [addE, if_neg h0, if_neg (show ¬ 0 ≤ atN f l by omega), if_neg (show ¬ 300 ≤ l.length by omega)]
                refine .inr ?_
                have e : kpDs (addL l n f) = kpDs l ++ [kpD ⟨n, f⟩] := by rw [addL, if_pos h2, kpDs, List.map_append]; rfl
                rw [e, h2]; rfl))
    try simp only [↓cqA, cqB] at c0
    refine awp_seq ?_; refine awp_region ?_; refine awps_stp0 rfl rfl (by decide) (stp_move (.inl rfl) rfl) ?_; refine awps_stp0 rfl rfl (by decide) (stp_load_all rfl tf_api_Fact rfl rfl rfl rfl) ?_; refine awps_call (avs := [_, _]) true rfl rfl rfl (by decide) en_facts_At rfl rfl (At_ok l f hl3 hw hmay hf) rfl rfl ?_; refine awps_stp0 rfl rfl (by decide) (stp_binI rfl rfl rfl rfl) ?_; refine awps_stp0 rfl rfl (by decide) (stp_move (.inr rfl) rfl) ?_; refine awps_nil ?_; refine thenQ_nil ?_; refine awp_cond rfl (fun c1 => ?_) (fun c1 => ?_)
    · try simp only [↓cqA, cqB] at c1
      refine awp_seq ?_; refine awp_region ?_; refine awps_stp0 rfl rfl (by decide) (stp_move (.inr rfl) rfl) ?_; refine awps_stp0 rfl rfl (by decide) (stp_move (.inr rfl) rfl) ?_; refine awps_nil ?_; refine thenQ_nil ?_; refine awp_ret ?_; refine inQ_ret (thenQ_ret (?_))
      -- leaf g12Fg17Fg21Fg25Fg29T0F1T
      refine ret0 (noL hL) (.inl rfl) (resAs_tmp rfl (resAs_tmp rfl (resAs_nil))) ?_ ?_
      · rfl
      refine ⟨?_, rfl⟩
      first
        | (have h1 : addC l n f = false := by
             first
               | (rw [addC_of hlb hfb g21 g25, decide_eq_false (show ¬ l.length = 0 by omega), decide_eq_false (show ¬ lastS l < n by omega)]; rfl)
               | (rw [addC, g12]; rfl)
               | (rw [addC, g17]; simp; done)
               | (rw [addC, decide_eq_false (show ¬ 0 ≤ n by omega)]; simp; done)
               | (rw [addC, decide_eq_false (show ¬ n ≤ 1073741824 by omega)]; simp; done)
           have h2 : addE l n f = 1 := by rw [addE, if_pos h1]
           exact .inl ⟨by rw [h2]; decide, by rw [h2]; rfl⟩)
        | (have h1 : addC l n f = true := by
             rw [addC_of hlb hfb g21 g25]
             first
               | (rw [decide_eq_true (show l.length = 0 by omega)]; rfl)
               | (rw [decide_eq_true (show lastS l < n by omega)]; simp; done)
           have h0 : ¬ addC l n f = false := by rw [h1]; decide
           first
             | (have h2 : addE l n f = 4 := by rw [addE, if_neg h0, if_pos (show 0 ≤ atN f l by omega)]
                exact .inl ⟨by rw [h2]; decide, by rw [h2]; rfl⟩)
             | (have h2 : addE l n f = 2 := by rw [addE, if_neg h0, if_neg (show ¬ 0 ≤ atN f l by omega), if_pos (show 300 ≤ l.length by omega)]
                exact .inl ⟨by rw [h2]; decide, by rw [h2]; rfl⟩)
             | (have h2 : addE l n f = 0 := by rw [addE, if_neg h0, if_neg (show ¬ 0 ≤ atN f l by omega), if_neg (show ¬ 300 ≤ l.length by omega)]
                refine .inr ?_
                have e : kpDs (addL l n f) = kpDs l ++ [kpD ⟨n, f⟩] := by rw [addL, if_pos h2, kpDs, List.map_append]; rfl
                rw [e, h2]; rfl))
    try simp only [↓cqA, cqB] at c1
    refine awp_seq ?_; refine awp_region ?_; refine awps_stp0 rfl rfl (by decide) (stp_move (.inl rfl) rfl) ?_; refine awps_stp0 rfl rfl (by decide) (stp_len_dat rfl sl_S_api_Kept rfl) ?_; refine awps_stp0 rfl rfl (by decide) (stp_binI rfl rfl rfl rfl) ?_; refine awps_stp0 rfl rfl (by decide) (stp_move (.inr rfl) rfl) ?_; refine awps_nil ?_; refine thenQ_nil ?_; refine awp_cond rfl (fun c2 => ?_) (fun c2 => ?_)
    · try simp only [↓cqA, cqB] at c2
      refine awp_seq ?_; refine awp_region ?_; refine awps_stp0 rfl rfl (by decide) (stp_move (.inr rfl) rfl) ?_; refine awps_stp0 rfl rfl (by decide) (stp_move (.inr rfl) rfl) ?_; refine awps_nil ?_; refine thenQ_nil ?_; refine awp_ret ?_; refine inQ_ret (thenQ_ret (?_))
      -- leaf g12Fg17Fg21Fg25Fg29T0F1F2T
      refine ret0 (noL hL) (.inl rfl) (resAs_tmp rfl (resAs_tmp rfl (resAs_nil))) ?_ ?_
      · rfl
      refine ⟨?_, rfl⟩
      first
        | (have h1 : addC l n f = false := by
             first
               | (rw [addC_of hlb hfb g21 g25, decide_eq_false (show ¬ l.length = 0 by omega), decide_eq_false (show ¬ lastS l < n by omega)]; rfl)
               | (rw [addC, g12]; rfl)
               | (rw [addC, g17]; simp; done)
               | (rw [addC, decide_eq_false (show ¬ 0 ≤ n by omega)]; simp; done)
               | (rw [addC, decide_eq_false (show ¬ n ≤ 1073741824 by omega)]; simp; done)
           have h2 : addE l n f = 1 := by rw [addE, if_pos h1]
           exact .inl ⟨by rw [h2]; decide, by rw [h2]; rfl⟩)
        | (have h1 : addC l n f = true := by
             rw [addC_of hlb hfb g21 g25]
             first
               | (rw [decide_eq_true (show l.length = 0 by omega)]; rfl)
               | (rw [decide_eq_true (show lastS l < n by omega)]; simp; done)
           have h0 : ¬ addC l n f = false := by rw [h1]; decide
           first
             | (have h2 : addE l n f = 4 := by rw [addE, if_neg h0, if_pos (show 0 ≤ atN f l by omega)]
                exact .inl ⟨by rw [h2]; decide, by rw [h2]; rfl⟩)
             | (have h2 : addE l n f = 2 := by rw [addE, if_neg h0, if_neg (show ¬ 0 ≤ atN f l by omega), if_pos (show 300 ≤ l.length by omega)]
                exact .inl ⟨by rw [h2]; decide, by rw [h2]; rfl⟩)
             | (have h2 : addE l n f = 0 := by rw [addE, if_neg h0, if_neg (show ¬ 0 ≤ atN f l by omega), if_neg (show ¬ 300 ≤ l.length by omega)]
                refine .inr ?_
                have e : kpDs (addL l n f) = kpDs l ++ [kpD ⟨n, f⟩] := by rw [addL, if_pos h2, kpDs, List.map_append]; rfl
                rw [e, h2]; rfl))
    try simp only [↓cqA, cqB] at c2
    refine awp_skip ?_; refine inQ_nil ?_; refine thenQ_nil ?_; refine awp_seq ?_; refine awp_drawG 5 mixed rfl rfl rfl rfl ?_; refine MGo_c0 rfl (by decide) (.run rfl (stp_move (.inl rfl) rfl)) ?_; refine MGo_u rfl rfl (by decide) (stpU_call (avs := [_]) true rfl en_facts_Owns rfl rfl (Owns_ok l hl3 hw hmay) (fun _ => rfl) rfl) ?_; refine MGo_c0 rfl (by decide) (.run rfl (stp_move (.inl rfl) rfl)) ?_; refine MGo_c0 rfl (by decide) (.run rfl (stp_load_all rfl tf_api_Fact rfl rfl rfl rfl)) ?_
    refine MGo_c0 rfl (by decide) (.run rfl (stp_call (avs := [_]) true rfl en_facts_Own rfl rfl (factsOwn_ok f hf (factB_may hfb)) (fun _ => rfl) rfl)) ?_; refine MGo_nil ⟨rfl, rfl, ?_⟩; refine awps_stp0 rfl rfl (by decide) (stp_build rfl zv_api_Kept rfl pl_api_Kept rfl rfl) ?_; refine awps_stp0 rfl rfl (by decide) (stp_buildSliceD true rfl sl_S_api_Kept zv_api_Kept rfl rfl (by decide) (by decide) (by decide) rfl rfl rfl rfl) ?_
    refine awps_u rfl rfl (by decide) (stpU_appendd 57 ta_S_api_Kept rfl rfl rfl rfl rfl (noL hL _) (fun d hd => by simp only [chunk, List.mem_cons, List.not_mem_nil, or_false] at hd; subst hd; rfl) (by simp [chunk]; omega) rfl) rfl ?_; refine awps_stp0 rfl rfl (by decide) (stp_move (.inr rfl) rfl) ?_; refine awps_stp0 rfl rfl (by decide) (stp_move (.inr rfl) rfl) ?_; refine awps_sub (sub_freeze (l := 57) rfl (by decide) (noL hL _) rfl rfl) ?_; refine awps_nil ?_; refine thenQ_nil ?_; refine awp_ret ?_
    -- leaf g12Fg17Fg21Fg25Fg29T0F1F2F
    refine ret0 (noL hL) (.inl rfl) (resAs_tmp rfl (resAs_tmp rfl (resAs_nil))) ?_ ?_
    · rfl
    refine ⟨?_, rfl⟩
    first
      | (have h1 : addC l n f = false := by
           first
             | (rw [addC_of hlb hfb g21 g25, decide_eq_false (show ¬ l.length = 0 by omega), decide_eq_false (show ¬ lastS l < n by omega)]; rfl)
             | (rw [addC, g12]; rfl)
             | (rw [addC, g17]; simp; done)
             | (rw [addC, decide_eq_false (show ¬ 0 ≤ n by omega)]; simp; done)
             | (rw [addC, decide_eq_false (show ¬ n ≤ 1073741824 by omega)]; simp; done)
         have h2 : addE l n f = 1 := by rw [addE, if_pos h1]
         exact .inl ⟨by rw [h2]; decide, by rw [h2]; rfl⟩)
      | (have h1 : addC l n f = true := by
           rw [addC_of hlb hfb g21 g25]
           first
             | (rw [decide_eq_true (show l.length = 0 by omega)]; rfl)
             | (rw [decide_eq_true (show lastS l < n by omega)]; simp; done)
         have h0 : ¬ addC l n f = false := by rw [h1]; decide
         first
           | (have h2 : addE l n f = 4 := by rw [addE, if_neg h0, if_pos (show 0 ≤ atN f l by omega)]
              exact .inl ⟨by rw [h2]; decide, by rw [h2]; rfl⟩)
           | (have h2 : addE l n f = 2 := by rw [addE, if_neg h0, if_neg (show ¬ 0 ≤ atN f l by omega), if_pos (show 300 ≤ l.length by omega)]
              exact .inl ⟨by rw [h2]; decide, by rw [h2]; rfl⟩)
           | (have h2 : addE l n f = 0 := by rw [addE, if_neg h0, if_neg (show ¬ 0 ≤ atN f l by omega), if_neg (show ¬ 300 ≤ l.length by omega)]
              refine .inr ?_
              have e : kpDs (addL l n f) = kpDs l ++ [kpD ⟨n, f⟩] := by rw [addL, if_pos h2, kpDs, List.map_append]; rfl
              rw [e, h2]; rfl))
  try simp only [↓cqA, cqB] at g29
  refine awps_gs rfl rfl rfl rfl (by decide) rfl (by decide) ?_; refine awps_gs rfl rfl rfl rfl (by decide) rfl (by decide) ?_; refine awps_gs rfl rfl rfl rfl (by decide) rfl (by decide) ?_; refine awps_gs rfl rfl rfl rfl (by decide) rfl (by decide) ?_; refine awps_gs rfl rfl rfl rfl (by decide) rfl (by decide) ?_; refine awps_gs rfl rfl rfl rfl (by decide) rfl (by decide) ?_
  refine awps_gs rfl rfl rfl rfl (by decide) rfl (by decide) ?_; refine awps_gs rfl rfl rfl rfl (by decide) rfl (by decide) ?_; refine awps_gs rfl rfl rfl rfl (by decide) rfl (by decide) ?_; refine awps_g0 rfl rfl rfl (by decide) rfl (by decide) (stp_pick rfl rfl rfl) ?_; refine awps_stp0 rfl rfl (by decide) (stp_pick rfl rfl rfl) ?_; refine awps_stp0 rfl rfl (by decide) (stp_move (.inr rfl) rfl) ?_; refine awps_nil ?_; refine thenQ_nil ?_; refine awp_condF rfl ?_; refine awp_seq ?_; refine awp_region ?_; refine awps_stp0 rfl rfl (by decide) (stp_move (.inl rfl) rfl) ?_
  refine awps_stp0 rfl rfl (by decide) (stp_load_all rfl tf_api_Fact rfl rfl rfl rfl) ?_; refine awps_call (avs := [_, _]) true rfl rfl rfl (by decide) en_facts_At rfl rfl (At_ok l f hl3 hw hmay hf) rfl rfl ?_; refine awps_stp0 rfl rfl (by decide) (stp_binI rfl rfl rfl rfl) ?_; refine awps_stp0 rfl rfl (by decide) (stp_move (.inr rfl) rfl) ?_; refine awps_nil ?_; refine thenQ_nil ?_; refine awp_cond rfl (fun c1 => ?_) (fun c1 => ?_)
  · try simp only [↓cqA, cqB] at c1
    refine awp_seq ?_; refine awp_region ?_; refine awps_stp0 rfl rfl (by decide) (stp_move (.inr rfl) rfl) ?_; refine awps_stp0 rfl rfl (by decide) (stp_move (.inr rfl) rfl) ?_; refine awps_nil ?_; refine thenQ_nil ?_; refine awp_ret ?_; refine inQ_ret (thenQ_ret (?_))
    -- leaf g12Fg17Fg21Fg25Fg29F1T
    refine ret0 (noL hL) (.inl rfl) (resAs_tmp rfl (resAs_tmp rfl (resAs_nil))) ?_ ?_
    · rfl
    refine ⟨?_, rfl⟩
    first
      | (have h1 : addC l n f = false := by
           first
             | (rw [addC_of hlb hfb g21 g25, decide_eq_false (show ¬ l.length = 0 by omega), decide_eq_false (show ¬ lastS l < n by omega)]; rfl)
             | (rw [addC, g12]; rfl)
             | (rw [addC, g17]; simp; done)
             | (rw [addC, decide_eq_false (show ¬ 0 ≤ n by omega)]; simp; done)
             | (rw [addC, decide_eq_false (show ¬ n ≤ 1073741824 by omega)]; simp; done)
         have h2 : addE l n f = 1 := by rw [addE, if_pos h1]
         exact .inl ⟨by rw [h2]; decide, by rw [h2]; rfl⟩)
      | (have h1 : addC l n f = true := by
           rw [addC_of hlb hfb g21 g25]
           first
             | (rw [decide_eq_true (show l.length = 0 by omega)]; rfl)
             | (rw [decide_eq_true (show lastS l < n by omega)]; simp; done)
         have h0 : ¬ addC l n f = false := by rw [h1]; decide
         first
           | (have h2 : addE l n f = 4 := by rw [addE, if_neg h0, if_pos (show 0 ≤ atN f l by omega)]
              exact .inl ⟨by rw [h2]; decide, by rw [h2]; rfl⟩)
           | (have h2 : addE l n f = 2 := by rw [addE, if_neg h0, if_neg (show ¬ 0 ≤ atN f l by omega), if_pos (show 300 ≤ l.length by omega)]
              exact .inl ⟨by rw [h2]; decide, by rw [h2]; rfl⟩)
           | (have h2 : addE l n f = 0 := by rw [addE, if_neg h0, if_neg (show ¬ 0 ≤ atN f l by omega), if_neg (show ¬ 300 ≤ l.length by omega)]
              refine .inr ?_
              have e : kpDs (addL l n f) = kpDs l ++ [kpD ⟨n, f⟩] := by rw [addL, if_pos h2, kpDs, List.map_append]; rfl
              rw [e, h2]; rfl))
  try simp only [↓cqA, cqB] at c1
  refine awp_seq ?_; refine awp_region ?_; refine awps_stp0 rfl rfl (by decide) (stp_move (.inl rfl) rfl) ?_; refine awps_stp0 rfl rfl (by decide) (stp_len_dat rfl sl_S_api_Kept rfl) ?_; refine awps_stp0 rfl rfl (by decide) (stp_binI rfl rfl rfl rfl) ?_; refine awps_stp0 rfl rfl (by decide) (stp_move (.inr rfl) rfl) ?_; refine awps_nil ?_; refine thenQ_nil ?_; refine awp_cond rfl (fun c2 => ?_) (fun c2 => ?_)
  · try simp only [↓cqA, cqB] at c2
    refine awp_seq ?_; refine awp_region ?_; refine awps_stp0 rfl rfl (by decide) (stp_move (.inr rfl) rfl) ?_; refine awps_stp0 rfl rfl (by decide) (stp_move (.inr rfl) rfl) ?_; refine awps_nil ?_; refine thenQ_nil ?_; refine awp_ret ?_; refine inQ_ret (thenQ_ret (?_))
    -- leaf g12Fg17Fg21Fg25Fg29F1F2T
    refine ret0 (noL hL) (.inl rfl) (resAs_tmp rfl (resAs_tmp rfl (resAs_nil))) ?_ ?_
    · rfl
    refine ⟨?_, rfl⟩
    first
      | (have h1 : addC l n f = false := by
           first
             | (rw [addC_of hlb hfb g21 g25, decide_eq_false (show ¬ l.length = 0 by omega), decide_eq_false (show ¬ lastS l < n by omega)]; rfl)
             | (rw [addC, g12]; rfl)
             | (rw [addC, g17]; simp; done)
             | (rw [addC, decide_eq_false (show ¬ 0 ≤ n by omega)]; simp; done)
             | (rw [addC, decide_eq_false (show ¬ n ≤ 1073741824 by omega)]; simp; done)
         have h2 : addE l n f = 1 := by rw [addE, if_pos h1]
         exact .inl ⟨by rw [h2]; decide, by rw [h2]; rfl⟩)
      | (have h1 : addC l n f = true := by
           rw [addC_of hlb hfb g21 g25]
           first
             | (rw [decide_eq_true (show l.length = 0 by omega)]; rfl)
             | (rw [decide_eq_true (show lastS l < n by omega)]; simp; done)
         have h0 : ¬ addC l n f = false := by rw [h1]; decide
         first
           | (have h2 : addE l n f = 4 := by rw [addE, if_neg h0, if_pos (show 0 ≤ atN f l by omega)]
              exact .inl ⟨by rw [h2]; decide, by rw [h2]; rfl⟩)
           | (have h2 : addE l n f = 2 := by rw [addE, if_neg h0, if_neg (show ¬ 0 ≤ atN f l by omega), if_pos (show 300 ≤ l.length by omega)]
              exact .inl ⟨by rw [h2]; decide, by rw [h2]; rfl⟩)
           | (have h2 : addE l n f = 0 := by rw [addE, if_neg h0, if_neg (show ¬ 0 ≤ atN f l by omega), if_neg (show ¬ 300 ≤ l.length by omega)]
              refine .inr ?_
              have e : kpDs (addL l n f) = kpDs l ++ [kpD ⟨n, f⟩] := by rw [addL, if_pos h2, kpDs, List.map_append]; rfl
              rw [e, h2]; rfl))
  try simp only [↓cqA, cqB] at c2
  refine awp_skip ?_; refine inQ_nil ?_; refine thenQ_nil ?_; refine awp_seq ?_; refine awp_drawG 5 mixed rfl rfl rfl rfl ?_; refine MGo_c0 rfl (by decide) (.run rfl (stp_move (.inl rfl) rfl)) ?_; refine MGo_u rfl rfl (by decide) (stpU_call (avs := [_]) true rfl en_facts_Owns rfl rfl (Owns_ok l hl3 hw hmay) (fun _ => rfl) rfl) ?_; refine MGo_c0 rfl (by decide) (.run rfl (stp_move (.inl rfl) rfl)) ?_; refine MGo_c0 rfl (by decide) (.run rfl (stp_load_all rfl tf_api_Fact rfl rfl rfl rfl)) ?_
  refine MGo_c0 rfl (by decide) (.run rfl (stp_call (avs := [_]) true rfl en_facts_Own rfl rfl (factsOwn_ok f hf (factB_may hfb)) (fun _ => rfl) rfl)) ?_; refine MGo_nil ⟨rfl, rfl, ?_⟩; refine awps_stp0 rfl rfl (by decide) (stp_build rfl zv_api_Kept rfl pl_api_Kept rfl rfl) ?_; refine awps_stp0 rfl rfl (by decide) (stp_buildSliceD true rfl sl_S_api_Kept zv_api_Kept rfl rfl (by decide) (by decide) (by decide) rfl rfl rfl rfl) ?_
  refine awps_u rfl rfl (by decide) (stpU_appendd 57 ta_S_api_Kept rfl rfl rfl rfl rfl (noL hL _) (fun d hd => by simp only [chunk, List.mem_cons, List.not_mem_nil, or_false] at hd; subst hd; rfl) (by simp [chunk]; omega) rfl) rfl ?_; refine awps_stp0 rfl rfl (by decide) (stp_move (.inr rfl) rfl) ?_; refine awps_stp0 rfl rfl (by decide) (stp_move (.inr rfl) rfl) ?_; refine awps_sub (sub_freeze (l := 57) rfl (by decide) (noL hL _) rfl rfl) ?_; refine awps_nil ?_; refine thenQ_nil ?_; refine awp_ret ?_
  -- leaf g12Fg17Fg21Fg25Fg29F1F2F
  refine ret0 (noL hL) (.inl rfl) (resAs_tmp rfl (resAs_tmp rfl (resAs_nil))) ?_ ?_
  · rfl
  refine ⟨?_, rfl⟩
  first
    | (have h1 : addC l n f = false := by
         first
           | (rw [addC_of hlb hfb g21 g25, decide_eq_false (show ¬ l.length = 0 by omega), decide_eq_false (show ¬ lastS l < n by omega)]; rfl)
           | (rw [addC, g12]; rfl)
           | (rw [addC, g17]; simp; done)
           | (rw [addC, decide_eq_false (show ¬ 0 ≤ n by omega)]; simp; done)
           | (rw [addC, decide_eq_false (show ¬ n ≤ 1073741824 by omega)]; simp; done)
       have h2 : addE l n f = 1 := by rw [addE, if_pos h1]
       exact .inl ⟨by rw [h2]; decide, by rw [h2]; rfl⟩)
    | (have h1 : addC l n f = true := by
         rw [addC_of hlb hfb g21 g25]
         first
           | (rw [decide_eq_true (show l.length = 0 by omega)]; rfl)
           | (rw [decide_eq_true (show lastS l < n by omega)]; simp; done)
       have h0 : ¬ addC l n f = false := by rw [h1]; decide
       first
         | (have h2 : addE l n f = 4 := by rw [addE, if_neg h0, if_pos (show 0 ≤ atN f l by omega)]
            exact .inl ⟨by rw [h2]; decide, by rw [h2]; rfl⟩)
         | (have h2 : addE l n f = 2 := by rw [addE, if_neg h0, if_neg (show ¬ 0 ≤ atN f l by omega), if_pos (show 300 ≤ l.length by omega)]
            exact .inl ⟨by rw [h2]; decide, by rw [h2]; rfl⟩)
         | (have h2 : addE l n f = 0 := by rw [addE, if_neg h0, if_neg (show ¬ 0 ≤ atN f l by omega), if_neg (show ¬ 300 ≤ l.length by omega)]
            refine .inr ?_
            have e : kpDs (addL l n f) = kpDs l ++ [kpD ⟨n, f⟩] := by rw [addL, if_pos h2, kpDs, List.map_append]; rfl
            rw [e, h2]; rfl))
end Go.Proofs.YtdecgkhdbfgldaaGreat
