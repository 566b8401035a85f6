/- Part 18 of the proof: In, Ig, Ip, Iq. -/
import Derived.Test.YtdecgkhdbfgldaaGreatD17
set_option linter.unusedVariables false
set_option linter.unusedSimpArgs false
namespace Go.Proofs.YtdecgkhdbfgldaaGreat
open Go
theorem varB_nosp {s : ByteArray} (h : varB s = true) : ∀ c ∈ s.data.toList, c ≠ 32 := by
  intro c hc e
  subst e
  obtain ⟨i, hi⟩ := List.getElem?_of_mem hc
  have hil := (List.getElem?_eq_some_iff.1 hi).1
  simp only [varB, wordB, Bool.and_eq_true, List.all_eq_true, List.mem_range] at h
  have h1 := h.2 i (by simpa using hil)
  have h2 : qb1 s i = 32 := by
    simp only [qb1, Int.toNat_natCast, List.getD_eq_getElem?_getD, hi]; rfl
  rw [h2] at h1
  exact absurd h1 (by decide)
theorem split_sp : ∀ (x y r s : List UInt8), (∀ c ∈ x, c ≠ 32) → (∀ c ∈ y, c ≠ 32) → x ++ 32 :: r = y ++ 32 :: s → x = y ∧ r = s
  | [], [], r, s, _, _, h => by simpa using h
  | [], b :: y, r, s, _, hy, h => by
    simp only [List.nil_append, List.cons_append, List.cons.injEq] at h
    exact absurd h.1.symm (hy b (by simp))
  | a :: x, [], r, s, hx, _, h => by
    simp only [List.nil_append, List.cons_append, List.cons.injEq] at h
    exact absurd h.1 (hx a (by simp))
  | a :: x, b :: y, r, s, hx, hy, h => by
    simp only [List.cons_append, List.cons.injEq] at h
    obtain ⟨h1, h2⟩ := split_sp x y r s (fun c hc => hx c (by simp [hc])) (fun c hc => hy c (by simp [hc])) h.2
    exact ⟨by rw [h.1, h1], h2⟩
def keyLs (l : List Bd) : List UInt8 := l.flatMap fun b => b.name.data.toList ++ 32 :: keyL 5 b.t
theorem keyB_data : ∀ (l : List Bd) (s : ByteArray), (l.foldl (fun s b => s ++ keyOne b) s).data.toList = s.data.toList ++ keyLs l
  | [], s => by simp [keyLs]
  | b :: l, s => by
    have h2 : (keyOne b).data.toList = b.name.data.toList ++ 32 :: keyL 5 b.t := by simp [keyOne]
    have h3 : (s ++ keyOne b).data.toList = s.data.toList ++ (keyOne b).data.toList := by simp
    rw [List.foldl_cons, keyB_data l, h3, h2]
    simp [keyLs]
def Gd1 (l : List Bd) : Prop := ∀ b ∈ l, varB b.name = true ∧ mayT b.t = true
theorem GG.gd {l : List Bd} (h : GG l) : Gd1 l := fun b hb => (h.gb.el b hb).2
theorem keyLs_inj : ∀ (l m : List Bd), Gd1 l → Gd1 m → keyLs l = keyLs m → l = m
  | [], [], _, _, _ => rfl
  | [], b :: m, _, _, h => by simp [keyLs] at h
  | b :: l, [], _, _, h => by simp [keyLs] at h
  | a :: l, b :: m, hl, hm, h => by
    obtain ⟨a1, a2⟩ := hl a (by simp)
    obtain ⟨b1, b2⟩ := hm b (by simp)
    have h1 : a.name.data.toList ++ 32 :: (keyL 5 a.t ++ keyLs l) = b.name.data.toList ++ 32 :: (keyL 5 b.t ++ keyLs m) := by
      simpa [keyLs] using h
    obtain ⟨h2, h3⟩ := split_sp _ _ _ _ (varB_nosp a1) (varB_nosp b1) h1
    obtain ⟨h4, h5⟩ := keyL_inj 5 a.t b.t (qao a2) (qao b2) (qby a2) (qby b2) _ _ h3
    have ih := keyLs_inj l m (fun c hc => hl c (by simp [hc])) (fun c hc => hm c (by simp [hc])) h5
    have hn := bext h2
    cases a; cases b; simp only at hn h4; rw [hn, h4, ih]
theorem keyB_inj {l m : List Bd} (hl : Gd1 l) (hm : Gd1 m) (h : keyB l = keyB m) : l = m := by
  refine keyLs_inj l m hl hm ?_
  have e1 := keyB_data l ⟨#[]⟩
  have e2 := keyB_data m ⟨#[]⟩
  have e3 : (keyB l).data.toList = (keyB m).data.toList := by rw [h]
  rw [keyB, keyB, e1, e2] at e3
  simpa using e3
theorem eqBds_eq : ∀ {l m : List Bd}, (∀ b ∈ l, dle 5 b.t) → eqBds l m = true → l = m
  | [], [], _, _ => rfl
  | [], _ :: _, _, h => by cases h
  | _ :: _, [], _, h => by cases h
  | a :: l, b :: m, hd, h => by
    simp only [eqBds, eqBd, Bool.and_eq_true, decide_eq_true_eq] at h
    have h1 := (eqT_iff 5 _ _ (hd a (by simp))).1 h.1.2
    have ih := eqBds_eq (fun c hc => hd c (by simp [hc])) h.2
    have h2 := h.1.1
    cases a; cases b; simp only at h1 h2; rw [h1, h2, ih]
open Classical in
noncomputable def addP (X : List (List Bd)) (b : List Bd) : List (List Bd) := if b ∈ X then X else X ++ [b]
theorem addP_mem (X : List (List Bd)) (b y : List Bd) : y ∈ addP X b ↔ y ∈ X ∨ y = b := by
  unfold addP
  split
  · rename_i h
    exact ⟨.inl, fun h2 => h2.elim id fun e => e ▸ h⟩
  · simp
theorem foldP_mem : ∀ (L X : List (List Bd)) (y : List Bd), y ∈ L.foldl addP X ↔ y ∈ X ∨ y ∈ L
  | [], X, y => by simp
  | a :: L, X, y => by
    rw [List.foldl_cons, foldP_mem L, addP_mem, List.mem_cons]
    exact or_assoc
theorem onceS_P {X : List (List Bd)} {y : List Bd} (hX : ∀ x ∈ X, Gd1 x) (hy : Gd1 y) : onceS X y = addP X y := by
  unfold onceS addP
  have e : ((X.map keyB).any (fun s => decide (s = keyB y)) = true) ↔ y ∈ X := by
    rw [List.any_eq_true]
    constructor
    · rintro ⟨s, hs, h⟩
      obtain ⟨x, hx, rfl⟩ := List.mem_map.1 hs
      rw [← keyB_inj (hX x hx) hy (of_decide_eq_true h)]; exact hx
    · intro h; exact ⟨keyB y, List.mem_map.2 ⟨y, h, rfl⟩, by simp⟩
  by_cases h : y ∈ X
  · rw [if_pos (e.2 h), if_pos h]
  · rw [if_neg (fun h2 => h (e.1 h2)), if_neg h]
theorem addB_P {X : List (List Bd)} {y : List Bd} (hX : ∀ x ∈ X, Gd1 x) : addB X y = addP X y := by
  unfold addB addP
  have e : amongB X y = true ↔ y ∈ X := by
    rw [amongB, List.any_eq_true]
    constructor
    · rintro ⟨x, hx, h⟩
      rw [← eqBds_eq (fun b hb => qao (hX x hx b hb).2) h]; exact hx
    · intro h; exact ⟨y, h, eqBds_self fun b hb => qao (hX y h b hb).2⟩
  by_cases h : y ∈ X
  · rw [if_pos (e.2 h), if_pos h]
  · rw [if_neg (fun h2 => h (e.1 h2)), if_neg h]
theorem fold_once : ∀ (L X : List (List Bd)), (∀ y ∈ L, Gd1 y) → (∀ y ∈ X, Gd1 y) → L.foldl onceS X = L.foldl addP X
  | [], X, _, _ => rfl
  | a :: L, X, hL, hX => by
    rw [List.foldl_cons, List.foldl_cons, onceS_P hX (hL a (by simp))]
    exact fold_once L _ (fun y hy => hL y (by simp [hy])) fun y hy => by
      rcases (addP_mem _ _ _).1 hy with h | rfl
      · exact hX y h
      · exact hL y (by simp)
theorem fold_add : ∀ (L X : List (List Bd)), (∀ y ∈ L, Gd1 y) → (∀ y ∈ X, Gd1 y) → L.foldl addB X = L.foldl addP X
  | [], X, _, _ => rfl
  | a :: L, X, hL, hX => by
    rw [List.foldl_cons, List.foldl_cons, addB_P hX]
    exact fold_add L _ (fun y hy => hL y (by simp [hy])) fun y hy => by
      rcases (addP_mem _ _ _).1 hy with h | rfl
      · exact hX y h
      · exact hL y (by simp)
theorem addP_in {X : List (List Bd)} {b : List Bd} (h : b ∈ X) : addP X b = X := by unfold addP; rw [if_pos h]
theorem fold_dedup (h : List Bd → List Bd) (q : List Bd → Bool) : ∀ (n : Nat) (L : List (List Bd)), L.length = n → ∀ acc : List (List Bd), (((L.foldl addP []).filter q).map h).foldl addP acc = ((L.filter q).map h).foldl addP acc
  | 0, L, hn, acc => by rw [List.eq_nil_of_length_eq_zero hn]; rfl
  | n + 1, L, hn, acc => by
    have hne : L ≠ [] := fun e => by rw [e] at hn; cases hn
    obtain ⟨M, a, rfl⟩ : ∃ M a, L = M ++ [a] := ⟨L.dropLast, L.getLast hne, (List.dropLast_concat_getLast hne).symm⟩
    have ih := fold_dedup h q n M (by simpa using hn) acc
    rw [foldl_snoc, List.filter_append, List.map_append, List.foldl_append]
    by_cases hm : a ∈ M
    · rw [addP_in ((foldP_mem M [] a).2 (.inr hm)), ih]
      cases hq : q a with
      | false => simp [hq]
      | true =>
        simp only [List.filter_cons, hq, if_true, List.filter_nil, List.map_cons, List.map_nil, List.foldl_cons, List.foldl_nil]
        refine (addP_in ((foldP_mem _ _ _).2 (.inr ?_))).symm
        exact List.mem_map.2 ⟨a, List.mem_filter.2 ⟨hm, hq⟩, rfl⟩
    · have e : addP (M.foldl addP []) a = M.foldl addP [] ++ [a] := by
        unfold addP
        rw [if_neg fun hx => by rcases (foldP_mem M [] a).1 hx with hx | hx; cases hx; exact hm hx]
      rw [e, List.filter_append, List.map_append, List.foldl_append, ih]
theorem fold_flat {f f' : List Bd → List (List Bd)} : ∀ (X acc : List (List Bd)), (∀ b ∈ X, ∀ acc, (f b).foldl addP acc = (f' b).foldl addP acc) → (X.flatMap f).foldl addP acc = (X.flatMap f').foldl addP acc
  | [], acc, _ => rfl
  | a :: X, acc, h => by
    rw [List.flatMap_cons, List.flatMap_cons, List.foldl_append, List.foldl_append, h a (by simp)]
    exact fold_flat X _ fun b hb => h b (by simp [hb])
theorem there_iff {k : List Tm} (hk : KG k) (t : Tm) : thereB k t = true ↔ t ∈ k := by
  rw [thereB, List.any_eq_true]
  constructor
  · rintro ⟨u, hu, h⟩
    rw [← (eqT_iff 5 u t (qao (hk u hu).2.1)).1 h]; exact hu
  · intro h; exact ⟨t, h, eqT_self (qao (hk t h).2.1)⟩
theorem ans_iff {k : List Tm} (hk : KG k) {t : Tm} (hw : t.wf) (hm : mayT t = true) (hg : Gr t) : 0 < (ansL k t).length ↔ t ∈ k := by
  constructor
  · intro h
    obtain ⟨y, hy⟩ := List.exists_mem_of_length_pos h
    obtain ⟨u, hu, rfl⟩ := List.mem_map.1 hy
    obtain ⟨hu1, hu2⟩ := List.mem_filter.1 hu
    obtain ⟨uw, um, ug, _⟩ := hk u hu1
    obtain ⟨_, f2⟩ := fit_spec 5 [] t u GG_nil (qby hm) hw um uw ug (of_decide_eq_true hu2)
    rw [hg.sub (qby hm)] at f2
    rw [f2]; exact hu1
  · intro h
    have : [] ∈ ansL k t := List.mem_map.2 ⟨t, List.mem_filter.2 ⟨h, by rw [fitsB, fitR_self 5 [] _ (qao hm) hg]; rfl⟩, by rw [fitR_self 5 [] _ (qao hm) hg]⟩
    exact List.length_pos_of_mem this
theorem pholds_cmp {l : List Bd} {g : Gd} (hk : 1 ≤ g.kind ∧ g.kind ≤ 4) : pholds l g = cmpdB l g := by
  unfold pholds cmpdB
  cases h1 : mayT (putT l g.l) with
  | false => simp
  | true =>
    cases h2 : mayT (putT l g.r) with
    | false => simp
    | true =>
      cases h3 : qbh (putT l g.l) with
      | false =>
        have := (guardE_one (kind := g.kind) (a := putT l g.l) (b := putT l g.r) (.inr (.inr (.inr (.inl h3))))).2
        simp [this]
      | true =>
        cases h4 : qbh (putT l g.r) with
        | false =>
          have := (guardE_one (kind := g.kind) (a := putT l g.l) (b := putT l g.r) (.inr (.inr (.inr (.inr h4))))).2
          simp [this]
        | true =>
          have := (guard_page g.kind _ _ hk h1 h2 h3 h4).2
          rw [this]
          have hp : pageC g.kind (putT l g.l) (putT l g.r) = true → pageOk g.kind (putT l g.l) (putT l g.r) = true := fun hc => by
            unfold pageC at hc
            rw [pageOk, decide_eq_true_eq]
            split at hc
            · rename_i e; exact .inl e
            · split at hc
              · rename_i e; exact .inr (.inl e)
              · split at hc
                · cases hc
                · rename_i e; exact .inr (.inr ⟨by omega, by omega⟩)
          cases hc : pageC g.kind (putT l g.l) (putT l g.r) with
          | false => simp
          | true => simp [hp hc]
theorem okG_kind {g : Gd} (h : okG g = true) : 1 ≤ g.kind ∧ g.kind ≤ 6 := by
  simp only [okG, cmpsB, Bool.or_eq_true, Bool.and_eq_true, decide_eq_true_eq] at h
  omega
theorem rg_beh {k : List Tm} (hk : KG k) {l : List Bd} (hl : GG l) {g : Gd} (hg : g.wf) (ho : okG g = true) (acc : List (List Bd)) : (behL k l g).foldl addP acc = (rgL k l g).foldl addP acc := by
  have hkd := okG_kind ho
  have tw := qcq hl.gb.bok hg.2.1
  have hk2 : ∀ t ∈ k, t.wf ∧ mayT t = true := fun t ht => ⟨(hk t ht).1, (hk t ht).2.1⟩
  unfold behL rgL
  by_cases h5 : g.kind = 5
  · have h4n : ¬ g.kind ≤ 4 := by omega
    have h6n : ¬ g.kind = 6 := by omega
    rw [if_pos h5, if_neg h4n]
    cases hm : mayT (putT l g.l) with
    | false => simp
    | true =>
      rw [if_pos rfl, if_neg h6n]
      cases hf : qda (putT l g.l) with
      | false => simp
      | true =>
        rw [if_pos (show (true && true) = true from rfl), if_pos rfl]
        have e : qbv k (putT l g.l) = (ansL k (putT l g.l)).foldl addP [] := by
          rw [qbv]
          refine fold_add _ _ (fun y hy => ?_) fun y hy => by cases hy
          obtain ⟨u, hu, rfl⟩ := List.mem_map.1 hy
          obtain ⟨hu1, hu2⟩ := List.mem_filter.1 hu
          obtain ⟨uw, um, ug, _⟩ := hk u hu1
          exact (fit_spec 5 [] (putT l g.l) u GG_nil (qby hm) tw um uw ug (of_decide_eq_true hu2)).1.gg.gd
        rw [e]
        exact (fold_dedup (fun y => qcf l y) (fun y => decide (qcc l y = 0)) _ _ rfl acc).symm
  · rw [if_neg h5]
    by_cases h6 : g.kind = 6
    · have h4n : ¬ g.kind ≤ 4 := by omega
      rw [if_pos h6, if_neg h4n]
      cases hm : mayT (putT l g.l) with
      | false => simp
      | true =>
        rw [if_pos (show (true : Bool) = true from rfl), if_pos h6]
        cases hgr : qbh (putT l g.l) with
        | false => simp
        | true =>
          have hg2 := (groundB_iff (qao hm)).1 hgr
          have e : (qda (putT l g.l) && decide (0 < (ansL k (putT l g.l)).length)) = thereB k (putT l g.l) := by
            rw [Bool.eq_iff_iff, there_iff hk, Bool.and_eq_true, decide_eq_true_eq, ans_iff hk tw hm hg2]
            exact ⟨fun h => h.2, fun h => ⟨(hk _ h).2.2.2, h⟩⟩
          rw [e]; simp
    · have h4 : g.kind ≤ 4 := by omega
      rw [if_neg h6, if_pos h4, pholds_cmp ⟨hkd.1, h4⟩]
theorem step_eq {k : List Tm} (hk : KG k) {X : List (List Bd)} (hX : ∀ x ∈ X, GG x) {g : Gd} (hg : g.wf) (ho : okG g = true) : allStep k X g = phStep k X g := by
  have h1 : ∀ y ∈ X.flatMap fun b => behL k b g, Gd1 y := fun y hy => by
    obtain ⟨b, hb, hy⟩ := List.mem_flatMap.1 hy
    exact (behL_sat hk (hX b hb) hg ho hy).1.gd
  have hf := fold_flat X [] (f := fun b => behL k b g) (f' := fun b => rgL k b g) fun b hb acc => rg_beh hk (hX b hb) hg ho acc
  have h2 : ∀ y ∈ X.flatMap fun b => rgL k b g, Gd1 y := fun y hy => by
    have : y ∈ (X.flatMap fun b => rgL k b g).foldl addP [] := (foldP_mem _ _ _).2 (.inr hy)
    rw [← hf] at this
    rcases (foldP_mem _ _ _).1 this with h | h
    · cases h
    · exact h1 y h
  rw [allStep, phStep, onceL, fold_once _ _ h1 (fun y hy => by cases hy), hf, fold_add _ _ h2 (fun y hy => by cases hy)]
theorem allX_eq {k : List Tm} (hk : KG k) : ∀ (gs : List Gd) (X : List (List Bd)), (∀ g ∈ gs, g.wf ∧ okG g = true) → (∀ x ∈ X, GG x) → gs.foldl (allStep k) X = gs.foldl (phStep k) X
  | [], X, _, _ => rfl
  | g :: gs, X, hg, hX => by
    have hg0 := hg g (by simp)
    have hn : ∀ x ∈ allStep k X g, GG x := fun x hx => (all_sat hk [g] [] X (fun g' h' => by rw [List.mem_singleton.1 h']; exact hg0) (fun g' h' => by cases h') (fun x hx => ⟨hX x hx, fun g' h' => by cases h'⟩) x hx).1
    rw [List.foldl_cons, List.foldl_cons, ← step_eq hk hX hg0.1 hg0.2]
    exact allX_eq hk gs _ (fun g' h' => hg g' (by simp [h'])) hn
theorem hold_page {k : List Tm} (hkw : Tm.wfs k) {l : List Bd} (hw : ∀ b ∈ l, b.wf) {gs : List Gd} (hg : ∀ g ∈ gs, g.wf) (h1 : qbq k = true) (h2 : mayB l = true) (h3 : fixB l = true) (h4 : okGs gs = true) :
    holdE k l gs = (if phO k l gs = true then 0 else 2) ∧ holdL k l gs = phL k l gs := by
  have hgb := (mayB_iff hw).1 h2
  have h5 : groundL l = true := by rw [ground_fix fun b hb => (hgb.el b hb).2.2]; exact h3
  have hc : holdC k l gs = true := by simp [holdC, h1, h2, h4, h5]
  have hk := KG_of hkw h1
  have hgg : GG l := ⟨hgb, (groundL_iff fun b hb => (hgb.el b hb).2.2).1 h5⟩
  have hgo := h4
  simp only [okGs, Bool.and_eq_true, decide_eq_true_eq, List.all_eq_true] at hgo
  have he : ∀ i, allX k l (gs.take i) = phX k l (gs.take i) := fun i => allX_eq hk _ [l] (fun g hgm => ⟨hg g (List.mem_of_mem_take hgm), hgo.2 g (List.mem_of_mem_take hgm)⟩) fun x hx => by rw [List.mem_singleton.1 hx]; exact hgg
  have he2 : allX k l gs = phX k l gs := by have := he gs.length; rwa [List.take_length] at this
  have ho : allOk k l gs = phO k l gs := by simp only [allOk, phO, he]
  rw [holdE, holdL, if_pos hc, if_pos hc, allE, allL, phL, ho, he2]
  exact ⟨rfl, rfl⟩
theorem hold_no {k : List Tm} {l : List Bd} (hw : ∀ b ∈ l, b.wf) {gs : List Gd} (h : ¬ (qbq k = true ∧ mayB l = true ∧ fixB l = true ∧ okGs gs = true)) : holdE k l gs = 1 ∧ holdL k l gs = [] := by
  have hc : holdC k l gs = false := by
    cases hc : holdC k l gs with
    | false => rfl
    | true =>
      simp only [holdC, Bool.and_eq_true] at hc
      have hgb := (mayB_iff hw).1 hc.1.1.2
      exact absurd ⟨hc.1.1.1, hc.1.1.2, by rw [← ground_fix fun b hb => (hgb.el b hb).2.2]; exact hc.1.2, hc.2⟩ h
  rw [holdE, holdL, if_neg (by simp [hc]), if_neg (by simp [hc])]
  exact ⟨rfl, rfl⟩
end Go.Proofs.YtdecgkhdbfgldaaGreat

set_option linter.unusedVariables false
set_option linter.unusedSimpArgs false
set_option maxRecDepth 8000
namespace Go.Proofs.YtdecgkhdbfgldaaGreat
open Go
section
variable {c : Ctx} {N : Nat}
theorem sub_rowle {T : List (Nat × AV)} {O : List (Nat × Ob)} {l k : Nat} {e : TypeId} {cs cs' : List AV} (hl : ok O l = some (.row e k cs)) (h : LeL cs cs') : Sub c N ⟨T, O⟩ ⟨T, (l, .row e k cs') :: O⟩ := by
  rintro a w ⟨ρ, S, hc⟩
  refine ⟨ρ, S, hc.modOb hl trivial (Far.refl _ _) ?_⟩
  obtain ⟨n, xs, h1, h2, h3⟩ := hc.O l _ hl
  exact ⟨n, xs, h1, h2, (h.rep h3).mono (fun _ _ h => h) (fun _ _ _ => rfl) U_cons (fun _ _ => rfl)⟩
end
theorem heavy12_no {p : Ask12} (hp : p.wf) (h : heavy12 p = false) : p.B.length ≤ 1500 ∧ p.G.length ≤ 1500 ∧ (∀ b ∈ p.B, wBs b ≤ 1500) ∧ wGs p.G ≤ 1500 ∧ heavy11 p.K = false := by
  obtain ⟨K, l, G⟩ := p
  obtain ⟨hpK, ⟨hl, hwB⟩, hlG, hwG⟩ := hp
  have hrG := wGs_range G hlG hwG
  have hB : ∀ u, u ∈ l → 0 ≤ wBs u := fun u hu => by
    have := wBs_range u (hwB u hu).1 (hwB u hu).2; omega
  simp only [heavy12, Bool.or_eq_false_iff, decide_eq_false_iff_not] at h
  have h1 : wgtL wBs (wGs G + l.length) l ≤ 1500 := by omega
  obtain ⟨h2, h3⟩ := wgtL_mem wBs 1500 (by omega) _ l hB (by omega) h1
  have hG : (G.length : Int) ≤ wGs G := qcR _ _ G (fun u hu => (wG_range u (hwG u hu)).1)
  exact ⟨by simp only; omega, by simp only; omega, h3, by simp only; omega, h.2⟩
end Go.Proofs.YtdecgkhdbfgldaaGreat

set_option linter.unusedVariables false
set_option linter.unusedSimpArgs false
set_option maxRecDepth 8000
namespace Go.Proofs.YtdecgkhdbfgldaaGreat
open Go
theorem shBdls : ∀ (X : List (List Bd)) (es' : List (List D)), ShEs (qaM X) es' → ∃ X', es' = qaM X' ∧ X'.length = X.length ∧ ∀ d, (∀ y ∈ X, y.length ≤ 16 ∧ ∀ b ∈ y, dlb d b.t) → ∀ y ∈ X', y.length ≤ 16 ∧ ∀ b ∈ y, dlb d b.t
  | [], es', h => by simp only [qaM, List.map_nil, ShEs] at h; subst h; exact ⟨[], rfl, rfl, fun d _ u hu => by cases hu⟩
  | b :: l, es', h => by
    simp only [qaM, List.map_cons, ShEs, ShCs, ShD] at h
    obtain ⟨e', es'', rfl, ⟨_, _, rfl, ⟨v, rfl, h0⟩, rfl⟩, h2⟩ := h
    obtain ⟨b', rfl, h3, h4⟩ : ∃ b', v = bdDs b' ∧ b'.length ≤ b.length ∧ ∀ d, (∀ c ∈ b, dlb d c.t) → ∀ c ∈ b', dlb d c.t := by
      rcases h0 with rfl | h0
      · exact ⟨[], rfl, Nat.zero_le _, fun d _ c hc => by cases hc⟩
      · obtain ⟨b', h1, h3, h4⟩ := shBds b v h0
        exact ⟨b', h1, by omega, h4⟩
    obtain ⟨l', rfl, h5, h6⟩ := shBdls l es'' h2
    refine ⟨b' :: l', rfl, by simp [h5], fun d hd u hu => ?_⟩
    rcases List.mem_cons.1 hu with rfl | hu
    · have := hd b (by simp)
      exact ⟨by omega, h4 d this.2⟩
    · exact h6 d (fun u hu => hd u (by simp [hu])) u hu
theorem wGs_dle {G : List Gd} (hw : ∀ g ∈ G, g.wf) (h : wGs G ≤ 1048575) : ∀ g ∈ G, dle 30 g.l ∧ dle 30 g.r := fun g hg => by
  have h1 := (wgtL_mem wG 1048575 (by omega) _ G (fun u hu => (wG_range u (hw u hu)).1) (by omega) h).2 g hg
  have hw2 := hw g hg
  have r1 := (qcS g.l hw2.2.1).1
  have r2 := (qcS g.r hw2.2.2).1
  have e : wG g = wT g.l + wT g.r := rfl
  exact ⟨wgt_dle 30 g.l (show wT g.l ≤ 1048575 by omega), wgt_dle 30 g.r (show wT g.r ≤ 1048575 by omega)⟩
theorem hold_all {k : List Tm} (hkw : Tm.wfs k) {l : List Bd} (hw : ∀ b ∈ l, b.wf) {gs : List Gd} (hg : ∀ g ∈ gs, g.wf) : (holdL k l gs).length ≤ 1000 ∧ ∀ y ∈ holdL k l gs, BOk y ∧ y.length ≤ 16 := by
  unfold holdL
  split
  · rename_i hc
    refine ⟨allL_len k l gs, fun y hy => ?_⟩
    simp only [holdC, Bool.and_eq_true] at hc
    have hk := (atoms_of hkw hc.1.1.1).2
    have hok := mayB_bok hc.1.1.2 hw
    have hl16 := mayB_len hc.1.1.2
    unfold allL at hy
    split at hy
    · exact allX_all hk hok hl16 gs [l] hg (fun y hy => by rw [List.mem_singleton.1 hy]; exact ⟨hok, hl16⟩) y hy
    · cases hy
  · exact ⟨by simp, fun y hy => by cases hy⟩
theorem GuardHolds_heavy (p : Ask12) (hp : p.wf) (hv : heavy12 p = true) : PF 113 [.agg (lift false (a12D p))] (bv true) := by
  have key := Heavy12_ok p hp
  rw [hv] at key
  refine qG Tryz.func113 rfl Tryz.ntmps113 (Nat.le_of_ble_eq_true rfl) fun c hL hQ hDD => (qd (qb (qz rfl rfl (by decide) (qab 1 rfl rfl rfl) rfl (zN rfl rfl rfl (qc (qa (qd ?_))))))); refine qd (qb (zA rfl (qw rfl qaH rfl rfl rfl rfl) ?_))
  refine qC (avs := [_]) true rfl rfl rfl (by decide) en_almagestlaw12_Heavy rfl rfl (key) rfl rfl (zM rfl rfl rfl (qA 16 rfl (fun g16 => ?_) (fun g16 => ?_)))
  · try simp only [↓cqA, cqB] at g16
    refine zS rfl rfl rfl rfl (zS rfl rfl rfl rfl (zS rfl rfl rfl rfl (zS rfl rfl rfl rfl (zS rfl rfl rfl rfl (zS rfl rfl rfl rfl ?_)))))
    refine qaG rfl rfl rfl (by decide) rfl (by decide) (qaG rfl rfl rfl (by decide) rfl (by decide) (qaG rfl rfl rfl (by decide) rfl (by decide) (qaG rfl rfl rfl (by decide) rfl (by decide) (zS rfl rfl rfl rfl (zA rfl (qj rfl rfl rfl) (qc ?_))))))
    refine qa (qaj rfl (qd (qb (zN rfl rfl rfl (qc (qa (qm ?_))))))); refine ql (?_)
    -- leaf g16T
    refine ret0 (noL hL) (.inl rfl) (qf rfl (qh)) ?_ ?_
    · rfl
    exact ⟨rfl, rfl⟩
  try simp only [↓cqA, cqB] at g16
  exact absurd g16 (by simp)
theorem GuardHolds_light (p : Ask12) (hp : p.wf) (hv : heavy12 p = false) : PF 113 [.agg (lift false (a12D p))] (bv true) := by
  have key := Heavy12_ok p hp
  rw [hv] at key
  obtain ⟨hv1, hv2, hv3, hv4, _⟩ := heavy12_no hp hv
  obtain ⟨⟨C, K, T⟩, l, G⟩ := p
  obtain ⟨⟨_, ⟨hlK, hwK⟩, _⟩, ⟨hl, hwB⟩, hlG, hwG⟩ := hp
  simp only at hv1 hv2 hv3 hv4 hlK hwK hl hwB hlG hwG
  have hgd := wGs_dle hwG (by omega)
  have hlen := qaJ l
  have hlen2 := qaJ ([] :: l)
  have hlen3 : ([] :: l : List (List Bd)).length = l.length + 1 := rfl
  have hwL : ∀ bs ∈ ([] :: l : List (List Bd)), bs.length ≤ 3000 ∧ (∀ b ∈ bs, b.wf) ∧ ∀ b ∈ bs, dle 30 b.t := fun bs hb => by
    rcases List.mem_cons.1 hb with rfl | hb
    · exact ⟨Nat.zero_le _, fun b hb => (by cases hb), fun b hb => (by cases hb)⟩
    · have h1 := hwB bs hb
      have h2 := hv3 bs hb
      have h3 : (bs.length : Int) ≤ wBs bs := qcR _ _ bs (fun u hu => wB_range u (h1.2 u hu) |>.1)
      exact ⟨by omega, h1.2, wBs_dle h1.2 (by omega)⟩
  refine qG Tryz.func113 rfl Tryz.ntmps113 (Nat.le_of_ble_eq_true rfl) fun c hL hQ hDD => (qd (qb (qz rfl rfl (by decide) (qab 1 rfl rfl rfl) rfl (zN rfl rfl rfl (qc (qa (awp_cut ⟨[(1, .ptr 1 0)], [(1, .box (lift false (a12D ⟨⟨C, K, T⟩, l, G⟩)))]⟩ ?_ ?_)))))))
  · skip
    refine qd (qb (zA rfl (qw rfl qaH rfl rfl rfl rfl) (qC (avs := [_]) true rfl rfl rfl (by decide) en_almagestlaw12_Heavy rfl rfl (key) rfl rfl (zM rfl rfl rfl (qA 16 rfl (fun g16 => ?_) (fun g16 => ?_))))))
    · try simp only [↓cqA, cqB] at g16
      exact absurd g16 (by simp)
    try simp only [↓cqA, cqB] at g16
    refine zG rfl rfl rfl rfl (qg rfl qbe rfl) (zG rfl rfl rfl rfl (qg rfl qbo rfl) (zG rfl rfl rfl rfl (qr rfl qF rfl rfl rfl rfl rfl) (zG rfl rfl rfl rfl (qy rfl qv rfl) ?_)))
    refine zG rfl rfl rfl rfl (qn rfl rfl rfl rfl) (zG rfl rfl rfl rfl (qk (.inl rfl) rfl) (qA 22 rfl (fun g22 => ?_) (fun g22 => ?_)))
    · try simp only [↓cqA, cqB] at g22
      refine zG rfl rfl rfl rfl (qg rfl qaq rfl) (zG rfl rfl rfl rfl (qr rfl qaR rfl rfl rfl rfl rfl) (zG rfl rfl rfl rfl (qy rfl qac rfl) ?_))
      refine zG rfl rfl rfl rfl (qn rfl rfl rfl rfl) (zG rfl rfl rfl rfl (qj rfl rfl rfl) (zA rfl (qj rfl rfl rfl) (qc (qa (qu rfl (fun c0 => ?_) (fun c0 => ?_))))))
      · try simp only [↓cqA, cqB] at c0
        refine qd (qb (zN rfl rfl rfl (qc (qa (qm (ql (?_)))))))
        -- leaf g16Fg22T0T
        refine ret0 (noL hL) (.inl rfl) (qf rfl (qh)) ?_ ?_
        · rfl
        first
        | exact ⟨rfl, rfl⟩
        | exact Bool.noConfusion (show true = false by assumption)
        | exact absurd trivial (by assumption)
        | exact absurd rfl (by assumption)
        | trace_state
      try simp only [↓cqA, cqB] at c0
      refine qt ?_
      exact qcJ (qI (SubT.cons (zT rfl) (SubT.nil)) (SubO.cons (qag rfl (by rfl)) (SubO.nil)) rfl rfl (noL' (noL hL) _))
    try simp only [↓cqA, cqB] at g22
    refine zS rfl rfl rfl rfl (zS rfl rfl rfl rfl (zS rfl rfl rfl rfl (zS rfl rfl rfl rfl (zG rfl rfl rfl rfl (qj rfl rfl rfl) (zA rfl (qj rfl rfl rfl) (qc (qa ?_))))))); refine qas rfl (qt ?_)
    exact qcJ (qI (SubT.cons (zT rfl) (SubT.nil)) (SubO.cons (qag rfl (by rfl)) (SubO.nil)) rfl rfl (noL' (noL hL) _))
  refine qd (qb (qz rfl rfl (by decide) (qS 29 rfl qH qa4 rfl rfl (by decide) (by decide) (by decide) rfl rfl rfl) rfl (qar (sub_rowle (l := 29) (cs' := [.dat false 5 []]) rfl (.cons .nil .nil)) (qbA 29 false 1 rfl rfl rfl rfl (zA rfl (qg rfl qbM rfl) (zA rfl (qr rfl qc3 rfl rfl rfl rfl rfl) ?_))))))
  refine qbt rfl rfl (by decide) (qb2 32 qbw rfl rfl rfl rfl rfl (noL hL _) (bdlDs_k _) (by simp only [a12D, chunk, List.length_singleton]; omega) rfl) rfl ?_; refine qar (qam (l := 32) rfl (by decide) (noL hL _) rfl rfl) ?_; refine zN rfl rfl rfl ?_; refine qc ?_; refine qa ?_; refine qd ?_; refine qd ?_; refine qb ?_; refine zN rfl rfl rfl ?_; refine qc ?_; refine qa ?_; refine qB ?_
  refine qV (5) (fun _ => True) (fun k => ⟨[(1, .ptr 1 0), (3, .dat false 1 (qaM ([] :: l))), (4, iv (k : Int))], [(1, .box (lift false (a12D ⟨⟨C, K, T⟩, l, G⟩)))]⟩) (trivial) ?_ (fun k hk hp => ?_)
  · exact qI (SubT.cons (zT rfl) (SubT.cons (zT rfl) (SubT.cons (zT rfl) (SubT.nil)))) (SubO.cons (qag rfl (by rfl)) (SubO.nil)) rfl rfl (noL' (noL hL) _)
  refine qd (qd (qb (zM rfl rfl rfl (zM rfl rfl rfl (zA rfl (qy rfl qH rfl) (zA rfl (qn rfl rfl rfl rfl) (zM rfl rfl rfl ?_))))))); refine qA 37 rfl (fun g37 => ?_) (fun g37 => ?_)
  · try simp only [↓cqA, cqB] at g37
    refine zG rfl rfl rfl rfl (qk (.inl rfl) rfl) (zG rfl rfl rfl rfl (qn rfl rfl rfl rfl) (zA rfl (qj rfl rfl rfl) (qc (qa (qu rfl (fun c1 => ?_) (fun c1 => ?_))))))
    · try simp only [↓cqA, cqB] at c1
      obtain ⟨bs, hbs⟩ := qK (l := ([] :: l : List (List Bd))) (k := k) (by omega)
      obtain ⟨hbl, hbw, hb30⟩ := hwL bs (List.mem_of_getElem? hbs)
      obtain ⟨hxl, hxa⟩ := hold_all hwK hbw hwG
      refine qt (qa (qd (qB (qd (q8 7 qbd rfl rfl rfl rfl (qe rfl (by decide) (.run rfl (qk (.inl rfl) rfl)) (qe rfl (by decide) (.run rfl (qk (.inl rfl) rfl)) ?_))))))); refine qe rfl (by decide) (.run rfl (qo rfl qH rfl rfl (by omega) (qbp hbs))) (qe rfl (by decide) (.run rfl (qR rfl qap rfl)) ?_)
      refine MGo_u rfl rfl (by decide) (qbC (avs := [_]) true rfl qaP rfl rfl (AC_rnE 3 77 (qcA 30 bs (by omega) hb30 hbw)) (fun _ => rfl) rfl) (qe rfl (by decide) (.run rfl (qg rfl qaq rfl)) (qe rfl (by decide) (.run rfl (qr rfl qaR rfl rfl rfl rfl rfl)) ?_))
      refine qau ⟨rfl, rfl, ?_⟩; refine qbt rfl rfl (by decide) (qbC (avs := [_]) true rfl en_almagestref0_CopyGuards rfl rfl (AC_rnE 3 78 (CopyGuards_ok 30 G (by omega) hgd hwG)) (fun _ => rfl) rfl) rfl (zN rfl rfl rfl (zN rfl rfl rfl (qc (qa ?_))))
      refine qd (qbb (qam (l := 77) rfl (by decide) (noL hL _) rfl rfl) (qbb (qam (l := 78) rfl (by decide) (noL hL _) rfl rfl) (qbb (qcK hQ) (qb (zA rfl (qg rfl qbe rfl) (zA rfl (qg rfl qbo rfl) (zA rfl (qr rfl qF rfl rfl rfl rfl rfl) ?_)))))))
      refine zM rfl rfl rfl (zM rfl rfl rfl (qC (avs := [_, _, _]) true rfl rfl rfl (by decide) en_guard_Holds rfl rfl (HoldsT_ok K hlK hwK bs hbw G hlG hwG) rfl rfl (zM rfl rfl rfl ?_)))
      refine zA rfl (qY rfl rfl rfl) (zA rfl (qY rfl rfl rfl) (zN rfl rfl rfl (zN rfl rfl rfl (qc (qa (qd (qb ?_)))))))
      refine zN rfl rfl rfl (qc (qa (qd (qb (zN rfl rfl rfl (qc (qa ?_))))))); refine awp_cut ⟨[(1, .ptr 1 0), (3, .dat false 1 (qaM ([] :: l))), (4, iv (k : Int)), (5, bdA bs), (6, .dat false 9 (gdDs G)), (7, .dat true 1 (qaM (holdL K bs G))), (8, iv (holdE K bs G)), (9, iv (holdE K bs G)), (10, .dat false 1 (qaM (holdL K bs G)))], [(1, .box (lift false (a12D ⟨⟨C, K, T⟩, l, G⟩)))]⟩ ?_ ?_
      · skip
        refine qd (qbb (sub_nil_dat (t := 10) 1 false rfl) (qb (zA rfl (qg rfl qbe rfl) (zA rfl (qg rfl qbo rfl) (zA rfl (qr rfl qF rfl rfl rfl rfl rfl) ?_)))))
        refine qC (avs := [_]) true rfl rfl rfl (by decide) en_almagestref10_Atoms rfl rfl (rAtoms_ok K hlK hwK) rfl rfl (zM rfl rfl rfl (qA 64 rfl (fun g64 => ?_) (fun g64 => ?_)))
        · try simp only [↓cqA, cqB] at g64
          refine zG rfl rfl rfl rfl (qk (.inl rfl) rfl) (zG rfl rfl rfl rfl (qk (.inl rfl) rfl) (zG rfl rfl rfl rfl (qo rfl qH rfl rfl (by omega) (qbp hbs)) (zG rfl rfl rfl rfl (qR rfl qap rfl) ?_)))
          refine zG rfl rfl rfl rfl (qN (avs := [_]) true rfl en_almagestref1_Binds rfl rfl (rBinds_ok bs (by omega) hbw) (fun _ => rfl) rfl) (zA rfl (qj rfl rfl rfl) (zM rfl rfl rfl (qA 71 rfl (fun g71 => ?_) (fun g71 => ?_))))
          · try simp only [↓cqA, cqB] at g71
            refine zG rfl rfl rfl rfl (qk (.inl rfl) rfl) (zG rfl rfl rfl rfl (qk (.inl rfl) rfl) (zG rfl rfl rfl rfl (qo rfl qH rfl rfl (by omega) (qbp hbs)) (zG rfl rfl rfl rfl (qR rfl qap rfl) ?_)))
            refine zG rfl rfl rfl rfl (qN (avs := [_]) true rfl en_almagestref1_Fixed rfl rfl (rFixed_ok bs (by omega) hbw (fun b hb => ((mayB_bok (by assumption) hbw).el b hb).2)) (fun _ => rfl) rfl) (zA rfl (qj rfl rfl rfl) (zM rfl rfl rfl (qA 78 rfl (fun g78 => ?_) (fun g78 => ?_))))
            · try simp only [↓cqA, cqB] at g78
              refine zG rfl rfl rfl rfl (qg rfl qaq rfl) (zG rfl rfl rfl rfl (qr rfl qaR rfl rfl rfl rfl rfl) (zG rfl rfl rfl rfl (qN (avs := [_, _]) true rfl en_almagestref4_Guards rfl rfl (rGuards_ok G hlG hwG (fun g hg => (hgd g hg).2)) (fun _ => rfl) rfl) (zA rfl (qj rfl rfl rfl) (qc (qa (qu rfl (fun c2 => ?_) (fun c2 => ?_)))))))
              · try simp only [↓cqA, cqB] at c2
                obtain ⟨hE, hL1⟩ := hold_page hwK hbw hwG g64 g71 g78 c2
                have hk1 := (atoms_of hwK g64).1
                have hKG := KG_of hwK g64
                have hbo := mayB_bok g71 hbw
                have hl16 := mayB_len g71
                have hgo := c2
                simp only [okGs, Bool.and_eq_true, decide_eq_true_eq, List.all_eq_true] at hgo
                refine qd (qb (zN rfl rfl rfl (qc (qa (qd (q8 14 qbd rfl rfl rfl rfl (qe rfl (by decide) (.run rfl (qg rfl qbe rfl)) ?_))))))); refine qe rfl (by decide) (.run rfl (qg rfl qbo rfl)) (qe rfl (by decide) (.run rfl (qr rfl qF rfl rfl rfl rfl rfl)) ?_)
                refine qe rfl (by decide) (.run rfl (qk (.inl rfl) rfl)) (qe rfl (by decide) (.run rfl (qk (.inl rfl) rfl)) (qe rfl (by decide) (.run rfl (qo rfl qH rfl rfl (by omega) (qbp hbs))) (qe rfl (by decide) (.run rfl (qR rfl qap rfl)) (qe rfl (by decide) (.run rfl (qg rfl qaq rfl)) (qe rfl (by decide) (.run rfl (qr rfl qaR rfl rfl rfl rfl rfl)) ?_)))))
                refine qe rfl (by decide) (.run rfl (qN (avs := [_, _, _]) false rfl en_almagestref10_Holds rfl rfl (rHolds_ok K hk1 hKG bs hbo hl16 G (fun g hg => ⟨hwG g hg, hgo.2 g hg⟩) hgo.1) (fun _ => rfl) rfl)) (qe rfl (by decide) (.run rfl (qk (.inl rfl) rfl)) (qe rfl (by decide) (.run rfl (qY rfl rfl rfl)) ?_))
                refine qe rfl (by decide) (.run rfl (qY rfl rfl rfl)) (qe rfl (by decide) (.run rfl (qk (.inr rfl) rfl)) (qau ⟨rfl, rfl, ?_⟩)); refine zN rfl rfl rfl (qc (qa (qd (qb (zM rfl rfl rfl (qc (qa ?_))))))); refine qu rfl (fun c3 => ?_) (fun c3 => ?_)
                · try simp only [↓cqA, cqB] at c3
                  have hE0 : holdE K bs G = 0 := by rw [hE, if_pos c3]
                  have hL0 : holdL K bs G = phL K bs G := hL1
                  refine qb (zM rfl rfl rfl (zN rfl rfl rfl (zN rfl rfl rfl (qc ?_))))
                  exact qcJ (qI (SubT.cons (zT rfl) (SubT.cons (zT rfl) (SubT.cons (zT rfl) (SubT.cons (zT rfl) (SubT.cons (zT rfl) (SubT.cons (zT rfl) (SubT.cons (zT rfl) (SubT.cons (qbg rfl (by first | rfl | (rw [hE0]; try rfl))) (SubT.cons (qbg rfl (by first | rfl | (rw [hL0]; try rfl))) (SubT.nil)))))))))) (SubO.cons (qag rfl (by rfl)) (SubO.nil)) rfl rfl (noL' (noL hL) _))
                try simp only [↓cqA, cqB] at c3
                have hE0 : holdE K bs G = 2 := by rw [hE, if_neg (by simp [c3])]
                have hL0 : holdL K bs G = [] := by rw [hL1, phL, if_neg (by simp [c3])]
                refine qt ?_
                exact qcJ (qI (SubT.cons (zT rfl) (SubT.cons (zT rfl) (SubT.cons (zT rfl) (SubT.cons (zT rfl) (SubT.cons (zT rfl) (SubT.cons (zT rfl) (SubT.cons (zT rfl) (SubT.cons (qbg rfl (by first | rfl | (rw [hE0]; try rfl))) (SubT.cons (qbg rfl (by first | rfl | (rw [hL0]; try rfl))) (SubT.nil)))))))))) (SubO.cons (qag rfl (by rfl)) (SubO.nil)) rfl rfl (noL' (noL hL) _))
              try simp only [↓cqA, cqB] at c2
              obtain ⟨hE0, hL0⟩ := hold_no (k := K) (gs := G) hbw (fun h => by rw [h.2.2.2] at c2; cases c2)
              refine qt ?_
              exact qcJ (qI (SubT.cons (zT rfl) (SubT.cons (zT rfl) (SubT.cons (zT rfl) (SubT.cons (zT rfl) (SubT.cons (zT rfl) (SubT.cons (zT rfl) (SubT.cons (zT rfl) (SubT.cons (qbg rfl (by first | rfl | (rw [hE0]; try rfl))) (SubT.cons (qbg rfl (by first | rfl | (rw [hL0]; try rfl))) (SubT.nil)))))))))) (SubO.cons (qag rfl (by rfl)) (SubO.nil)) rfl rfl (noL' (noL hL) _))
            try simp only [↓cqA, cqB] at g78
            obtain ⟨hE0, hL0⟩ := hold_no (k := K) (gs := G) hbw (fun h => by rw [h.2.2.1] at g78; cases g78)
            refine zS rfl rfl rfl rfl (zS rfl rfl rfl rfl (zS rfl rfl rfl rfl (zA rfl (qj rfl rfl rfl) (qc (qa (qas rfl (qt ?_)))))))
            exact qcJ (qI (SubT.cons (zT rfl) (SubT.cons (zT rfl) (SubT.cons (zT rfl) (SubT.cons (zT rfl) (SubT.cons (zT rfl) (SubT.cons (zT rfl) (SubT.cons (zT rfl) (SubT.cons (qbg rfl (by first | rfl | (rw [hE0]; try rfl))) (SubT.cons (qbg rfl (by first | rfl | (rw [hL0]; try rfl))) (SubT.nil)))))))))) (SubO.cons (qag rfl (by rfl)) (SubO.nil)) rfl rfl (noL' (noL hL) _))
          try simp only [↓cqA, cqB] at g71
          obtain ⟨hE0, hL0⟩ := hold_no (k := K) (gs := G) hbw (fun h => by rw [h.2.1] at g71; cases g71)
          refine zS rfl rfl rfl rfl (zS rfl rfl rfl rfl (zS rfl rfl rfl rfl (zS rfl rfl rfl rfl (zS rfl rfl rfl rfl (zA rfl (qj rfl rfl rfl) ?_)))))
          refine zM rfl rfl rfl (zS rfl rfl rfl rfl (zS rfl rfl rfl rfl (zS rfl rfl rfl rfl (zA rfl (qj rfl rfl rfl) (qc (qa (qas rfl ?_))))))); refine qt ?_
          exact qcJ (qI (SubT.cons (zT rfl) (SubT.cons (zT rfl) (SubT.cons (zT rfl) (SubT.cons (zT rfl) (SubT.cons (zT rfl) (SubT.cons (zT rfl) (SubT.cons (zT rfl) (SubT.cons (qbg rfl (by first | rfl | (rw [hE0]; try rfl))) (SubT.cons (qbg rfl (by first | rfl | (rw [hL0]; try rfl))) (SubT.nil)))))))))) (SubO.cons (qag rfl (by rfl)) (SubO.nil)) rfl rfl (noL' (noL hL) _))
        try simp only [↓cqA, cqB] at g64
        obtain ⟨hE0, hL0⟩ := hold_no (k := K) (gs := G) hbw (fun h => by rw [h.1] at g64; cases g64)
        refine zS rfl rfl rfl rfl (zS rfl rfl rfl rfl (zS rfl rfl rfl rfl (zS rfl rfl rfl rfl (zS rfl rfl rfl rfl (zA rfl (qj rfl rfl rfl) ?_)))))
        refine zM rfl rfl rfl (zS rfl rfl rfl rfl (zS rfl rfl rfl rfl (zS rfl rfl rfl rfl (zS rfl rfl rfl rfl (zS rfl rfl rfl rfl ?_)))))
        refine zA rfl (qj rfl rfl rfl) (zM rfl rfl rfl (zS rfl rfl rfl rfl (zS rfl rfl rfl rfl (zS rfl rfl rfl rfl (zA rfl (qj rfl rfl rfl) (qc (qa ?_))))))); refine qas rfl (qt ?_)
        exact qcJ (qI (SubT.cons (zT rfl) (SubT.cons (zT rfl) (SubT.cons (zT rfl) (SubT.cons (zT rfl) (SubT.cons (zT rfl) (SubT.cons (zT rfl) (SubT.cons (zT rfl) (SubT.cons (qbg rfl (by first | rfl | (rw [hE0]; try rfl))) (SubT.cons (qbg rfl (by first | rfl | (rw [hL0]; try rfl))) (SubT.nil)))))))))) (SubO.cons (qag rfl (by rfl)) (SubO.nil)) rfl rfl (noL' (noL hL) _))
      refine qd (qd (qb (zM rfl rfl rfl (qC (avs := [_]) true rfl rfl rfl (by decide) en_almagestlaw12_num rfl rfl (num12_ok _) rfl rfl (zM rfl rfl rfl (zA rfl (qn rfl rfl rfl rfl) (zM rfl rfl rfl ?_))))))); refine qA 102 rfl (fun g102 => ?_) (fun g102 => ?_)
      · try simp only [↓cqA, cqB] at g102
        refine zS rfl rfl rfl rfl (zS rfl rfl rfl rfl (zS rfl rfl rfl rfl (zS rfl rfl rfl rfl (zA rfl (qj rfl rfl rfl) (zM rfl rfl rfl ?_)))))
        refine zS rfl rfl rfl rfl (zS rfl rfl rfl rfl (zS rfl rfl rfl rfl (zS rfl rfl rfl rfl (zS rfl rfl rfl rfl (zS rfl rfl rfl rfl ?_)))))
        refine zS rfl rfl rfl rfl (zA rfl (qj rfl rfl rfl) (zM rfl rfl rfl (zS rfl rfl rfl rfl (zS rfl rfl rfl rfl (zS rfl rfl rfl rfl ?_)))))
        refine zS rfl rfl rfl rfl (zS rfl rfl rfl rfl (zA rfl (qj rfl rfl rfl) (qc (qa (qaj rfl (qd (qb ?_))))))); refine zN rfl rfl rfl (qc (qa (qm (ql (qL (ql (ql (qL (ql (?_))))))))))
        -- leaf g37T1Tg102T
        refine ret0 (noL hL) (.inl rfl) (qf rfl (qh)) ?_ ?_
        · rfl
        first
        | exact ⟨rfl, rfl⟩
        | exact Bool.noConfusion (show true = false by assumption)
        | exact absurd trivial (by assumption)
        | exact absurd rfl (by assumption)
        | trace_state
      try simp only [↓cqA, cqB] at g102
      refine zG rfl rfl rfl rfl (qk (.inl rfl) rfl) (zG rfl rfl rfl rfl (qk (.inl rfl) rfl) (zG rfl rfl rfl rfl (qN (avs := [_, _]) true rfl en_almagestref0_EqBindLists rfl rfl (EqBindListsSelf_ok (holdL K bs G) (by omega) (fun x hx => (hxa x hx).1)) (fun _ => rfl) rfl) (zG rfl rfl rfl rfl (qU rfl rfl) (zA rfl (qj rfl rfl rfl) ?_))))
      refine zM rfl rfl rfl (qA 108 rfl (fun g108 => ?_) (fun g108 => ?_))
      · try simp only [↓cqA, cqB] at g108
        refine zS rfl rfl rfl rfl (zS rfl rfl rfl rfl (zS rfl rfl rfl rfl (zS rfl rfl rfl rfl (zS rfl rfl rfl rfl (zS rfl rfl rfl rfl ?_)))))
        refine zS rfl rfl rfl rfl (zA rfl (qj rfl rfl rfl) (zM rfl rfl rfl (zS rfl rfl rfl rfl (zS rfl rfl rfl rfl (zS rfl rfl rfl rfl ?_)))))
        refine zS rfl rfl rfl rfl (zS rfl rfl rfl rfl (zA rfl (qj rfl rfl rfl) (qc (qa (qaj rfl (qd (qb ?_))))))); refine zN rfl rfl rfl (qc (qa (qm (ql (qL (ql (ql (qL (ql (?_))))))))))
        -- leaf g37T1Tg102Fg108T
        refine ret0 (noL hL) (.inl rfl) (qf rfl (qh)) ?_ ?_
        · rfl
        first
        | exact ⟨rfl, rfl⟩
        | exact Bool.noConfusion (show true = false by assumption)
        | exact absurd trivial (by assumption)
        | exact absurd rfl (by assumption)
        | trace_state
      try simp only [↓cqA, cqB] at g108
      refine zG rfl rfl rfl rfl (qk (.inl rfl) rfl) (zG rfl rfl rfl rfl (qk (.inl rfl) rfl) (zG rfl rfl rfl rfl (qk (.inl rfl) rfl) (zG rfl rfl rfl rfl (qo rfl qH rfl rfl (by omega) (qbp hbs)) (zG rfl rfl rfl rfl (qR rfl qap rfl) ?_))))
      refine zG rfl rfl rfl rfl (qN (avs := [_, _]) true rfl qbH rfl rfl (EqBindsSelf_ok 30 bs hb30 hbw (by omega)) (fun _ => rfl) rfl) (zG rfl rfl rfl rfl (qU rfl rfl) (zA rfl (qj rfl rfl rfl) (zM rfl rfl rfl (qA 117 rfl (fun g117 => ?_) (fun g117 => ?_)))))
      · try simp only [↓cqA, cqB] at g117
        refine zS rfl rfl rfl rfl (zS rfl rfl rfl rfl (zS rfl rfl rfl rfl (zS rfl rfl rfl rfl (zS rfl rfl rfl rfl (zA rfl (qj rfl rfl rfl) ?_)))))
        refine qc (qa (qaj rfl (qd (qb (zN rfl rfl rfl (qc (qa ?_))))))); refine qm (ql (qL (ql (ql (qL (ql (?_)))))))
        -- leaf g37T1Tg102Fg108Fg117T
        refine ret0 (noL hL) (.inl rfl) (qf rfl (qh)) ?_ ?_
        · rfl
        first
        | exact ⟨rfl, rfl⟩
        | exact Bool.noConfusion (show true = false by assumption)
        | exact absurd trivial (by assumption)
        | exact absurd rfl (by assumption)
        | trace_state
      try simp only [↓cqA, cqB] at g117
      refine zG rfl rfl rfl rfl (qk (.inl rfl) rfl) (zG rfl rfl rfl rfl (qg rfl qaq rfl) (zG rfl rfl rfl rfl (qr rfl qaR rfl rfl rfl rfl rfl) ?_))
      refine zG rfl rfl rfl rfl (qN (avs := [_, _]) true rfl en_almagestref0_EqGuards rfl rfl (EqGuardsSelf_ok 30 G hgd hwG hlG) (fun _ => rfl) rfl) (zG rfl rfl rfl rfl (qU rfl rfl) (zA rfl (qj rfl rfl rfl) (qc (qa (qu rfl (fun c4 => ?_) (fun c4 => ?_))))))
      · try simp only [↓cqA, cqB] at c4
        refine qd (qb (zN rfl rfl rfl (qc (qa (qm (ql (qL (ql (ql (qL (ql (?_))))))))))))
        -- leaf g37T1Tg102Fg108Fg117F4T
        refine ret0 (noL hL) (.inl rfl) (qf rfl (qh)) ?_ ?_
        · rfl
        first
        | exact ⟨rfl, rfl⟩
        | exact Bool.noConfusion (show true = false by assumption)
        | exact absurd trivial (by assumption)
        | exact absurd rfl (by assumption)
        | trace_state
      try simp only [↓cqA, cqB] at c4
      refine qt (qa (qd (qd (qb (zN rfl rfl rfl (qc (qa ?_))))))); refine qB ?_
      refine awp_whileE (α := List (List Bd)) ((holdL K bs G).length) (fun j X => X.length = (holdL K bs G).length ∧ ∀ y ∈ X, y.length ≤ 16 ∧ ∀ b ∈ y, dlb 5 b.t) (fun j X => ⟨[(1, .ptr 1 0), (3, .dat false 1 (qaM ([] :: l))), (4, iv (k : Int)), (5, bdA bs), (7, .dat true 1 (qaM X)), (13, iv (j : Int))], [(1, .box (lift false (a12D ⟨⟨C, K, T⟩, l, G⟩)))]⟩) (holdL K bs G) (⟨rfl, fun y hy => ⟨(hxa y hy).2, fun b hb => dlb_of 5 _ (qao ((hxa y hy).1.el b hb).2) ((hxa y hy).1.el b hb).1.2⟩⟩) ?_ (fun j X hj hpj => ?_)
      · exact qI (SubT.cons (zT rfl) (SubT.cons (zT rfl) (SubT.cons (zT rfl) (SubT.cons (zT rfl) (SubT.cons (zT rfl) (SubT.cons (zT rfl) (SubT.nil))))))) (SubO.cons (qag rfl (by rfl)) (SubO.nil)) rfl rfl (noL' (noL hL) _)
      have hXd := qaJ X
      refine qd (qd (qb (zM rfl rfl rfl (zM rfl rfl rfl (zA rfl (qy rfl qH rfl) (zA rfl (qn rfl rfl rfl rfl) (qc ?_))))))); refine qa (qu rfl (fun c5 => ?_) (fun c5 => ?_))
      · try simp only [↓cqA, cqB] at c5
        obtain ⟨y, hy⟩ := qK (l := X) (k := j) (by omega)
        have hym := hpj.2 y (List.mem_of_getElem? hy)
        refine qt (qa (qd (qB (qb (zM rfl rfl rfl (zM rfl rfl rfl (zA rfl (qo rfl qH rfl rfl (by omega) (qbp hy)) ?_))))))); refine zA rfl (qR rfl qap rfl) ?_
        refine qar (qI (T1 := [(133, .dat true 5 (bdDs y)), (1, .ptr 1 0), (3, .dat false 1 (qaM ([] :: l))), (4, iv (k : Int)), (5, bdA bs), (7, .dat true 1 (qaM X)), (13, iv (j : Int))]) (O1 := [(1, .box (lift false (a12D ⟨⟨C, K, T⟩, l, G⟩)))]) (SubT.cons rfl (SubT.cons rfl (SubT.cons rfl (SubT.cons rfl (SubT.cons rfl (SubT.cons rfl (SubT.cons rfl SubT.nil))))))) (SubO.cons rfl SubO.nil) rfl rfl (noL' (noL hL) _)) ?_
        refine awps_spoil rfl rfl rfl (by decide) en_almagestlaw0_Binds rfl rfl rfl rfl (spoilBinds_ok _ hym.2 (by omega)) (fun b hb => absurd hb (hQ b)) (fun T' O' hT hO => ?_)
        simp only [ShT, ShV] at hT
        obtain ⟨_, _, rfl, _, _, _, rfl, rfl, _, _, rfl, ⟨e3, rfl, h3⟩, _, _, rfl, rfl, _, _, rfl, ⟨e5, rfl, h5⟩, _, _, rfl, ⟨e7, rfl, h7⟩, _, _, rfl, rfl, rfl⟩ := hT
        obtain rfl : e3 = _ := by simpa using h3
        obtain rfl : e5 = _ := by simpa using h5
        have h7' : ShEs (qaM X) e7 := by simpa using h7
        obtain ⟨X2, rfl, hX2l, hX2a⟩ := shBdls X e7 h7'
        have hO2 := shO_box hO
        subst hO2
        refine qc (qP (qa (qb (zM rfl rfl rfl (zA rfl (qM rfl rfl rfl (by omega)) (zN rfl rfl rfl (qc ?_))))))); refine qa ?_; refine ⟨?_, X2, ?_, ?_⟩
        · skip
          omega
        · skip
          exact ⟨by omega, hX2a 5 hpj.2⟩
        exact qI (SubT.cons (zT rfl) (SubT.cons (zT rfl) (SubT.cons (zT rfl) (SubT.cons (zT rfl) (SubT.cons (zT rfl) (SubT.cons (zT rfl) (SubT.nil))))))) (SubO.cons (qag rfl (by rfl)) (SubO.nil)) rfl rfl (noL' (noL hL) _)
      try simp only [↓cqA, cqB] at c5
      refine qQ (qq (qq (q7 ?_))); refine qa (qd (qb (zM rfl rfl rfl (zM rfl rfl rfl (zM rfl rfl rfl (zA rfl (qo rfl qH rfl rfl (by omega) (qbp hbs)) (zA rfl (qR rfl qap rfl) ?_)))))))
      refine qC (avs := [_, _]) true rfl rfl rfl (by decide) qbH rfl rfl (EqBindsSelf_ok 30 bs hb30 hbw (by omega)) rfl rfl (zA rfl (qU rfl rfl) (qc (qa (qu rfl (fun c6 => ?_) (fun c6 => ?_)))))
      · try simp only [↓cqA, cqB] at c6
        refine qd (qb (zN rfl rfl rfl (qc (qa (qm (qL (ql (ql (qL (ql (?_)))))))))))
        -- leaf g37T1Tg102Fg108Fg117F4F5F6T
        refine ret0 (noL hL) (.inl rfl) (qf rfl (qh)) ?_ ?_
        · rfl
        first
        | exact ⟨rfl, rfl⟩
        | exact Bool.noConfusion (show true = false by assumption)
        | exact absurd trivial (by assumption)
        | exact absurd rfl (by assumption)
        | trace_state
      try simp only [↓cqA, cqB] at c6
      refine qt (qP (qa (qb (zM rfl rfl rfl (zA rfl (qM rfl rfl rfl (by omega)) (zN rfl rfl rfl (qc ?_))))))); refine qa ?_; refine ⟨?_, ?_, ?_⟩
      · skip
        omega
      · skip
        trivial
      exact qI (SubT.cons (zT rfl) (SubT.cons (zT rfl) (SubT.cons (zT rfl) (SubT.nil)))) (SubO.cons (qag rfl (by rfl)) (SubO.nil)) rfl rfl (noL' (noL hL) _)
    try simp only [↓cqA, cqB] at c1
    refine qQ (qq (qq (q7 ?_))); refine qa (qd (qb (qC (avs := []) true rfl rfl rfl (by decide) en_almagestlaw12_wakes rfl rfl (wakes12_ok) rfl rfl (zN rfl rfl rfl (qc (qa (qm ?_)))))))
    -- leaf g37T1F
    refine ret0 (noL hL) (.inl rfl) (qf rfl (qh)) ?_ ?_
    · rfl
    first
    | exact ⟨rfl, rfl⟩
    | exact Bool.noConfusion (show true = false by assumption)
    | exact absurd trivial (by assumption)
    | exact absurd rfl (by assumption)
    | trace_state
  try simp only [↓cqA, cqB] at g37
  refine zS rfl rfl rfl rfl (zS rfl rfl rfl rfl (zA rfl (qj rfl rfl rfl) (qc (qa (qas rfl (qQ (qq (qq (q7 ?_))))))))); refine qa (qd (qb ?_))
  refine qC (avs := []) true rfl rfl rfl (by decide) en_almagestlaw12_wakes rfl rfl (wakes12_ok) rfl rfl (zN rfl rfl rfl (qc (qa (qm ?_))))
  -- leaf g37F
  refine ret0 (noL hL) (.inl rfl) (qf rfl (qh)) ?_ ?_
  · rfl
  first
  | exact ⟨rfl, rfl⟩
  | exact Bool.noConfusion (show true = false by assumption)
  | exact absurd trivial (by assumption)
  | exact absurd rfl (by assumption)
  | trace_state
theorem GuardHolds_ok (p : Ask12) (hp : p.wf) : PF 113 [.agg (lift false (a12D p))] (bv true) := by
  cases hv : heavy12 p with
  | true => exact GuardHolds_heavy p hp hv
  | false => exact GuardHolds_light p hp hv
end Go.Proofs.YtdecgkhdbfgldaaGreat

set_option linter.unusedVariables false
set_option linter.unusedSimpArgs false
set_option maxRecDepth 8000
namespace Go.Proofs.YtdecgkhdbfgldaaGreat
open Go
section
variable {c : Ctx} {N : Nat}
theorem repL_set {w : World} {ρ : Nat → Value} {S : Bool → Nat → Prop} {U : Nat → Prop} {v : Value} {n : AV} (hn : Rep w ρ S U n v) : ∀ (i : Nat) (cs : List AV) (xs : List Value), RepL w ρ S U cs xs → cs[i]? = some (.imm v) → RepL w ρ S U (cs.set i n) xs
  | _, [], xs, h, hi => by simp at hi
  | 0, a :: cs, xs, h, hi => by
    simp only [List.getElem?_cons_zero, Option.some.injEq] at hi
    subst hi
    simp only [RepL] at h
    obtain ⟨y, ys, rfl, h1, h2⟩ := h
    simp only [Rep] at h1
    subst h1
    simp only [List.set_cons_zero, RepL]
    exact ⟨_, ys, rfl, hn, h2⟩
  | i + 1, a :: cs, xs, h, hi => by
    simp only [RepL] at h
    obtain ⟨y, ys, rfl, h1, h2⟩ := h
    simp only [List.set_cons_succ, RepL]
    exact ⟨y, ys, rfl, h1, repL_set hn i cs ys h2 (by simpa using hi)⟩
theorem sub_nil_cell {T : List (Nat × AV)} {O : List (Nat × Ob)} {b l i : Nat} {cs : List AV} (e : TypeId) (k : Nat) (f : Bool) (hb : ok O b = some (.box cs)) (hi : cs[i]? = some (.imm (.slice none 0 0))) (hl : ok O l = none) : Sub c N ⟨T, O⟩ ⟨T, (b, .box (cs.set i (.row l))) :: (l, .rowd e k f []) :: O⟩ := by
  rintro a w ⟨ρ, S, hc⟩
  have h1 : Conc c N ⟨T, (l, .rowd e k f []) :: O⟩ a w (upd ρ l (.slice none 0 0)) S :=
    hc.addOb hl (fun b hb => by simp [blk] at hb) ⟨by simp, [], by rw [qbk]; exact World.ownsRow_nil w 0 e k, by simp, by simp [lift, RepL]⟩
  have hne : ¬ b = l := fun e => by subst e; rw [hl] at hb; cases hb
  have hb2 : ok ((l, Ob.rowd e k f []) :: O) b = some (.box cs) := by rw [qaF, if_neg (by exact fun e => hne e.symm)]; exact hb
  refine ⟨_, S, h1.modOb hb2 trivial (Far.refl _ _) ?_⟩
  obtain ⟨bb, ty, xs, q1, q2, q3, q4⟩ := h1.O b _ hb2
  refine ⟨bb, ty, xs, q1, q2, q3, ?_⟩
  have hrow : Rep w (upd ρ l (.slice none 0 0)) S (St.U ⟨T, (l, .rowd e k f []) :: O⟩) (.row l) (.slice none 0 0) := by
    simp only [Rep]
    exact ⟨by simp [St.U, qaF], by rw [qbk], _, _, _, rfl⟩
  exact (repL_set hrow i cs xs q4 hi).mono (fun _ _ h => h) (fun _ _ _ => rfl) U_cons (fun _ _ => rfl)
end
def ofG (kind : Int) (g : Gd) : Gd := ⟨kind, g.l, if kind > 4 then zeroTm else g.r⟩
theorem ofG_wf {kind : Int} (hk : i64 kind) {g : Gd} (h : g.wf) : (ofG kind g).wf := by
  refine ⟨hk, h.2.1, ?_⟩
  simp only [ofG]
  split
  · exact zeroTm_wf
  · exact h.2.2
theorem gdDs_snoc (l : List Gd) (g : Gd) : gdDs (l ++ [g]) = gdDs l ++ [gdD g] := by simp [gdDs]
theorem of_ok (p : Ask12) (hp : p.wf) (kind : Int) (hk : 1 ≤ kind ∧ kind ≤ 6) : PF 42 [.agg (lift false (a12D p)), iv kind] (bv true) := by
  obtain ⟨⟨C, K, T⟩, l, G⟩ := p
  have hp2 := hp
  obtain ⟨hpK, hpl, hlG, hwG⟩ := hp2
  simp only at hlG hwG
  simp only [qbD] at hlG
  have hlen := qbU G
  have hki : i64 kind := ⟨by omega, by omega⟩
  refine qG Tryz.func42 rfl Tryz.ntmps42 (Nat.le_of_ble_eq_true rfl) fun c hL hQ hDD => (qd (qb (qz rfl rfl (by decide) (qab 2 rfl rfl rfl) rfl (zN rfl rfl rfl (qc (qa (qd ?_))))))); refine qb (zA rfl (qw rfl qaH rfl rfl rfl rfl) ?_)
  refine qz rfl rfl (by decide) (qaf 5 rfl zv_almagestlaw12_Ask rfl) rfl (qO rfl rfl rfl qaH rfl rfl rfl rfl rfl rfl rfl rfl rfl (qc (qa (qd (qb (zA rfl (qg rfl qaq rfl) ?_))))))
  refine qO rfl rfl rfl qaR rfl rfl rfl rfl rfl rfl rfl rfl rfl (qc (qa (qd (qd (qb (zN rfl rfl rfl (qc ?_))))))); refine qa (qB ?_)
  refine qV (2) (fun k => k ≤ G.length ∧ k ≤ 2) (fun k => ⟨[(1, iv kind), (2, .ptr 2 0), (5, .ptr 5 0), (6, iv (k : Int))], [(2, .box (lift false (a12D ⟨⟨C, K, T⟩, l, G⟩))), (5, .box [.dat false 6 (clDs C), .dat false 4 (tmDs K), .dat false 4 (tmDs T), .dat false 1 (qaM l), .row 9]), (9, .rowd 111 9 false (gdDs ((G.take k).map (ofG kind))))]⟩) (⟨by omega, by omega⟩) ?_ (fun k hk hp => ?_)
  · exact Sub.trans (sub_nil_cell (b := 5) (l := 9) (i := 4) 111 9 false rfl rfl rfl) (qI (SubT.cons (zT rfl) (SubT.cons (zT rfl) (SubT.cons (zT rfl) (SubT.cons (zT rfl) (SubT.nil))))) (SubO.cons (qag rfl (by rfl)) (SubO.cons (qag rfl (by rfl)) (SubO.cons (qag rfl (by rfl)) (SubO.nil)))) rfl rfl (noL' (noL hL) _))
  have hl2 : (gdDs ((G.take k).map (ofG kind))).length ≤ 2 := by rw [qbU, List.length_map, List.length_take]; omega
  refine qd (qd (qb (zM rfl rfl rfl (zA rfl (qg rfl qaq rfl) (zA rfl (qr rfl qaR rfl rfl rfl rfl rfl) (zA rfl (qy rfl qac rfl) (zA rfl (qn rfl rfl rfl rfl) ?_))))))); refine zM rfl rfl rfl (qA 15 rfl (fun g15 => ?_) (fun g15 => ?_))
  · try simp only [↓cqA, cqB] at g15
    refine zG rfl rfl rfl rfl (qk (.inl rfl) rfl) (zG rfl rfl rfl rfl (qn rfl rfl rfl rfl) (zA rfl (qj rfl rfl rfl) (qc (qa (qu rfl (fun c0 => ?_) (fun c0 => ?_))))))
    · try simp only [↓cqA, cqB] at c0
      obtain ⟨g, hg⟩ := qK (l := G) (k := k) (by omega)
      have hts := qah hg
      refine qt (qa (qd (qB (qd (qb (zA rfl (qg rfl qaq rfl) (zA rfl (qr rfl qaR rfl rfl rfl rfl rfl) ?_))))))); refine zM rfl rfl rfl (zA rfl (qo rfl qac rfl rfl (by omega) (gdDs_get hg)) (zA rfl (qD rfl qaz rfl rfl) ?_))
      refine qz rfl rfl (by decide) (qaf 7 rfl qcn rfl) rfl (qO rfl rfl rfl qaz rfl rfl rfl rfl rfl rfl rfl rfl rfl (qc (qa (qd (qb (zM rfl rfl rfl (zA rfl (qg rfl qaS rfl) ?_)))))))
      refine qO rfl rfl rfl qay rfl rfl rfl rfl rfl rfl rfl rfl rfl (qc (qa (qd (qd (qb (zM rfl rfl rfl (zA rfl (qn rfl rfl rfl rfl) ?_))))))); refine qc (qa (qu rfl (fun c1 => ?_) (fun c1 => ?_)))
      · try simp only [↓cqA, cqB] at c1
        have hof : ofG kind g = ⟨kind, g.l, zeroTm⟩ := by rw [ofG, if_pos c1]
        refine qb (zA rfl (qbx rfl q6 rfl qbT rfl rfl) (zA rfl (qg rfl qa1 rfl) (qO rfl rfl rfl qi rfl rfl rfl rfl rfl rfl rfl rfl rfl (qc (qa ?_)))))
        first
          | refine qbb (sub_boxle (l := 7) (cs' := lift false (gdD ⟨kind, g.l, zeroTm⟩)) rfl (.cons .refl (.cons .refl (.cons .refl (.cons .refl (.cons .refl (.cons .refl (.cons .refl (.cons .refl (.cons .nil .nil)))))))))) ?_
          | refine qbb (sub_boxle (l := 7) (cs' := lift false (gdD ⟨kind, g.l, g.r⟩)) rfl (.cons .refl (.cons .refl (.cons .refl (.cons .refl (.cons .refl (.cons .refl (.cons .refl (.cons .refl (.cons .refl .nil)))))))))) ?_
        refine qb (zA rfl (qg rfl qaq rfl) (zA rfl (qr rfl qaR rfl rfl rfl rfl rfl) (zA rfl (qw rfl qaz rfl rfl rfl rfl) (qz rfl rfl (by decide) (qS 35 rfl qac qcn rfl rfl (by decide) (by decide) (by decide) rfl rfl rfl) rfl (qbt rfl rfl (by decide) (qaA 36 ta_S_api_Guard rfl rfl rfl rfl rfl rfl rfl rfl (noL hL _) (by omega) rfl) rfl ?_)))))
        refine zA rfl (qg rfl qaq rfl) (qO rfl rfl rfl qaR rfl rfl rfl rfl rfl rfl rfl rfl rfl (qc (qP (qa (qb (zM rfl rfl rfl (zA rfl (qM rfl rfl rfl (by omega)) ?_))))))); refine zN rfl rfl rfl (qc (qa ?_)); refine ⟨?_, ?_, ?_⟩
        · skip
          omega
        · skip
          exact ⟨by omega, by omega⟩
        exact Sub.trans (qaE 36 9 (noL hL _) (noL hL _)) (qI (SubT.cons (zT rfl) (SubT.cons (zT rfl) (SubT.cons (zT rfl) (SubT.cons (zT rfl) (SubT.nil))))) (SubO.cons (qag rfl (by rfl)) (SubO.cons (qag rfl (by rfl)) (SubO.cons (qag rfl (by rw [hts, List.map_append, List.map_cons, List.map_nil, gdDs_snoc, hof]; try rfl)) (SubO.nil)))) rfl rfl (noL' (noL hL) _))
      try simp only [↓cqA, cqB] at c1
      have hof : ofG kind g = ⟨kind, g.l, g.r⟩ := by rw [ofG, if_neg (by omega)]
      refine qt (qa ?_)
      first
        | refine qbb (sub_boxle (l := 7) (cs' := lift false (gdD ⟨kind, g.l, zeroTm⟩)) rfl (.cons .refl (.cons .refl (.cons .refl (.cons .refl (.cons .refl (.cons .refl (.cons .refl (.cons .refl (.cons .nil .nil)))))))))) ?_
        | refine qbb (sub_boxle (l := 7) (cs' := lift false (gdD ⟨kind, g.l, g.r⟩)) rfl (.cons .refl (.cons .refl (.cons .refl (.cons .refl (.cons .refl (.cons .refl (.cons .refl (.cons .refl (.cons .refl .nil)))))))))) ?_
      refine qb (zA rfl (qg rfl qaq rfl) (zA rfl (qr rfl qaR rfl rfl rfl rfl rfl) (zA rfl (qw rfl qaz rfl rfl rfl rfl) (qz rfl rfl (by decide) (qS 35 rfl qac qcn rfl rfl (by decide) (by decide) (by decide) rfl rfl rfl) rfl (qbt rfl rfl (by decide) (qaA 36 ta_S_api_Guard rfl rfl rfl rfl rfl rfl rfl rfl (noL hL _) (by omega) rfl) rfl ?_)))))
      refine zA rfl (qg rfl qaq rfl) (qO rfl rfl rfl qaR rfl rfl rfl rfl rfl rfl rfl rfl rfl (qc (qP (qa (qb (zM rfl rfl rfl (zA rfl (qM rfl rfl rfl (by omega)) ?_))))))); refine zN rfl rfl rfl (qc (qa ?_)); refine ⟨?_, ?_, ?_⟩
      · skip
        omega
      · skip
        exact ⟨by omega, by omega⟩
      exact Sub.trans (qaE 36 9 (noL hL _) (noL hL _)) (qI (SubT.cons (zT rfl) (SubT.cons (zT rfl) (SubT.cons (zT rfl) (SubT.cons (zT rfl) (SubT.nil))))) (SubO.cons (qag rfl (by rfl)) (SubO.cons (qag rfl (by rfl)) (SubO.cons (qag rfl (by rw [hts, List.map_append, List.map_cons, List.map_nil, gdDs_snoc, hof]; try rfl)) (SubO.nil)))) rfl rfl (noL' (noL hL) _))
    try simp only [↓cqA, cqB] at c0
    refine qQ ?_; refine qq (qq (q7 ?_)); refine qa ?_; refine qd ?_; refine qb ?_; refine zA rfl (qw rfl qaH rfl rfl rfl rfl) ?_; refine qC (avs := [_]) true rfl rfl rfl (by decide) qcw rfl rfl (GuardHolds_ok ⟨⟨C, K, T⟩, l, (G.take k).map (ofG kind)⟩ ⟨hpK, hpl, by simp only [qbD, List.length_map, List.length_take]; omega, fun g hg => by obtain ⟨x, hx, rfl⟩ := List.mem_map.1 hg; exact ofG_wf hki (hwG x (List.mem_of_mem_take hx))⟩) rfl rfl ?_
    refine zN rfl rfl rfl (qc (qa (qm ?_)))
    -- leaf g15T0F
    refine ret0 (noL hL) (.inl rfl) (qf rfl (qh)) ?_ ?_
    · rfl
    exact ⟨rfl, rfl⟩
  try simp only [↓cqA, cqB] at g15
  refine zS rfl rfl rfl rfl (zS rfl rfl rfl rfl (zA rfl (qj rfl rfl rfl) (qc (qa (qas rfl (qQ (qq (qq (q7 ?_))))))))); refine qa (qd (qb (zA rfl (qw rfl qaH rfl rfl rfl rfl) ?_)))
  refine qC (avs := [_]) true rfl rfl rfl (by decide) qcw rfl rfl (GuardHolds_ok ⟨⟨C, K, T⟩, l, (G.take k).map (ofG kind)⟩ ⟨hpK, hpl, by simp only [qbD, List.length_map, List.length_take]; omega, fun g hg => by obtain ⟨x, hx, rfl⟩ := List.mem_map.1 hg; exact ofG_wf hki (hwG x (List.mem_of_mem_take hx))⟩) rfl rfl ?_; refine zN rfl rfl rfl ?_; refine qc ?_; refine qa ?_; refine qm ?_
  -- leaf g15F
  refine ret0 (noL hL) (.inl rfl) (qf rfl (qh)) ?_ ?_
  · rfl
  exact ⟨rfl, rfl⟩
theorem GuardLess_ok (p : Ask12) (hp : p.wf) : PF 6 [.agg (lift false (a12D p))] (bv true) := by
  refine qG Tryz.func6 rfl Tryz.ntmps6 (Nat.le_of_ble_eq_true rfl) fun c hL hQ hDD => (qd (qb (qz rfl rfl (by decide) (qab 1 rfl rfl rfl) rfl (zN rfl rfl rfl (qc (qa (qd ?_))))))); refine qb (zA rfl (qw rfl qaH rfl rfl rfl rfl) ?_)
  refine qC (avs := [_, _]) true rfl rfl rfl (by decide) qbs rfl rfl (of_ok p hp 1 (by omega)) rfl rfl (zN rfl rfl rfl (qc (qa (qm ?_))))
  -- leaf 
  refine ret0 (noL hL) (.inl rfl) (qf rfl (qh)) ?_ ?_
  · rfl
  exact ⟨rfl, rfl⟩
theorem GuardMost_ok (p : Ask12) (hp : p.wf) : PF 7 [.agg (lift false (a12D p))] (bv true) := by
  refine qG Tryz.func7 rfl Tryz.ntmps7 (Nat.le_of_ble_eq_true rfl) fun c hL hQ hDD => (qd (qb (qz rfl rfl (by decide) (qab 1 rfl rfl rfl) rfl (zN rfl rfl rfl (qc (qa (qd ?_))))))); refine qb (zA rfl (qw rfl qaH rfl rfl rfl rfl) ?_)
  refine qC (avs := [_, _]) true rfl rfl rfl (by decide) qbs rfl rfl (of_ok p hp 2 (by omega)) rfl rfl (zN rfl rfl rfl (qc (qa (qm ?_))))
  -- leaf 
  refine ret0 (noL hL) (.inl rfl) (qf rfl (qh)) ?_ ?_
  · rfl
  exact ⟨rfl, rfl⟩
theorem GuardSame_ok (p : Ask12) (hp : p.wf) : PF 8 [.agg (lift false (a12D p))] (bv true) := by
  refine qG Tryz.func8 rfl Tryz.ntmps8 (Nat.le_of_ble_eq_true rfl) fun c hL hQ hDD => (qd (qb (qz rfl rfl (by decide) (qab 1 rfl rfl rfl) rfl (zN rfl rfl rfl (qc (qa (qd ?_))))))); refine qb (zA rfl (qw rfl qaH rfl rfl rfl rfl) ?_)
  refine qC (avs := [_, _]) true rfl rfl rfl (by decide) qbs rfl rfl (of_ok p hp 3 (by omega)) rfl rfl (zN rfl rfl rfl (qc (qa (qm ?_))))
  -- leaf 
  refine ret0 (noL hL) (.inl rfl) (qf rfl (qh)) ?_ ?_
  · rfl
  exact ⟨rfl, rfl⟩
theorem GuardOther_ok (p : Ask12) (hp : p.wf) : PF 9 [.agg (lift false (a12D p))] (bv true) := by
  refine qG Tryz.func9 rfl Tryz.ntmps9 (Nat.le_of_ble_eq_true rfl) fun c hL hQ hDD => (qd (qb (qz rfl rfl (by decide) (qab 1 rfl rfl rfl) rfl (zN rfl rfl rfl (qc (qa (qd ?_))))))); refine qb (zA rfl (qw rfl qaH rfl rfl rfl rfl) ?_)
  refine qC (avs := [_, _]) true rfl rfl rfl (by decide) qbs rfl rfl (of_ok p hp 4 (by omega)) rfl rfl (zN rfl rfl rfl (qc (qa (qm ?_))))
  -- leaf 
  refine ret0 (noL hL) (.inl rfl) (qf rfl (qh)) ?_ ?_
  · rfl
  exact ⟨rfl, rfl⟩
theorem GuardKnown_ok (p : Ask12) (hp : p.wf) : PF 10 [.agg (lift false (a12D p))] (bv true) := by
  refine qG Tryz.func10 rfl Tryz.ntmps10 (Nat.le_of_ble_eq_true rfl) fun c hL hQ hDD => (qd (qb (qz rfl rfl (by decide) (qab 1 rfl rfl rfl) rfl (zN rfl rfl rfl (qc (qa (qd ?_))))))); refine qb (zA rfl (qw rfl qaH rfl rfl rfl rfl) ?_)
  refine qC (avs := [_, _]) true rfl rfl rfl (by decide) qbs rfl rfl (of_ok p hp 5 (by omega)) rfl rfl (zN rfl rfl rfl (qc (qa (qm ?_))))
  -- leaf 
  refine ret0 (noL hL) (.inl rfl) (qf rfl (qh)) ?_ ?_
  · rfl
  exact ⟨rfl, rfl⟩
theorem GuardUnknown_ok (p : Ask12) (hp : p.wf) : PF 11 [.agg (lift false (a12D p))] (bv true) := by
  refine qG Tryz.func11 rfl Tryz.ntmps11 (Nat.le_of_ble_eq_true rfl) fun c hL hQ hDD => (qd (qb (qz rfl rfl (by decide) (qab 1 rfl rfl rfl) rfl (zN rfl rfl rfl (qc (qa (qd ?_))))))); refine qb (zA rfl (qw rfl qaH rfl rfl rfl rfl) ?_)
  refine qC (avs := [_, _]) true rfl rfl rfl (by decide) qbs rfl rfl (of_ok p hp 6 (by omega)) rfl rfl (zN rfl rfl rfl (qc (qa (qm ?_))))
  -- leaf 
  refine ret0 (noL hL) (.inl rfl) (qf rfl (qh)) ?_ ?_
  · rfl
  exact ⟨rfl, rfl⟩
end Go.Proofs.YtdecgkhdbfgldaaGreat
