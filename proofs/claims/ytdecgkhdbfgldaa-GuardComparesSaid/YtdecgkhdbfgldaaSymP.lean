/- Plain proof kit of this session, sixteenth part: append hands back a new object; objects by other numbers; calls in any order. -/
import Derived.Test.YtdecgkhdbfgldaaSymO
set_option linter.unusedVariables false
set_option linter.unusedSimpArgs false
namespace Go.Proofs.Ytdecgkhdbfgldaa
open Go Go.RowKit

def immDs (es : List (List D)) : Bool := es.all fun ds => ds.all fun d => match d with
  | .imm _ => true
  | _ => false
theorem lift_imm {f g : Bool} : ∀ {ds : List D}, (ds.all fun d => match d with | .imm _ => true | _ => false) = true → lift f ds = lift g ds
  | [], _ => rfl
  | d :: ds, h => by
    simp only [List.all_cons, Bool.and_eq_true] at h
    have ih := lift_imm (f := f) (g := g) h.2
    simp only [lift, List.map_cons] at ih ⊢
    rw [ih]
    cases d with
    | imm v => rfl
    | sl k es => have := h.1; cases this
theorem lift_immDs {f g : Bool} {es : List (List D)} (h : immDs es = true) : lift f es.flatten = lift g es.flatten := by
  refine lift_imm ?_
  rw [immDs, List.all_eq_true] at h
  rw [List.all_eq_true]
  intro d hd
  obtain ⟨ds, h1, h2⟩ := List.mem_flatten.1 hd
  exact List.all_eq_true.1 (h ds h1) d h2

section
variable {P : Program} {c : Ctx} {N : Nat} {Q : Exit → St → Prop} {σ : St} {o : Oper}

theorem append_new {s x : Operand} {t e : TypeId} {k by_ l l' : Nat} {f : Bool} {es news : List (List D)} {T : List (Nat × AV)} {O : List (Nat × Ob)} (ty : TyA P t e k by_)
    (ho : o.op = .call { callee := .builtin .append, args := #[s, x], argTypes := #[t, t] }) (hdN : ∀ d, o.dst = some d → d < N)
    (hs : ev T s = some (.row l)) (hl : ok O l = some (.rowd e k f es)) (hL : ¬ c.L l) (hl' : ok O l' = none)
    (hx : ∀ a w ρ S, Conc c N ⟨T, O⟩ a w ρ S → ∃ A n c', a.eval x = .slice A n c' ∧ n = news.length ∧ ((A = none ∧ n = 0) ∨ ∃ ad, ∃ us : List Value, A = some ad ∧ us.length = n * k ∧ (∀ j u, us[j]? = some u → w.cell? (ad.add j) = some u) ∧ (∀ u ∈ us, u.oneCell' = true) ∧ RepL w ρ S (St.U ⟨T, O⟩) (lift f news.flatten) us))
    (hk : ∀ d ∈ news, d.length = k) (hb : (es.length + news.length) * by_ ≤ 140737488355328) (hb0 : 0 < by_) :
    AOp P c N o ⟨T, O⟩ (fun σ2 => σ2 = St.add ⟨T, O⟩ o.dst (.row l') [(l', .rowd e k f (es ++ news)), (l, .dead)]) := by
  rintro a w ⟨ρ, S, hc⟩
  have hev := ev_rep hc hs
  simp only [Rep] at hev
  obtain ⟨hUl, hse, _⟩ := hev
  obtain ⟨hes, xs, how, h1, hr⟩ := hc.O l _ hl
  obtain ⟨A, n, c', hxe, hn, hsrc⟩ := hx a w ρ S hc
  obtain ⟨i, hi1, hi2, hi3⟩ := sl_spec ty.s
  obtain ⟨z, hz1, hz2⟩ := ty.z
  obtain ⟨i', hi', hzz⟩ := Option.map_eq_some_iff.1 hz1
  rw [hi2] at hi'; simp only [Option.some.injEq] at hi'; subst hi'
  simp only [Prod.mk.injEq] at hzz
  obtain ⟨hz3, _, hz4⟩ := hzz
  -- what append leaves
  obtain ⟨v', w', us, hrun, how', hgr, hat, hone, hrep, hul⟩ : ∃ v' w', ∃ us : List Value, (Builtin.append_ #[t, t] o.type #[ρ l, .slice A n c']).run P w = .ok v' w' ∧ w'.ownsRow 0 e k v' (es.length + n) (xs ++ us) ∧ w.grownBy w' (ρ l).ownBlock ∧ ((v').ownBlock = (ρ l).ownBlock ∨ v'.ownBlock = some w.heap.size) ∧ (∀ u ∈ us, u.oneCell' = true) ∧ RepL w ρ S (St.U ⟨T, O⟩) (lift f news.flatten) us ∧ us.length = n * k := by
    rcases hsrc with ⟨rfl, rfl⟩ | ⟨ad, us, rfl, h3, h4, h5, h6⟩
    · have hnil : news = [] := List.eq_nil_of_length_eq_zero hn.symm
      obtain ⟨A', cc, hv⟩ := owns_slice how
      refine ⟨ρ l, w, [], ?_, by simpa using how, ⟨rfl, rfl, rfl, Nat.le_refl _, fun _ _ _ => rfl⟩, .inl rfl, by simp, by simp [hnil, lift, RepL], by simp⟩
      rw [hv]
      refine run_append_none t o.type e k ty.s w A' es.length cc c' ?_ (fun a _ => rfl)
      rcases how.2 with ⟨h7, h8⟩ | ⟨g, cap, cur, h7, _, _, h8, _⟩
      · omega
      · rw [hv] at h7; simp only [Value.slice.injEq] at h7; omega
    · have hmax : es.length + n ≤ maxLen := by
        have : es.length + n ≤ (es.length + news.length) * by_ := by rw [hn]; exact Nat.le_mul_of_pos_right _ hb0
        simp only [maxLen]; omega
      obtain ⟨v', w', hr1, hr2, hr3, _, hr5⟩ := run_append_own_at (P := P) w 0 t o.type e i z k by_ hi1 hi2 hz3 hi3 hz4 hz2 ty.k0 (ρ l) es.length xs how ad n c' us h3 h4 h5 hmax (by rw [hn]; exact hb) (Nat.zero_le _)
      exact ⟨v', w', us, hr1, hr2, hr3, hr5, h5, h6, h3⟩
  have hown := owns_own how
  have hown' := owns_own how'
  rw [hown] at hgr hat
  rw [hown'] at hat
  have hf : Far (fun b => blk (ρ l) = some b) w w' := ⟨hgr.os, hgr.tape, hgr.output, hgr.size, fun b hb hne => hgr.block b hb (fun e => hne e.symm)⟩
  -- the old row is no more
  have hll : l ≠ l' := fun e => by subst e; rw [hl] at hl'; cases hl'
  have hokd : ∀ m ob, ok ((l, Ob.dead) :: O) m = some ob → ob.live → ok O m = some ob ∧ m ≠ l := fun m ob hm hv => by
    rw [ok_cons] at hm
    split at hm
    · cases hm; exact hv.elim
    · rename_i hne; exact ⟨hm, fun e => hne e.symm⟩
  have hUd : ∀ m, St.U ⟨T, O⟩ m → St.U ⟨T, (l, .dead) :: O⟩ m := fun m hm => U_cons m hm
  have hc1 : Conc c N ⟨T, (l, .dead) :: O⟩ a w ρ S := by
    refine ⟨hc.tm, hc.df, fun t v ht => (hc.T t v ht).mono (fun _ _ h => h) (fun _ _ _ => rfl) hUd (fun _ _ => rfl), fun m ob hm => ?_, fun m m' ob ob' b h1 h2 h3 h4 => hc.dj m m' ob ob' b (hokd m ob h1 h3).1 (hokd m' ob' h2 h4).1 h3 h4, fun m ob b f h1 h2 => hc.dS m ob b f (hokd m ob h1 h2).1 h2, fun m ob b h1 h2 => hc.wr m ob b (hokd m ob h1 h2).1 h2, fun m ob b h1 h2 => hc.lt m ob b (hokd m ob h1 h2).1 h2, hc.SS, hc.Sb, hc.Sn, hc.So, fun m hm => ⟨?_, (hc.lo m hm).2⟩, hc.fm⟩
    · by_cases hv : ob.live
      · obtain ⟨h1, h2⟩ := hokd m ob hm hv
        exact (hc.O m ob h1).mono (fun _ _ h => h) (fun _ _ _ => rfl) hUd (fun _ _ => rfl) (by simp [St.U, h1]) (fun _ _ => rfl)
      · cases ob <;> simp [Ob.live] at hv; trivial
    · have := (hc.lo m hm).1
      simp only [ok_cons]
      split
      · rfl
      · exact this
  have hne : ∀ m ob, ok ((l, Ob.dead) :: O) m = some ob → ob.live → m ≠ l := fun m ob hm hv => (hokd m ob hm hv).2
  have hlock : ¬ c.L l := hL
  have hwr : ∀ b, blk (ρ l) = some b → c.w0.heap.size ≤ b := fun b hb => by
    rcases hc.wr l _ b hl trivial hb with h | h
    · exact h
    · exact absurd h.1 hlock
  have hc2 : Conc c N ⟨T, (l, .dead) :: O⟩ a w' ρ S := hc1.grow hf (fun f b hS e => hc.dS l _ b f hl trivial e hS) (fun m ob b hm hv hb e => hne m ob hm hv (hc.dj m l ob _ b (hokd m ob hm hv).1 hl hv trivial hb e)) (fun b hb e => by have := hwr b e; omega)
  have hsz := hf.size
  have hblk : ∀ b, blk v' = some b → b < w'.heap.size ∧ c.w0.heap.size ≤ b ∧ (∀ f, ¬ S f b) ∧ ∀ m om, ok ((l, Ob.dead) :: O) m = some om → om.live → blk (ρ m) ≠ some b := by
    intro b hb
    have hlt : b < w'.heap.size := by
      obtain ⟨_, _, _, hh, _⟩ := row_cells how' hb
      exact (Array.getElem?_eq_some_iff.1 hh).1
    rcases hat with h | h
    · rw [h] at hb
      exact ⟨hlt, hwr b hb, fun f hS => hc.dS l _ b f hl trivial hb hS, fun m om hm hv e => hne m om hm hv (hc.dj m l om _ b (hokd m om hm hv).1 hl hv trivial e hb)⟩
    · rw [h] at hb; simp only [Option.some.injEq] at hb; subst hb
      have := hc.fm.size
      exact ⟨hlt, this, fun f hS => Nat.lt_irrefl _ (hc.Sb f _ hS), fun m om hm hv e => Nat.lt_irrefl _ (hc.lt m om _ (hokd m om hm hv).1 hv e)⟩
  have hS' : ∀ f b, S f b → w'.heap[b]? = w.heap[b]? := fun f b hb => hf.block b (hc.Sb f b hb) (fun e => hc.dS l _ b f hl trivial e hb)
  have hcells : RepL w' (upd ρ l' v') S (St.U ⟨T, (l', .rowd e k f (es ++ news)) :: (l, .dead) :: O⟩) (lift f (es ++ news).flatten) (xs ++ us) := by
    have h8 : lift f (es ++ news).flatten = lift f es.flatten ++ lift f news.flatten := by simp [lift]
    rw [h8]
    exact (RepL.move (p := fun _ => false) (fun _ _ h => h) hS' (fun _ h => by cases h) _ _ (allLs_lift _ _ _) hr).append (RepL.move (p := fun _ => false) (fun _ _ h => h) hS' (fun _ h => by cases h) _ _ (allLs_lift _ _ _) hrep)
  have hc3 : Conc c N ⟨T, (l', .rowd e k f (es ++ news)) :: (l, .dead) :: O⟩ a w' (upd ρ l' v') S := by
    refine hc2.addOb (by rw [ok_cons, if_neg hll]; exact hl') hblk ⟨?_, xs ++ us, ?_, ?_, hcells⟩
    · intro d hd
      rcases List.mem_append.1 hd with h | h
      · exact hes d h
      · exact hk d h
    · rw [upd_same, List.length_append, ← hn]; exact how'
    · intro y hy
      rcases List.mem_append.1 hy with h | h
      · exact h1 y h
      · exact hone y h
  have hput := hc3.put (dst := o.dst) (v := .row l') (x := v') hdN (by
    simp only [Rep]
    obtain ⟨A', cc, hv⟩ := owns_slice how'
    exact ⟨by simp [St.U, ok_cons], (upd_same ρ l' v').symm, A', _, cc, hv⟩)
  have hex : (execOp a.eval o).run P w = .ok (.value v') w' := by
    simp only [execOp, ho, resolve]
    simp [Sem.run_bind, invoke, builtin, hse, hxe, hrun]
  unfold Oper.wp
  rw [hex]
  refine ⟨_, ⟨_, _, hput⟩, ?_⟩
  cases o.dst <;> rfl


/-- append(row, one element). -/
theorem stpU_append1 {s x : Operand} {t e : TypeId} {k by_ l l2 : Nat} {f : Bool} {es : List (List D)} {cs : List AV} {nd : List D} (l' : Nat) (ty : TyA P t e k by_)
    (ho : o.op = .call { callee := .builtin .append, args := #[s, x], argTypes := #[t, t] }) (hs : ev σ.T s = some (.row l)) (hl : ok σ.O l = some (.rowd e k f es)) (hx : ev σ.T x = some (.row l2)) (hl2 : ok σ.O l2 = some (.row e k cs)) (hcs : toDs f cs = some nd) (hnd : nd.length = k)
    (hll : Nat.beq l' l = false) (hL : ¬ c.L l) (hb : (es.length + 1) * by_ ≤ 140737488355328) (hb0 : Nat.ble 1 by_ = true) : StpU P c N o σ [l, l2] (.row l') [(l', .rowd e k f (es ++ [nd])), (l, .dead)] [l] := by
  intro hdN σ1 g1 g2 g3
  have hs' := g1 s (by simp [ho, Op.operands, Call.operands]) _ hs
  have hx' := g1 x (by simp [ho, Op.operands, Call.operands]) _ hx
  have hl1' := g2 l (by simp) _ hl
  have hl2' := g2 l2 (by simp) _ hl2
  have hne : ¬ l' = l := fun e => by subst e; simp at hll
  have hnew := g3 (l', .rowd e k f (es ++ [nd])) (by simp) (by simpa using hne)
  refine append_new (T := σ1.T) (O := σ1.O) (news := [nd]) ty ho hdN hs' hl1' hL hnew ?_ (by simpa using hnd) (by simpa using hb) (Nat.le_of_ble_eq_true hb0)
  · intro a w ρ S hc
    have hev := ev_rep hc hx'
    simp only [Rep] at hev
    obtain ⟨hU, hxe, A, n, cc, hsl⟩ := hev
    obtain ⟨m, xs, how, h1, hr⟩ := hc.O l2 _ hl2'
    have hcl := toDs_lift hcs
    have hlen := hr.length
    rw [hcl] at hr hlen
    simp only [lift, List.length_map] at hlen
    have hm : m = 1 := by
      have := how.1
      have hk0 := ty.k0
      rw [hlen, hnd] at this
      have h1m : 1 * k = m * k := by omega
      exact (Nat.eq_of_mul_eq_mul_right hk0 h1m).symm
    subst hm
    rcases how.2 with ⟨_, h⟩ | ⟨g, cap, cur, hv, _⟩
    · omega
    · refine ⟨some ⟨g, 0, none⟩, 1, cap, by rw [hxe, hv], rfl, .inr ⟨⟨g, 0, none⟩, xs, rfl, by rw [hlen, hnd]; omega, fun j u hu => ?_, h1, by simpa using hr⟩⟩
      rw [add_plain, Nat.zero_add]
      exact row_cells_get how (by rw [hv]; rfl) j u hu


/-- append(row, data...). -/
theorem stpU_appendd {s x : Operand} {t e : TypeId} {k by_ l : Nat} {f : Bool} {es news : List (List D)} (l' : Nat) (ty : TyA P t e k by_)
    (ho : o.op = .call { callee := .builtin .append, args := #[s, x], argTypes := #[t, t] }) (hs : ev σ.T s = some (.row l)) (hl : ok σ.O l = some (.rowd e k f es)) (hx : ev σ.T x = some (.dat f k news))
    (hll : Nat.beq l' l = false) (hL : ¬ c.L l) (hk : ∀ d ∈ news, d.length = k) (hb : (es.length + news.length) * by_ ≤ 140737488355328) (hb0 : Nat.ble 1 by_ = true) : StpU P c N o σ [l] (.row l') [(l', .rowd e k f (es ++ news)), (l, .dead)] [l] := by
  intro hdN σ1 g1 g2 g3
  have hs' := g1 s (by simp [ho, Op.operands, Call.operands]) _ hs
  have hx' := g1 x (by simp [ho, Op.operands, Call.operands]) _ hx
  have hl1' := g2 l (by simp) _ hl
  have hne : ¬ l' = l := fun e => by subst e; simp at hll
  have hnew := g3 (l', .rowd e k f (es ++ news)) (by simp) (by simpa using hne)
  refine append_new (T := σ1.T) (O := σ1.O) (news := news) ty ho hdN hs' hl1' hL hnew ?_ hk hb (Nat.le_of_ble_eq_true hb0)
  · intro a w ρ S hc
    have hev := ev_rep hc hx'
    simp only [Rep, RepD] at hev
    obtain ⟨A, n, cc, hxe, hn, _, _, h⟩ := hev
    refine ⟨A, n, cc, hxe, hn, ?_⟩
    by_cases hA : A = none
    · rcases h with h | ⟨b, off, h, _⟩
      · exact .inl ⟨hA, h⟩
      · rw [hA] at h; cases h
    · rcases h with h | ⟨b, off, h, hS, hes⟩
      · obtain ⟨ad, rfl⟩ := Option.ne_none_iff_exists'.1 hA
        have hnil : news = [] := List.eq_nil_of_length_eq_zero (by omega)
        exact .inr ⟨ad, [], rfl, by simp [h], by simp, by simp, by simp [hnil, lift, RepL]⟩
      · have hcs : ∀ {es : List (List D)} {off : Nat}, RepEs w (S f) b k off es → RepCs w (S f) b off es.flatten := by
          intro es
          induction es with
          | nil => intro off _; simp [RepCs]
          | cons e es ih =>
            intro off h
            simp only [RepEs] at h
            have app : ∀ {xs ys : List D} {off : Nat}, RepCs w (S f) b off xs → RepCs w (S f) b (off + xs.length) ys → RepCs w (S f) b off (xs ++ ys) := by
              intro xs
              induction xs with
              | nil => intro ys off _ h; simpa using h
              | cons x xs ih => intro ys off h1 h2; simp only [RepCs, List.cons_append] at h1 ⊢; exact ⟨h1.1, ih h1.2 (by simpa [Nat.add_assoc, Nat.add_comm 1] using h2)⟩
            rw [List.flatten_cons]
            exact app h.1.2 (by rw [h.1.1]; exact ih h.2)
        obtain ⟨us, h2, h3, h4⟩ := repCs_list (ρ := ρ) (U := St.U ⟨σ1.T, σ1.O⟩) (hcs hes)
        have hl2 := h2.length
        have hfl : ∀ {es : List (List D)}, (∀ d ∈ es, d.length = k) → es.flatten.length = es.length * k := by
          intro es
          induction es with
          | nil => intro _; simp
          | cons e es ih => intro h; rw [List.flatten_cons, List.length_append, h e (by simp), ih (fun d hd => h d (by simp [hd])), List.length_cons, Nat.add_mul]; omega
        refine .inr ⟨⟨b, off, none⟩, us, h, ?_, fun j u hu => by rw [add_plain]; exact h4 j u hu, h3, h2⟩
        rw [hl2]; simp only [lift, List.length_map]; rw [hfl hk, hn]


/-- append(row, plain data...). -/
theorem stpU_appendi {s x : Operand} {t e : TypeId} {k by_ l : Nat} {f g : Bool} {es news : List (List D)} (l' : Nat) (ty : TyA P t e k by_)
    (ho : o.op = .call { callee := .builtin .append, args := #[s, x], argTypes := #[t, t] }) (hs : ev σ.T s = some (.row l)) (hl : ok σ.O l = some (.rowd e k f es)) (hx : ev σ.T x = some (.dat g k news)) (him : immDs news = true)
    (hll : Nat.beq l' l = false) (hL : ¬ c.L l) (hk : ∀ d ∈ news, d.length = k) (hb : (es.length + news.length) * by_ ≤ 140737488355328) (hb0 : Nat.ble 1 by_ = true) : StpU P c N o σ [l] (.row l') [(l', .rowd e k f (es ++ news)), (l, .dead)] [l] := by
  intro hdN σ1 g1 g2 g3
  have hs' := g1 s (by simp [ho, Op.operands, Call.operands]) _ hs
  have hx' := g1 x (by simp [ho, Op.operands, Call.operands]) _ hx
  have hl1' := g2 l (by simp) _ hl
  have hne : ¬ l' = l := fun e => by subst e; simp at hll
  have hnew := g3 (l', .rowd e k f (es ++ news)) (by simp) (by simpa using hne)
  refine append_new (T := σ1.T) (O := σ1.O) (news := news) ty ho hdN hs' hl1' hL hnew ?_ hk hb (Nat.le_of_ble_eq_true hb0)
  · intro a w ρ S hc
    rw [lift_immDs (f := f) (g := g) him]
    have hev := ev_rep hc hx'
    simp only [Rep, RepD] at hev
    obtain ⟨A, n, cc, hxe, hn, _, _, h⟩ := hev
    refine ⟨A, n, cc, hxe, hn, ?_⟩
    by_cases hA : A = none
    · rcases h with h | ⟨b, off, h, _⟩
      · exact .inl ⟨hA, h⟩
      · rw [hA] at h; cases h
    · rcases h with h | ⟨b, off, h, hS, hes⟩
      · obtain ⟨ad, rfl⟩ := Option.ne_none_iff_exists'.1 hA
        have hnil : news = [] := List.eq_nil_of_length_eq_zero (by omega)
        exact .inr ⟨ad, [], rfl, by simp [h], by simp, by simp, by simp [hnil, lift, RepL]⟩
      · have hcs : ∀ {es : List (List D)} {off : Nat}, RepEs w (S g) b k off es → RepCs w (S g) b off es.flatten := by
          intro es
          induction es with
          | nil => intro off _; simp [RepCs]
          | cons e es ih =>
            intro off h
            simp only [RepEs] at h
            have app : ∀ {xs ys : List D} {off : Nat}, RepCs w (S g) b off xs → RepCs w (S g) b (off + xs.length) ys → RepCs w (S g) b off (xs ++ ys) := by
              intro xs
              induction xs with
              | nil => intro ys off _ h; simpa using h
              | cons x xs ih => intro ys off h1 h2; simp only [RepCs, List.cons_append] at h1 ⊢; exact ⟨h1.1, ih h1.2 (by simpa [Nat.add_assoc, Nat.add_comm 1] using h2)⟩
            rw [List.flatten_cons]
            exact app h.1.2 (by rw [h.1.1]; exact ih h.2)
        obtain ⟨us, h2, h3, h4⟩ := repCs_list (ρ := ρ) (U := St.U ⟨σ1.T, σ1.O⟩) (hcs hes)
        have hl2 := h2.length
        have hfl : ∀ {es : List (List D)}, (∀ d ∈ es, d.length = k) → es.flatten.length = es.length * k := by
          intro es
          induction es with
          | nil => intro _; simp
          | cons e es ih => intro h; rw [List.flatten_cons, List.length_append, h e (by simp), ih (fun d hd => h d (by simp [hd])), List.length_cons, Nat.add_mul]; omega
        refine .inr ⟨⟨b, off, none⟩, us, h, ?_, fun j u hu => by rw [add_plain]; exact h4 j u hu, h3, h2⟩
        rw [hl2]; simp only [lift, List.length_map]; rw [hfl hk, hn]


/-- Objects by other numbers. -/
theorem sub_rename {T : List (Nat × AV)} {O : List (Nat × Ob)} (x y : Nat) (hx : ¬ c.L x) (hy : ¬ c.L y) : Sub c N ⟨T, O⟩ ⟨rnT (swp x y) T, rnO (swp x y) O⟩ := by
  rintro a w ⟨ρ, S, hc⟩
  have h := Conc.rn (swp_swp x y) hc
  have hLp : ∀ l, c.L l → swp x y l = l := fun l hl => by
    have h1 : ¬ l = x := fun e => hx (e ▸ hl)
    have h2 : ¬ l = y := fun e => hy (e ▸ hl)
    simp only [swp, Nat.beq_eq_false h1, Nat.beq_eq_false h2, cond_false]
  refine ⟨_, S, h.tm, h.df, h.T, h.O, h.dj, h.dS, fun l ob b h1 h2 h3 => ?_, h.lt, h.SS, h.Sb, h.Sn, h.So, fun l hl => ?_, h.fm⟩
  · rcases h.wr l ob b h1 h2 h3 with h4 | ⟨h4, h5⟩
    · exact .inl h4
    · refine .inr ⟨?_, h5⟩
      have := hLp _ h4
      rw [swp_swp] at this
      rw [this]; exact h4
  · have h1 := h.lo l (by rw [show c.L (swp x y l) = c.L l from by rw [hLp l hl]]; exact hl)
    refine ⟨h1.1, ?_⟩
    have := (hc.lo l hl).2
    rw [hLp l hl]; exact this

/-- A call, its result told just so, as a step. -/
theorem stpU_call {x : Operand} {xs : List Operand} {tys : Array TypeId} {g : FuncId} {caps avs args : List AV} {v : AV} {O1 : List (Nat × Ob)} (B : Bool)
    (ho : o.op = .call { callee := .value x, args := xs.toArray, argTypes := tys }) (hen : Enters P g)
    (hx : ev σ.T x = some (.fn g caps)) (hxs : xs.map (ev σ.T) = avs.map some) (hAC : AC P g args [] (fun r O' => r = v ∧ O' = O1)) (hcv : ∀ O', AV.cvs B O' (inD []) (avs ++ caps) = args) (hq : (!B || (v.allQ (fun f => f) && allOQ (fun f => f) O1)) = true) : StpU P c N o σ [] v O1 [] := by
  rintro hdN σ' h1 h2 h3
  have hxs' : xs.map (ev σ'.T) = avs.map some := by
    rw [← hxs]
    refine List.map_congr_left fun y hy => ?_
    have : ∀ u, ev σ.T y = some u → ev σ'.T y = some u := h1 y (by simp [ho, Op.operands, Call.operands, hy])
    have hsome : ∃ u, ev σ.T y = some u := by
      have : ev σ.T y ∈ avs.map some := by rw [← hxs]; exact List.mem_map.2 ⟨y, hy, rfl⟩
      obtain ⟨u, _, hu⟩ := List.mem_map.1 this
      exact ⟨u, hu.symm⟩
    obtain ⟨u, hu⟩ := hsome
    rw [hu, this u hu]
  have hx' : ev σ'.T x = some (.fn g caps) := h1 x (by simp [ho, Op.operands, Call.operands]) _ hx
  refine call_core (T := σ'.T) (O := σ'.O) B ho hdN hen hx' hxs' (hcv σ'.O) PassO.nil hAC ?_ ?_ ?_
  · rintro r O' ⟨_, rfl⟩ l hl
    obtain ⟨p, hp, rfl⟩ := inD_mem hl
    right; simp only [inD, h3 p hp (by simp)]; rfl
  · rintro rfl r O' ⟨rfl, rfl⟩; simpa using hq
  · rintro r O' ⟨rfl, rfl⟩; cases o.dst <;> rfl
end

mutual
/-- v may be told as v'. -/
inductive Le : AV → AV → Prop where
  | refl {v : AV} : Le v v
  | nil {f : Bool} {k : Nat} : Le (.imm (.slice none 0 0)) (.dat f k [])
  | agg {cs ds : List AV} (h : LeL cs ds) : Le (.agg cs) (.agg ds)
inductive LeL : List AV → List AV → Prop where
  | nil : LeL [] []
  | cons {v u : AV} {vs us : List AV} (h : Le v u) (r : LeL vs us) : LeL (v :: vs) (u :: us)
end
theorem LeL.refl : ∀ vs : List AV, LeL vs vs
  | [] => .nil
  | v :: vs => .cons .refl (LeL.refl vs)
theorem LeL.length : ∀ {vs us : List AV}, LeL vs us → vs.length = us.length
  | _, _, .nil => rfl
  | _, _, .cons _ r => by simp [r.length]
mutual
theorem Le.rep {w : World} {ρ : Nat → Value} {S : Bool → Nat → Prop} {U : Nat → Prop} : ∀ {v u : AV}, Le v u → ∀ {x : Value}, Rep w ρ S U v x → Rep w ρ S U u x
  | _, _, .refl, _, h => h
  | _, _, .nil, x, h => by
    simp only [Rep] at h
    subst h
    simp only [Rep, RepD]
    exact ⟨none, 0, 0, rfl, rfl, Nat.le_refl _, Nat.zero_le _, .inl rfl⟩
  | _, _, .agg hl, x, h => by
    simp only [Rep] at h ⊢
    obtain ⟨xs, h1, h2, h3⟩ := h
    exact ⟨xs, h1, h2, hl.rep h3⟩
theorem LeL.rep {w : World} {ρ : Nat → Value} {S : Bool → Nat → Prop} {U : Nat → Prop} : ∀ {vs us : List AV}, LeL vs us → ∀ {xs : List Value}, RepL w ρ S U vs xs → RepL w ρ S U us xs
  | _, _, .nil, _, h => h
  | _, _, .cons hv r, xs, h => by
    simp only [RepL] at h ⊢
    obtain ⟨y, ys, h1, h2, h3⟩ := h
    exact ⟨y, ys, h1, hv.rep h2, r.rep h3⟩
end
theorem LeL.argT : ∀ {vs us : List AV} (_ : LeL vs us) (i t : Nat) (u : AV), lk (argT i us) t = some u → ∃ v, lk (argT i vs) t = some v ∧ Le v u
  | _, _, .nil, i, t, u, h => by simp [Go.Proofs.Ytdecgkhdbfgldaa.argT, lk] at h
  | _, _, .cons (v := v) hv r, i, t, u, h => by
    simp only [Go.Proofs.Ytdecgkhdbfgldaa.argT, lk_cons] at h ⊢
    split at h
    · rename_i e; cases h; rw [if_pos e]; exact ⟨v, rfl, hv⟩
    · rename_i e; rw [if_neg e]; exact r.argT _ _ _ h
theorem AC_le {P : Program} {f : FuncId} {args args' : List AV} {O : List (Nat × Ob)} {Post : AV → List (Nat × Ob) → Prop} (hl : LeL args args') (h : AC P f args' O Post) : AC P f args O Post := by
  intro c w vs ρ S h0 h1 h2 hc
  refine h c w vs ρ S h0 h1 h2 ?_
  rw [← hl.length]
  exact ⟨hc.tm, hc.df, fun t u hu => by
    obtain ⟨v, hv, hle⟩ := hl.argT 0 t u hu
    exact hle.rep (hc.T t v hv), hc.O, hc.dj, hc.dS, hc.wr, hc.lt, hc.SS, hc.Sb, hc.Sn, hc.So, hc.lo, hc.fm⟩
end Go.Proofs.Ytdecgkhdbfgldaa
