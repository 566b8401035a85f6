/- Part 3 of the proof: SymP, SymQ, Dat, Datb, Datc, SymR, SymS, SymT, SymU, SymV, SymX, SymZ. -/
import Derived.Test.YtpgceiijoedppaaGreatB2
import GoSem.ClaimJoined
import Derived.SizedLaws
import Derived.ChangeArms
import Derived.Lib.Overlaps
import Derived.Lib.AppendZerosOnto
import Derived.Lib.SliceRun
set_option linter.unusedVariables false
set_option linter.unusedSimpArgs false
namespace Go.Proofs.YtpgceiijoedppaaGreat
open Go Go.RowKit
def immDs (es : List (List D)) : Bool := es.all fun ds => ds.all fun d => match d with
  | .imm _ => true
  | _ => false
theorem lift_imm {f g : Bool} : ∀ {ds : List D}, (ds.all fun d => match d with | .imm _ => true | _ => false) = true → lift f ds = lift g ds
  | [], _ => rfl
  | d :: ds, h => by
    simp only [List.all_cons, Bool.and_eq_true] at h
    have ih := lift_imm (f := f) (g := g) h.2
    simp only [lift, List.map_cons] at ih ⊢
    rw [ih]
    cases d with
    | imm v => rfl
    | sl k es => have := h.1; cases this
theorem lift_immDs {f g : Bool} {es : List (List D)} (h : immDs es = true) : lift f es.flatten = lift g es.flatten := by
  refine lift_imm ?_
  rw [immDs, List.all_eq_true] at h
  rw [List.all_eq_true]
  intro d hd
  obtain ⟨ds, h1, h2⟩ := List.mem_flatten.1 hd
  exact List.all_eq_true.1 (h ds h1) d h2
section
variable {P : Program} {c : Ctx} {N : Nat} {Q : Exit → St → Prop} {σ : St} {o : Oper}
theorem append_new {s x : Operand} {t e : TypeId} {k by_ l l' : Nat} {f : Bool} {es news : List (List D)} {T : List (Nat × AV)} {O : List (Nat × Ob)} (ty : TyA P t e k by_)
    (ho : o.op = .call { callee := .builtin .append, args := #[s, x], argTypes := #[t, t] }) (hdN : ∀ d, o.dst = some d → d < N)
    (hs : ev T s = some (.row l)) (hl : ok O l = some (.rowd e k f es)) (hL : ¬ c.L l) (hl' : ok O l' = none)
    (hx : ∀ a w ρ S, Conc c N ⟨T, O⟩ a w ρ S → ∃ A n c', a.eval x = .slice A n c' ∧ n = news.length ∧ ((A = none ∧ n = 0) ∨ ∃ ad, ∃ us : List Value, A = some ad ∧ us.length = n * k ∧ (∀ j u, us[j]? = some u → w.cell? (ad.add j) = some u) ∧ (∀ u ∈ us, u.oneCell' = true) ∧ RepL w ρ S (St.U ⟨T, O⟩) (lift f news.flatten) us))
    (hk : ∀ d ∈ news, d.length = k) (hb : (es.length + news.length) * by_ ≤ 140737488355328) (hb0 : 0 < by_) :
    AOp P c N o ⟨T, O⟩ (fun σ2 => σ2 = St.add ⟨T, O⟩ o.dst (.row l') [(l', .rowd e k f (es ++ news)), (l, .dead)]) := by
  rintro a w ⟨ρ, S, hc⟩
  have hev := qaF hc hs
  simp only [Rep] at hev
  obtain ⟨hUl, hse, _⟩ := hev
  obtain ⟨hes, xs, how, h1, hr⟩ := hc.O l _ hl
  obtain ⟨A, n, c', hxe, hn, hsrc⟩ := hx a w ρ S hc
  obtain ⟨i, hi1, hi2, hi3⟩ := qcK ty.s
  obtain ⟨z, hz1, hz2⟩ := ty.z
  obtain ⟨i', hi', hzz⟩ := Option.map_eq_some_iff.1 hz1
  rw [hi2] at hi'; simp only [Option.some.injEq] at hi'; subst hi'
  simp only [Prod.mk.injEq] at hzz
  obtain ⟨hz3, _, hz4⟩ := hzz
  obtain ⟨v', w', us, hrun, how', hgr, hat, hone, hrep, hul⟩ : ∃ v' w', ∃ us : List Value, (Builtin.append_ #[t, t] o.type #[ρ l, .slice A n c']).run P w = .ok v' w' ∧ w'.ownsRow 0 e k v' (es.length + n) (xs ++ us) ∧ w.grownBy w' (ρ l).ownBlock ∧ ((v').ownBlock = (ρ l).ownBlock ∨ v'.ownBlock = some w.heap.size) ∧ (∀ u ∈ us, u.oneCell' = true) ∧ RepL w ρ S (St.U ⟨T, O⟩) (lift f news.flatten) us ∧ us.length = n * k := by
    rcases hsrc with ⟨rfl, rfl⟩ | ⟨ad, us, rfl, h3, h4, h5, h6⟩
    · have hnil : news = [] := List.eq_nil_of_length_eq_zero hn.symm
      obtain ⟨A', cc, hv⟩ := owns_slice how
      refine ⟨ρ l, w, [], ?_, by simpa using how, ⟨rfl, rfl, rfl, Nat.le_refl _, fun _ _ _ => rfl⟩, .inl rfl, by simp, by simp [hnil, lift, RepL], by simp⟩
      rw [hv]
      refine run_append_none t o.type e k ty.s w A' es.length cc c' ?_ (fun a _ => rfl)
      rcases how.2 with ⟨h7, h8⟩ | ⟨g, cap, cur, h7, _, _, h8, _⟩
      · omega
      · rw [hv] at h7; simp only [Value.slice.injEq] at h7; omega
    · have hmax : es.length + n ≤ maxLen := by
        have : es.length + n ≤ (es.length + news.length) * by_ := by rw [hn]; exact Nat.le_mul_of_pos_right _ hb0
        simp only [maxLen]; omega
      obtain ⟨v', w', hr1, hr2, hr3, _, hr5⟩ := run_append_own_at (P := P) w 0 t o.type e i z k by_ hi1 hi2 hz3 hi3 hz4 hz2 ty.k0 (ρ l) es.length xs how ad n c' us h3 h4 h5 hmax (by rw [hn]; exact hb) (Nat.zero_le _)
      exact ⟨v', w', us, hr1, hr2, hr3, hr5, h5, h6, h3⟩
  have hown := owns_own how
  have hown' := owns_own how'
  rw [hown] at hgr hat
  rw [hown'] at hat
  have hf : Far (fun b => blk (ρ l) = some b) w w' := ⟨hgr.os, hgr.tape, hgr.output, hgr.size, fun b hb hne => hgr.block b hb (fun e => hne e.symm), run_drawn _ _ _ _ hrun⟩
  have hll : l ≠ l' := fun e => by subst e; rw [hl] at hl'; cases hl'
  have hokd : ∀ m ob, ok ((l, Ob.dead) :: O) m = some ob → ob.live → ok O m = some ob ∧ m ≠ l := fun m ob hm hv => by
    rw [qa3] at hm
    split at hm
    · cases hm; exact hv.elim
    · rename_i hne; exact ⟨hm, fun e => hne e.symm⟩
  have hUd : ∀ m, St.U ⟨T, O⟩ m → St.U ⟨T, (l, .dead) :: O⟩ m := fun m hm => U_cons m hm
  have hc1 : Conc c N ⟨T, (l, .dead) :: O⟩ a w ρ S := by
    refine ⟨hc.tm, hc.df, fun t v ht => (hc.T t v ht).mono (fun _ _ h => h) (fun _ _ _ => rfl) hUd (fun _ _ => rfl), fun m ob hm => ?_, fun m m' ob ob' b h1 h2 h3 h4 => hc.dj m m' ob ob' b (hokd m ob h1 h3).1 (hokd m' ob' h2 h4).1 h3 h4, fun m ob b f h1 h2 => hc.dS m ob b f (hokd m ob h1 h2).1 h2, fun m ob b h1 h2 => hc.wr m ob b (hokd m ob h1 h2).1 h2, fun m ob b h1 h2 => hc.lt m ob b (hokd m ob h1 h2).1 h2, hc.SS, hc.Sb, hc.Sn, hc.So, fun m hm => ⟨?_, (hc.lo m hm).2⟩, hc.fm⟩
    · by_cases hv : ob.live
      · obtain ⟨h1, h2⟩ := hokd m ob hm hv
        exact (hc.O m ob h1).mono (fun _ _ h => h) (fun _ _ _ => rfl) hUd (fun _ _ => rfl) (by simp [St.U, h1]) (fun _ _ => rfl)
      · cases ob <;> simp [Ob.live] at hv; trivial
    · have := (hc.lo m hm).1
      simp only [qa3]
      split
      · rfl
      · exact this
  have hne : ∀ m ob, ok ((l, Ob.dead) :: O) m = some ob → ob.live → m ≠ l := fun m ob hm hv => (hokd m ob hm hv).2
  have hlock : ¬ c.L l := hL
  have hwr : ∀ b, blk (ρ l) = some b → c.w0.heap.size ≤ b := fun b hb => by
    rcases hc.wr l _ b hl trivial hb with h | h
    · exact h
    · exact absurd h.1 hlock
  have hc2 : Conc c N ⟨T, (l, .dead) :: O⟩ a w' ρ S := hc1.grow hf (fun f b hS e => hc.dS l _ b f hl trivial e hS) (fun m ob b hm hv hb e => hne m ob hm hv (hc.dj m l ob _ b (hokd m ob hm hv).1 hl hv trivial hb e)) (fun b hb e => by have := hwr b e; omega)
  have hsz := hf.size
  have hblk : ∀ b, blk v' = some b → b < w'.heap.size ∧ c.w0.heap.size ≤ b ∧ (∀ f, ¬ S f b) ∧ ∀ m om, ok ((l, Ob.dead) :: O) m = some om → om.live → blk (ρ m) ≠ some b := by
    intro b hb
    have hlt : b < w'.heap.size := by
      obtain ⟨_, _, _, hh, _⟩ := row_cells how' hb
      exact (Array.getElem?_eq_some_iff.1 hh).1
    rcases hat with h | h
    · rw [h] at hb
      exact ⟨hlt, hwr b hb, fun f hS => hc.dS l _ b f hl trivial hb hS, fun m om hm hv e => hne m om hm hv (hc.dj m l om _ b (hokd m om hm hv).1 hl hv trivial e hb)⟩
    · rw [h] at hb; simp only [Option.some.injEq] at hb; subst hb
      have := hc.fm.size
      exact ⟨hlt, this, fun f hS => Nat.lt_irrefl _ (hc.Sb f _ hS), fun m om hm hv e => Nat.lt_irrefl _ (hc.lt m om _ (hokd m om hm hv).1 hv e)⟩
  have hS' : ∀ f b, S f b → w'.heap[b]? = w.heap[b]? := fun f b hb => hf.block b (hc.Sb f b hb) (fun e => hc.dS l _ b f hl trivial e hb)
  have hcells : RepL w' (upd ρ l' v') S (St.U ⟨T, (l', .rowd e k f (es ++ news)) :: (l, .dead) :: O⟩) (lift f (es ++ news).flatten) (xs ++ us) := by
    have h8 : lift f (es ++ news).flatten = lift f es.flatten ++ lift f news.flatten := by simp [lift]
    rw [h8]
    exact (RepL.move (p := fun _ => false) (fun _ _ h => h) hS' (fun _ h => by cases h) _ _ (qbW _ _ _) hr).append (RepL.move (p := fun _ => false) (fun _ _ h => h) hS' (fun _ h => by cases h) _ _ (qbW _ _ _) hrep)
  have hc3 : Conc c N ⟨T, (l', .rowd e k f (es ++ news)) :: (l, .dead) :: O⟩ a w' (upd ρ l' v') S := by
    refine hc2.addOb (by rw [qa3, if_neg hll]; exact hl') hblk ⟨?_, xs ++ us, ?_, ?_, hcells⟩
    · intro d hd
      rcases List.mem_append.1 hd with h | h
      · exact hes d h
      · exact hk d h
    · rw [qb1, List.length_append, ← hn]; exact how'
    · intro y hy
      rcases List.mem_append.1 hy with h | h
      · exact h1 y h
      · exact hone y h
  have hput := hc3.put (dst := o.dst) (v := .row l') (x := v') hdN (by
    simp only [Rep]
    obtain ⟨A', cc, hv⟩ := owns_slice how'
    exact ⟨by simp [St.U, qa3], (qb1 ρ l' v').symm, A', _, cc, hv⟩)
  have hex : (execOp a.eval o).run P w = .ok (.value v') w' := by
    simp only [execOp, ho, resolve]
    simp [Sem.run_bind, invoke, builtin, hse, hxe, hrun]
  unfold Oper.wp
  rw [hex]
  refine ⟨_, ⟨_, _, hput⟩, ?_⟩
  cases o.dst <;> rfl
theorem qa5 {s x : Operand} {t e : TypeId} {k by_ l l2 : Nat} {f : Bool} {es : List (List D)} {cs : List AV} {nd : List D} (l' : Nat) (ty : TyA P t e k by_)
    (ho : o.op = .call { callee := .builtin .append, args := #[s, x], argTypes := #[t, t] }) (hs : ev σ.T s = some (.row l)) (hl : ok σ.O l = some (.rowd e k f es)) (hx : ev σ.T x = some (.row l2)) (hl2 : ok σ.O l2 = some (.row e k cs)) (hcs : toDs f cs = some nd) (hnd : nd.length = k)
    (hll : Nat.beq l' l = false) (hL : ¬ c.L l) (hb : (es.length + 1) * by_ ≤ 140737488355328) (hb0 : Nat.ble 1 by_ = true) : StpU P c N o σ [l, l2] (.row l') [(l', .rowd e k f (es ++ [nd])), (l, .dead)] [l] := by
  intro hdN σ1 g1 g2 g3
  have hs' := g1 s (by simp [ho, Op.operands, Call.operands]) _ hs
  have hx' := g1 x (by simp [ho, Op.operands, Call.operands]) _ hx
  have hl1' := g2 l (by simp) _ hl
  have hl2' := g2 l2 (by simp) _ hl2
  have hne : ¬ l' = l := fun e => by subst e; simp at hll
  have hnew := g3 (l', .rowd e k f (es ++ [nd])) (by simp) (by simpa using hne)
  refine append_new (T := σ1.T) (O := σ1.O) (news := [nd]) ty ho hdN hs' hl1' hL hnew ?_ (by simpa using hnd) (by simpa using hb) (Nat.le_of_ble_eq_true hb0)
  · intro a w ρ S hc
    have hev := qaF hc hx'
    simp only [Rep] at hev
    obtain ⟨hU, hxe, A, n, cc, hsl⟩ := hev
    obtain ⟨m, xs, how, h1, hr⟩ := hc.O l2 _ hl2'
    have hcl := toDs_lift hcs
    have hlen := hr.length
    rw [hcl] at hr hlen
    simp only [lift, List.length_map] at hlen
    have hm : m = 1 := by
      have := how.1
      have hk0 := ty.k0
      rw [hlen, hnd] at this
      have h1m : 1 * k = m * k := by omega
      exact (Nat.eq_of_mul_eq_mul_right hk0 h1m).symm
    subst hm
    rcases how.2 with ⟨_, h⟩ | ⟨g, cap, cur, hv, _⟩
    · omega
    · refine ⟨some ⟨g, 0, none⟩, 1, cap, by rw [hxe, hv], rfl, .inr ⟨⟨g, 0, none⟩, xs, rfl, by rw [hlen, hnd]; omega, fun j u hu => ?_, h1, by simpa using hr⟩⟩
      rw [qcH, Nat.zero_add]
      exact qcq how (by rw [hv]; rfl) j u hu
theorem qdM {s x : Operand} {t e : TypeId} {k by_ l : Nat} {f : Bool} {es news : List (List D)} (l' : Nat) (ty : TyA P t e k by_)
    (ho : o.op = .call { callee := .builtin .append, args := #[s, x], argTypes := #[t, t] }) (hs : ev σ.T s = some (.row l)) (hl : ok σ.O l = some (.rowd e k f es)) (hx : ev σ.T x = some (.dat f k news))
    (hll : Nat.beq l' l = false) (hL : ¬ c.L l) (hk : ∀ d ∈ news, d.length = k) (hb : (es.length + news.length) * by_ ≤ 140737488355328) (hb0 : Nat.ble 1 by_ = true) : StpU P c N o σ [l] (.row l') [(l', .rowd e k f (es ++ news)), (l, .dead)] [l] := by
  intro hdN σ1 g1 g2 g3
  have hs' := g1 s (by simp [ho, Op.operands, Call.operands]) _ hs
  have hx' := g1 x (by simp [ho, Op.operands, Call.operands]) _ hx
  have hl1' := g2 l (by simp) _ hl
  have hne : ¬ l' = l := fun e => by subst e; simp at hll
  have hnew := g3 (l', .rowd e k f (es ++ news)) (by simp) (by simpa using hne)
  refine append_new (T := σ1.T) (O := σ1.O) (news := news) ty ho hdN hs' hl1' hL hnew ?_ hk hb (Nat.le_of_ble_eq_true hb0)
  · intro a w ρ S hc
    have hev := qaF hc hx'
    simp only [Rep, RepD] at hev
    obtain ⟨A, n, cc, hxe, hn, _, _, h⟩ := hev
    refine ⟨A, n, cc, hxe, hn, ?_⟩
    by_cases hA : A = none
    · rcases h with h | ⟨b, off, h, _⟩
      · exact .inl ⟨hA, h⟩
      · rw [hA] at h; cases h
    · rcases h with h | ⟨b, off, h, hS, _, hes⟩
      · obtain ⟨ad, rfl⟩ := Option.ne_none_iff_exists'.1 hA
        have hnil : news = [] := List.eq_nil_of_length_eq_zero (by omega)
        exact .inr ⟨ad, [], rfl, by simp [h], by simp, by simp, by simp [hnil, lift, RepL]⟩
      · have hcs : ∀ {es : List (List D)} {off : Nat}, qch w f (S f) b k off es → qbE w f (S f) b off es.flatten := by
          intro es
          induction es with
          | nil => intro off _; simp [qbE]
          | cons e es ih =>
            intro off h
            simp only [qch] at h
            have app : ∀ {xs ys : List D} {off : Nat}, qbE w f (S f) b off xs → qbE w f (S f) b (off + xs.length) ys → qbE w f (S f) b off (xs ++ ys) := by
              intro xs
              induction xs with
              | nil => intro ys off _ h; simpa using h
              | cons x xs ih => intro ys off h1 h2; simp only [qbE, List.cons_append] at h1 ⊢; exact ⟨h1.1, ih h1.2 (by simpa [Nat.add_assoc, Nat.add_comm 1] using h2)⟩
            rw [List.flatten_cons]
            exact app h.1.2 (by rw [h.1.1]; exact ih h.2)
        obtain ⟨us, h2, h3, h4⟩ := repCs_list (ρ := ρ) (U := St.U ⟨σ1.T, σ1.O⟩) (hcs hes)
        have hl2 := h2.length
        have hfl : ∀ {es : List (List D)}, (∀ d ∈ es, d.length = k) → es.flatten.length = es.length * k := by
          intro es
          induction es with
          | nil => intro _; simp
          | cons e es ih => intro h; rw [List.flatten_cons, List.length_append, h e (by simp), ih (fun d hd => h d (by simp [hd])), List.length_cons, Nat.add_mul]; omega
        refine .inr ⟨⟨b, off, none⟩, us, h, ?_, fun j u hu => by rw [qcH]; exact h4 j u hu, h3, h2⟩
        rw [hl2]; simp only [lift, List.length_map]; rw [hfl hk, hn]
theorem stpU_appendi {s x : Operand} {t e : TypeId} {k by_ l : Nat} {f g : Bool} {es news : List (List D)} (l' : Nat) (ty : TyA P t e k by_)
    (ho : o.op = .call { callee := .builtin .append, args := #[s, x], argTypes := #[t, t] }) (hs : ev σ.T s = some (.row l)) (hl : ok σ.O l = some (.rowd e k f es)) (hx : ev σ.T x = some (.dat g k news)) (him : immDs news = true)
    (hll : Nat.beq l' l = false) (hL : ¬ c.L l) (hk : ∀ d ∈ news, d.length = k) (hb : (es.length + news.length) * by_ ≤ 140737488355328) (hb0 : Nat.ble 1 by_ = true) : StpU P c N o σ [l] (.row l') [(l', .rowd e k f (es ++ news)), (l, .dead)] [l] := by
  intro hdN σ1 g1 g2 g3
  have hs' := g1 s (by simp [ho, Op.operands, Call.operands]) _ hs
  have hx' := g1 x (by simp [ho, Op.operands, Call.operands]) _ hx
  have hl1' := g2 l (by simp) _ hl
  have hne : ¬ l' = l := fun e => by subst e; simp at hll
  have hnew := g3 (l', .rowd e k f (es ++ news)) (by simp) (by simpa using hne)
  refine append_new (T := σ1.T) (O := σ1.O) (news := news) ty ho hdN hs' hl1' hL hnew ?_ hk hb (Nat.le_of_ble_eq_true hb0)
  · intro a w ρ S hc
    rw [lift_immDs (f := f) (g := g) him]
    have hev := qaF hc hx'
    simp only [Rep, RepD] at hev
    obtain ⟨A, n, cc, hxe, hn, _, _, h⟩ := hev
    refine ⟨A, n, cc, hxe, hn, ?_⟩
    by_cases hA : A = none
    · rcases h with h | ⟨b, off, h, _⟩
      · exact .inl ⟨hA, h⟩
      · rw [hA] at h; cases h
    · rcases h with h | ⟨b, off, h, hS, _, hes⟩
      · obtain ⟨ad, rfl⟩ := Option.ne_none_iff_exists'.1 hA
        have hnil : news = [] := List.eq_nil_of_length_eq_zero (by omega)
        exact .inr ⟨ad, [], rfl, by simp [h], by simp, by simp, by simp [hnil, lift, RepL]⟩
      · have hcs : ∀ {es : List (List D)} {off : Nat}, qch w g (S g) b k off es → qbE w g (S g) b off es.flatten := by
          intro es
          induction es with
          | nil => intro off _; simp [qbE]
          | cons e es ih =>
            intro off h
            simp only [qch] at h
            have app : ∀ {xs ys : List D} {off : Nat}, qbE w g (S g) b off xs → qbE w g (S g) b (off + xs.length) ys → qbE w g (S g) b off (xs ++ ys) := by
              intro xs
              induction xs with
              | nil => intro ys off _ h; simpa using h
              | cons x xs ih => intro ys off h1 h2; simp only [qbE, List.cons_append] at h1 ⊢; exact ⟨h1.1, ih h1.2 (by simpa [Nat.add_assoc, Nat.add_comm 1] using h2)⟩
            rw [List.flatten_cons]
            exact app h.1.2 (by rw [h.1.1]; exact ih h.2)
        obtain ⟨us, h2, h3, h4⟩ := repCs_list (ρ := ρ) (U := St.U ⟨σ1.T, σ1.O⟩) (hcs hes)
        have hl2 := h2.length
        have hfl : ∀ {es : List (List D)}, (∀ d ∈ es, d.length = k) → es.flatten.length = es.length * k := by
          intro es
          induction es with
          | nil => intro _; simp
          | cons e es ih => intro h; rw [List.flatten_cons, List.length_append, h e (by simp), ih (fun d hd => h d (by simp [hd])), List.length_cons, Nat.add_mul]; omega
        refine .inr ⟨⟨b, off, none⟩, us, h, ?_, fun j u hu => by rw [qcH]; exact h4 j u hu, h3, h2⟩
        rw [hl2]; simp only [lift, List.length_map]; rw [hfl hk, hn]
theorem qaC {T : List (Nat × AV)} {O : List (Nat × Ob)} (x y : Nat) (hx : ¬ c.L x) (hy : ¬ c.L y) : Sub c N ⟨T, O⟩ ⟨rnT (swp x y) T, rnO (swp x y) O⟩ := by
  rintro a w ⟨ρ, S, hc⟩
  have h := Conc.rn (swp_swp x y) hc
  have hLp : ∀ l, c.L l → swp x y l = l := fun l hl => by
    have h1 : ¬ l = x := fun e => hx (e ▸ hl)
    have h2 : ¬ l = y := fun e => hy (e ▸ hl)
    simp only [swp, Nat.beq_eq_false h1, Nat.beq_eq_false h2, cond_false]
  refine ⟨_, S, h.tm, h.df, h.T, h.O, h.dj, h.dS, fun l ob b h1 h2 h3 => ?_, h.lt, h.SS, h.Sb, h.Sn, h.So, fun l hl => ?_, hc.fm⟩
  · rcases h.wr l ob b h1 h2 h3 with h4 | ⟨h4, h5⟩
    · exact .inl h4
    · refine .inr ⟨?_, h5⟩
      have := hLp _ h4
      rw [swp_swp] at this
      rw [this]; exact h4
  · have h1 := h.lo l (by rw [show c.L (swp x y l) = c.L l from by rw [hLp l hl]]; exact hl)
    refine ⟨h1.1, ?_⟩
    have := (hc.lo l hl).2
    rw [hLp l hl]; exact this
theorem qcD {m : Bool} [DOk m c] {x : Operand} {xs : List Operand} {tys : Array TypeId} {g : FuncId} {caps avs args : List AV} {v : AV} {O1 : List (Nat × Ob)} (B : Bool)
    (ho : o.op = .call { callee := .value x, args := xs.toArray, argTypes := tys }) (hen : qW P g)
    (hx : ev σ.T x = some (.fn g caps)) (hxs : xs.map (ev σ.T) = avs.map some) (hAC : ACx m P g args [] (fun r O' => r = v ∧ O' = O1)) (hcv : ∀ O', AV.cvs B O' (inD []) (avs ++ caps) = args) (hq : (!B || (v.allQ (fun f => f) && allOQ (fun f => f) O1)) = true) : StpU P c N o σ [] v O1 [] := by
  rintro hdN σ' h1 h2 h3
  have hxs' : xs.map (ev σ'.T) = avs.map some := by
    rw [← hxs]
    refine List.map_congr_left fun y hy => ?_
    have : ∀ u, ev σ.T y = some u → ev σ'.T y = some u := h1 y (by simp [ho, Op.operands, Call.operands, hy])
    have hsome : ∃ u, ev σ.T y = some u := by
      have : ev σ.T y ∈ avs.map some := by rw [← hxs]; exact List.mem_map.2 ⟨y, hy, rfl⟩
      obtain ⟨u, _, hu⟩ := List.mem_map.1 this
      exact ⟨u, hu.symm⟩
    obtain ⟨u, hu⟩ := hsome
    rw [hu, this u hu]
  have hx' : ev σ'.T x = some (.fn g caps) := h1 x (by simp [ho, Op.operands, Call.operands]) _ hx
  refine call_core (T := σ'.T) (O := σ'.O) B ho hdN hen hx' hxs' (hcv σ'.O) PassO.nil hAC ?_ ?_ ?_
  · rintro r O' ⟨_, rfl⟩ l hl
    obtain ⟨p, hp, rfl⟩ := inD_mem hl
    right; simp only [inD, h3 p hp (by simp)]; rfl
  · rintro rfl r O' ⟨rfl, rfl⟩; simpa using hq
  · rintro r O' ⟨rfl, rfl⟩; cases o.dst <;> rfl
end
mutual
/-- v may be told az v'. -/
inductive Le : AV → AV → Prop where
  | refl {v : AV} : Le v v
  | nil {f : Bool} {k : Nat} : Le (.imm (.slice none 0 0)) (.dat f k [])
  | agg {cs ds : List AV} (h : LeL cs ds) : Le (.agg cs) (.agg ds)
  | tup {cs ds : List AV} (h : LeL cs ds) : Le (.tup cs) (.tup ds)
inductive LeL : List AV → List AV → Prop where
  | nil : LeL [] []
  | cons {v u : AV} {vs us : List AV} (h : Le v u) (r : LeL vs us) : LeL (v :: vs) (u :: us)
end
theorem LeL.refl : ∀ vs : List AV, LeL vs vs
  | [] => .nil
  | v :: vs => .cons .refl (LeL.refl vs)
theorem LeL.length : ∀ {vs us : List AV}, LeL vs us → vs.length = us.length
  | _, _, .nil => rfl
  | _, _, .cons _ r => by simp [r.length]
mutual
theorem Le.rep {w : World} {ρ : Nat → Value} {S : Bool → Nat → Prop} {U : Nat → Prop} : ∀ {v u : AV}, Le v u → ∀ {x : Value}, Rep w ρ S U v x → Rep w ρ S U u x
  | _, _, .refl, _, h => h
  | _, _, .nil, x, h => by
    simp only [Rep] at h
    subst h
    simp only [Rep, RepD]
    exact ⟨none, 0, 0, rfl, rfl, Nat.le_refl _, Nat.zero_le _, .inl rfl⟩
  | _, _, .agg hl, x, h => by
    simp only [Rep] at h ⊢
    obtain ⟨xs, h1, h2, h3⟩ := h
    exact ⟨xs, h1, h2, hl.rep h3⟩
  | _, _, .tup hl, x, h => by
    simp only [Rep] at h ⊢
    obtain ⟨xs, h1, h3⟩ := h
    exact ⟨xs, h1, hl.rep h3⟩
theorem LeL.rep {w : World} {ρ : Nat → Value} {S : Bool → Nat → Prop} {U : Nat → Prop} : ∀ {vs us : List AV}, LeL vs us → ∀ {xs : List Value}, RepL w ρ S U vs xs → RepL w ρ S U us xs
  | _, _, .nil, _, h => h
  | _, _, .cons hv r, xs, h => by
    simp only [RepL] at h ⊢
    obtain ⟨y, ys, h1, h2, h3⟩ := h
    exact ⟨y, ys, h1, hv.rep h2, r.rep h3⟩
end
theorem LeL.argT : ∀ {vs us : List AV} (_ : LeL vs us) (i t : Nat) (u : AV), lk (argT i us) t = some u → ∃ v, lk (argT i vs) t = some v ∧ Le v u
  | _, _, .nil, i, t, u, h => by simp [Go.Proofs.YtpgceiijoedppaaGreat.argT, lk] at h
  | _, _, .cons (v := v) hv r, i, t, u, h => by
    simp only [Go.Proofs.YtpgceiijoedppaaGreat.argT, qcd] at h ⊢
    split at h
    · rename_i e; cases h; rw [if_pos e]; exact ⟨v, rfl, hv⟩
    · rename_i e; rw [if_neg e]; exact r.argT _ _ _ h
theorem AC_le {m : Bool} {P : Program} {f : FuncId} {args args' : List AV} {O : List (Nat × Ob)} {Post : AV → List (Nat × Ob) → Prop} (hl : LeL args args') (h : ACx m P f args' O Post) : ACx m P f args O Post := by
  intro c w vs ρ S h0 h1 h2 hD hc
  refine h c w vs ρ S h0 h1 h2 hD ?_
  rw [← hl.length]
  exact ⟨hc.tm, hc.df, fun t u hu => by
    obtain ⟨v, hv, hle⟩ := hl.argT 0 t u hu
    exact hle.rep (hc.T t v hv), hc.O, hc.dj, hc.dS, hc.wr, hc.lt, hc.SS, hc.Sb, hc.Sn, hc.So, hc.lo, hc.fm⟩
theorem AC_leR {m : Bool} {P : Program} {f : FuncId} {args : List AV} {O O1 : List (Nat × Ob)} {v v' : AV} (hl : Le v v') (h : ACx m P f args O (fun r O' => r = v ∧ O' = O1)) : ACx m P f args O (fun r O' => r = v' ∧ O' = O1) := by
  intro c w vs ρ S h0 h1 h2 hD hc
  refine (h c w vs ρ S h0 h1 h2 hD hc).mono ?_
  rintro e w' ⟨x, r, O', he, ⟨rfl, rfl⟩, ρ', S', k⟩
  refine ⟨x, v', _, he, ⟨rfl, rfl⟩, ρ', S', k.tm, k.df, fun t u hu => ?_, k.O, k.dj, k.dS, k.wr, k.lt, k.SS, k.Sb, k.Sn, k.So, k.lo, k.fm⟩
  simp only [qcd] at hu
  split at hu
  · rename_i e; subst e; cases hu
    exact hl.rep (k.T 0 _ rfl)
  · simp [lk] at hu
theorem AC_leP {m : Bool} {P : Program} {f : FuncId} {args : List AV} {O : List (Nat × Ob)} {Post Post' : AV → List (Nat × Ob) → Prop} (h : ACx m P f args O Post) (hp : ∀ r O', Post r O' → ∃ r', Le r r' ∧ Post' r' O') : ACx m P f args O Post' := by
  intro c w vs ρ S h0 h1 h2 hD hc
  refine (h c w vs ρ S h0 h1 h2 hD hc).mono ?_
  rintro e w' ⟨x, r, O', he, hP, ρ', S', k⟩
  obtain ⟨r', hl, hP'⟩ := hp r O' hP
  refine ⟨x, r', _, he, hP', ρ', S', k.tm, k.df, fun t u hu => ?_, k.O, k.dj, k.dS, k.wr, k.lt, k.SS, k.Sb, k.Sn, k.So, k.lo, k.fm⟩
  simp only [qcd] at hu
  split at hu
  · rename_i e; subst e; cases hu
    exact hl.rep (k.T 0 _ rfl)
  · simp [lk] at hu
end Go.Proofs.YtpgceiijoedppaaGreat

namespace Go.Proofs.YtpgceiijoedppaaGreat
open Go
theorem mapM_get' {α β : Type} {f : α → Option β} : ∀ {l : List α} {r : List β}, l.mapM f = some r → r.length = l.length ∧ ∀ (i : Nat) (x : α), l[i]? = some x → f x = r[i]?
  | [], r, h => by simp at h; subst h; simp
  | a :: l, r, h => by
    simp only [List.mapM_cons, Option.bind_eq_bind, Option.bind_eq_some_iff, Option.pure_def, Option.some.injEq] at h
    obtain ⟨b, hb, bs, hbs, rfl⟩ := h
    obtain ⟨h1, h2⟩ := mapM_get' hbs
    refine ⟨by simp [h1], fun i x hx => ?_⟩
    cases i with
    | zero => simp only [List.getElem?_cons_zero, Option.some.injEq] at hx; subst hx; simpa using hb
    | succ i => simpa using h2 i x (by simpa using hx)
def qdy (w : World) (S : Nat → Prop) : List D → List Value → Prop
  | [], vs => vs = []
  | d :: ds, vs => ∃ v us, vs = v :: us ∧ v.oneCell' = true ∧ RepD w false S d v ∧ qdy w S ds us
theorem qdy.length {w : World} {S : Nat → Prop} : ∀ {ds : List D} {vs : List Value}, qdy w S ds vs → vs.length = ds.length
  | [], vs, h => by simp only [qdy] at h; simp [h]
  | d :: ds, vs, h => by
    simp only [qdy] at h
    obtain ⟨v, us, rfl, _, _, h⟩ := h
    simp [qdy.length h]
theorem qdy.append {w : World} {S : Nat → Prop} : ∀ {ds es : List D} {vs us : List Value}, qdy w S ds vs → qdy w S es us → qdy w S (ds ++ es) (vs ++ us)
  | [], es, vs, us, h, k => by simp only [qdy] at h; simpa [h] using k
  | d :: ds, es, vs, us, h, k => by
    simp only [qdy] at h
    obtain ⟨v, xs, rfl, h1, h2, h3⟩ := h
    simp only [List.cons_append, qdy]
    exact ⟨v, xs ++ us, rfl, h1, h2, qdy.append h3 k⟩
theorem qdy.cs {w : World} {S : Nat → Prop} {b : Nat} : ∀ {ds : List D} {vs : List Value} {off : Nat}, qdy w S ds vs → (∀ (i : Nat) (v : Value), vs[i]? = some v → w.cell? ⟨b, off + i, none⟩ = some v) → qbE w false S b off ds
  | [], vs, off, _, _ => by simp [qbE]
  | d :: ds, vs, off, h, k => by
    simp only [qdy] at h
    obtain ⟨v, us, rfl, h1, h2, h3⟩ := h
    simp only [qbE]
    exact ⟨⟨v, by simpa using k 0 v rfl, h1, h2⟩, qdy.cs h3 fun i u hu => by have := k (i + 1) u (by simpa using hu); rwa [show off + (i + 1) = off + 1 + i by omega] at this⟩
theorem qdy.rep {w : World} {ρ : Nat → Value} {S : Bool → Nat → Prop} {U : Nat → Prop} : ∀ {ds : List D} {vs : List Value}, qdy w (S false) ds vs → RepL w ρ S U (lift false ds) vs ∧ ∀ y ∈ vs, y.oneCell' = true
  | [], vs, h => by simp only [qdy] at h; subst h; simp [lift, RepL]
  | d :: ds, vs, h => by
    simp only [qdy] at h
    obtain ⟨v, us, rfl, h1, h2, h3⟩ := h
    obtain ⟨h4, h5⟩ := qdy.rep (ρ := ρ) (U := U) h3
    refine ⟨?_, fun y hy => ?_⟩
    · simp only [lift, List.map_cons, RepL]
      refine ⟨v, us, rfl, ?_, h4⟩
      cases d with
      | imm x => simpa [D.av, Rep, RepD] using h2
      | sl k es => simpa only [D.av, Rep] using h2
    · rcases List.mem_cons.1 hy with rfl | hy
      · exact h1
      · exact h5 y hy
abbrev Here (w : World) : Nat → Prop := fun b => b < w.heap.size
section
variable (P : Program) (w : World)
structure Rdr {X : Type} (n : Nat) (t : TypeId) (k : Nat) (toD : X → List D) (wf : X → Prop) : Prop where
  len : ∀ x, (toD x).length = k
  rd : ∀ (H : Type) (enc : TypeId × Value → H) (cs : List Value) (d : DataW H) (ps : List MemPlace), DataW.trod enc P w 0 (fun _ => true) true n t cs = some (d, ps) → (d.weights P t).all (· ≤ reachBytes) = true → ∃ x, wf x ∧ qdy w (Here w) (toD x) cs
end
section
variable {P : Program} {w : World}
theorem Rdr.zero {X : Type} {t : TypeId} {k : Nat} {toD : X → List D} {wf : X → Prop} (h : ∀ x, (toD x).length = k) : Rdr P w 0 t k toD wf := ⟨h, fun H enc cs d ps e => by simp [DataW.trod] at e⟩
theorem Rdr.mono {X : Type} {n : Nat} {t : TypeId} {k : Nat} {toD : X → List D} {wf wf' : X → Prop} (h : Rdr P w n t k toD wf) (hw : ∀ x, wf x → wf' x) : Rdr P w n t k toD wf' :=
  ⟨h.len, fun H enc cs d ps e hz => by obtain ⟨x, h1, h2⟩ := h.rd H enc cs d ps e hz; exact ⟨x, hw x h1, h2⟩⟩
theorem Rdr.int {n : Nat} {t : TypeId} (ht : P.underlying t = some (.int .i64)) : Rdr P w n t 1 (fun x : Int => [.imm (.int .i64 x)]) (fun x => -9223372036854775808 ≤ x ∧ x ≤ 9223372036854775807) := by
  refine ⟨fun _ => rfl, fun H enc cs d ps e hz => ?_⟩
  obtain ⟨m, rfl, _, h3⟩ := DataW.trod_int ht e
  simp only [Lit.wf, Bool.and_eq_true, decide_eq_true_eq] at h3
  refine ⟨m, h3, ?_⟩
  simp only [qdy, RepD]; exact ⟨_, _, rfl, rfl, rfl, rfl⟩
theorem Rdr.str {n : Nat} {t : TypeId} (ht : P.underlying t = some .string) : Rdr P w n t 1 (fun x : ByteArray => [.imm (.string x)]) (fun x => x.size ≤ 140737488351232) := by
  refine ⟨fun _ => rfl, fun H enc cs d ps e hz => ?_⟩
  obtain ⟨s, rfl, h2, h3⟩ := DataW.trod_string ht e
  simp only [Prod.mk.injEq] at h2
  obtain ⟨rfl, rfl⟩ := h2
  refine ⟨s, ?_, ?_⟩
  · have h4 := of_decide_eq_true (List.all_eq_true.1 hz s.data.toList.length (by simp [DataW.weights]))
    rw [Array.length_toList] at h4; exact h4
  · simp only [qdy, RepD]; exact ⟨_, _, rfl, rfl, rfl, rfl⟩
theorem list_choose {X : Type} {Q : Nat → X → Prop} : ∀ (n : Nat), (∀ i, i < n → ∃ x, Q i x) → ∃ l : List X, l.length = n ∧ ∀ (i : Nat) (x : X), l[i]? = some x → Q i x
  | 0, _ => ⟨[], rfl, fun i x h => by simp at h⟩
  | n + 1, h => by
    obtain ⟨l, h1, h2⟩ := list_choose (X := X) (Q := Q) n fun i hi => h i (by omega)
    obtain ⟨x, hx⟩ := h n (by omega)
    refine ⟨l ++ [x], by simp [h1], fun i y hy => ?_⟩
    rw [List.getElem?_append] at hy
    split at hy
    · exact h2 i y hy
    · have : i = n := by
        by_cases hi : i - l.length = 0
        · omega
        · rw [List.getElem?_eq_none (by simp; omega)] at hy; cases hy
      subst this
      rw [show i - l.length = 0 by omega] at hy
      simp only [List.getElem?_cons_zero, Option.some.injEq] at hy
      subst hy; exact hx
theorem qch.of {S : Nat → Prop} {b k : Nat} : ∀ {es : List (List D)} {off : Nat}, (∀ (i : Nat) (ds : List D), es[i]? = some ds → ds.length = k ∧ qbE w false S b (off + i * k) ds) → qch w false S b k off es
  | [], off, _ => by simp [qch]
  | e :: es, off, h => by
    simp only [qch]
    refine ⟨by simpa using h 0 e rfl, qch.of fun i ds hd => ?_⟩
    have := h (i + 1) ds (by simpa using hd)
    rwa [show off + (i + 1) * k = off + k + i * k by rw [Nat.succ_mul]; omega] at this
theorem cells_get {a : Addr} {n : Nat} {cs : List Value} (h : w.cells? 0 a n = some cs) : cs.length = n ∧ ∀ j, j < n → w.cell? (a.add j) = cs[j]? := by
  unfold World.cells? at h
  rw [if_pos (Nat.zero_le _)] at h
  obtain ⟨h1, h2⟩ := mapM_get' h
  refine ⟨by simpa using h1, fun j hj => h2 j j (by simp [hj])⟩
theorem weightsAll_get {H : Type} {e : TypeId} : ∀ {l : List (DataW H)}, (DataW.weightsAll P e l).all (· ≤ reachBytes) = true → ∀ {i : Nat} {d : DataW H}, l[i]? = some d → (d.weights P e).all (· ≤ reachBytes) = true
  | [], _, i, d, h => by simp at h
  | x :: l, hz, i, d, h => by
    simp only [DataW.weightsAll, List.all_append, Bool.and_eq_true] at hz
    cases i with
    | zero => simp only [List.getElem?_cons_zero, Option.some.injEq] at h; subst h; exact hz.1
    | succ i => exact weightsAll_get hz.2 (by simpa using h)
theorem Rdr.slice {X : Type} {n k : Nat} {t e : TypeId} {toD : X → List D} {wf : X → Prop} (ht : slB P t e k = true) (hk : 0 < k) (he : ∀ m, m < n → Rdr P w m e k toD wf) : Rdr P w n t 1 (fun l : List X => [.sl k (l.map toD)]) (fun l => l.length * P.bytesOf e ≤ 140737488351232 ∧ ∀ x ∈ l, wf x) := by
  refine ⟨fun _ => rfl, fun H enc cs d ps h hz => ?_⟩
  obtain ⟨inf, hu, hi, hs⟩ := qcK ht
  have hcell : P.cellsOf e = k := by unfold Program.cellsOf; rw [hi]; exact hs
  rcases DataW.trod_slice hu h with ⟨rfl, h2⟩ | ⟨a, len, cap, elems, rest, m, rfl, rfl, h2, _, hlc, hcm, hel, helems, _⟩
  · refine ⟨[], ⟨by simp, by simp⟩, ?_⟩
    simp only [qdy, RepD, List.map_nil]
    exact ⟨_, _, rfl, rfl, ⟨none, 0, 0, rfl, rfl, Nat.le_refl _, Nat.zero_le _, .inl rfl⟩, rfl⟩
  · rw [hcell] at helems
    simp only [Prod.mk.injEq] at h2
    obtain ⟨rfl, _⟩ := h2
    simp only [DataW.weights, hu, List.all_cons, List.all_append, Bool.and_eq_true, decide_eq_true_eq, List.length_map] at hz
    obtain ⟨hz1, hz2, _⟩ := hz
    obtain ⟨l, hl, hQ⟩ := list_choose (X := X) (Q := fun i x => wf x ∧ ∃ cs, w.cells? 0 (a.add (i * k)) k = some cs ∧ qdy w (Here w) (toD x) cs) len fun i hi => by
      have h3 := helems i hi
      have h4 : elems[i]? = some (elems[i]'(by omega)) := by simp [show i < elems.length by omega]
      rw [h4] at h3
      obtain ⟨csi, h5, h6⟩ := Option.bind_eq_some_iff.1 h3
      obtain ⟨x, h7, h8⟩ := (he m (by omega)).rd H enc csi _ _ h6 (weightsAll_get hz2 (i := i) (by rw [List.getElem?_map, h4]; rfl))
      exact ⟨x, h7, csi, h5, h8⟩
    refine ⟨l, ⟨?_, fun x hx => ?_⟩, ?_⟩
    · have : l.length * P.bytesOf e ≤ (elems.length + rest.length) * P.bytesOf e := Nat.mul_le_mul_right _ (by omega)
      simp only [reachBytes] at hz1; omega
    · obtain ⟨i, hi⟩ := List.getElem?_of_mem hx
      exact (hQ i x hi).1
    · simp only [qdy, RepD]
      refine ⟨_, _, rfl, rfl, ⟨some a, len, cap, rfl, by simp [hl], hlc, hcm, ?_⟩, rfl⟩
      by_cases h0 : len = 0
      · exact .inl h0
      · right
        have hx0 : l[0]? = some (l[0]'(by omega)) := by simp [show 0 < l.length by omega]
        obtain ⟨_, cs0, h3, _⟩ := hQ 0 _ hx0
        obtain ⟨_, h5⟩ := cells_get h3
        have h6 := h5 0 hk
        have e1 : (a.add (0 * k)).add 0 = a := by simp [Addr.add]
        rw [e1] at h6
        have hlen0 := (cells_get h3).1
        have h7 : cs0[0]? = some (cs0[0]'(by omega)) := by simp [show 0 < cs0.length by omega]
        rw [h7] at h6
        have hsp : a.spot = none ∧ a.block < w.heap.size := by
          unfold World.cell? at h6
          split at h6
          · rename_i c ty fr hb
            refine ⟨?_, (Array.getElem?_eq_some_iff.1 hb).1⟩
            split at h6
            · cases h6
            · rename_i hh; simpa using hh
          · cases h6
        obtain ⟨ab, ao, as_⟩ := a
        simp only at hsp
        obtain ⟨rfl, hlt⟩ := hsp
        refine ⟨ab, ao, rfl, hlt, fun h => (by cases h), qch.of fun i ds hds => ?_⟩
        rw [List.getElem?_map] at hds
        obtain ⟨x, hx, rfl⟩ := Option.map_eq_some_iff.1 hds
        obtain ⟨_, csi, h8, h9⟩ := hQ i x hx
        obtain ⟨h10, h11⟩ := cells_get h8
        have hlx : (toD x).length = k := by rw [← h9.length]; exact h10
        refine ⟨hlx, h9.cs fun j v hv => ?_⟩
        have hj : j < k := by have := (List.getElem?_eq_some_iff.1 hv).1; omega
        have := h11 j hj
        rw [qcH, qcH] at this
        rw [this]; exact hv
structure RdrF {X : Type} (P : Program) (w : World) (n : Nat) (off : Nat) (fs : List (TypeId × Nat × Nat)) (total : Nat) (toD : X → List D) (wf : X → Prop) : Prop where
  len : ∀ x, (toD x).length = total
  rd : ∀ (H : Type) (enc : TypeId × Value → H) (cs : List Value) (xs : List (DataW H × List MemPlace)), xs.length = fs.length → (∀ (i : Nat) (f : TypeId × Nat × Nat), fs[i]? = some f → DataW.trod enc P w 0 (fun _ => true) true n f.1 ((cs.drop f.2.1).take f.2.2) = xs[i]?) → (DataW.weightsEach P (fs.map (·.1)) (xs.map (·.1))).all (· ≤ reachBytes) = true → ∃ x, wf x ∧ qdy w (Here w) (toD x) ((cs.drop off).take total)
theorem RdrF.nil {n off : Nat} : RdrF P w n off [] 0 (fun _ : Unit => []) (fun _ => True) :=
  ⟨fun _ => rfl, fun H enc cs xs _ _ _ => ⟨(), trivial, by simp [qdy]⟩⟩
theorem RdrF.cons {X Y : Type} {n off k r : Nat} {t : TypeId} {fs : List (TypeId × Nat × Nat)} {toD : X → List D} {wf : X → Prop} {toE : Y → List D} {wg : Y → Prop} (h : Rdr P w n t k toD wf) (hr : RdrF P w n (off + k) fs r toE wg) : RdrF P w n off ((t, off, k) :: fs) (k + r) (fun p : X × Y => toD p.1 ++ toE p.2) (fun p => wf p.1 ∧ wg p.2) := by
  refine ⟨fun p => by simp [h.len, hr.len], fun H enc cs xs hl hx hz => ?_⟩
  cases xs with
  | nil => simp at hl
  | cons x xs =>
    simp only [List.map_cons, DataW.weightsEach, List.all_append, Bool.and_eq_true] at hz
    have h0 := hx 0 _ rfl
    simp only [List.getElem?_cons_zero] at h0
    obtain ⟨a, h1, h2⟩ := h.rd H enc _ _ _ h0 hz.1
    obtain ⟨b, h3, h4⟩ := hr.rd H enc cs xs (by simpa using hl) (fun i f hf => by have := hx (i + 1) f (by simpa using hf); simpa using this) hz.2
    refine ⟨(a, b), ⟨h1, h3⟩, ?_⟩
    have e : (cs.drop off).take (k + r) = (cs.drop off).take k ++ (cs.drop (off + k)).take r := by
      rw [List.take_add, List.drop_drop]
    rw [e]
    exact h2.append h4
def stB (P : Program) (t : TypeId) (l : List (TypeId × Nat × Nat)) (total : Nat) : Bool :=
  match P.underlying t with
  | some (.struct fs) => (fs.toList.map fun f => (f.type, f.offset, P.cellsOf f.type)) == l && P.cellsOf t == total
  | _ => false
theorem stB_struct {t : TypeId} {fs : List (TypeId × Nat × Nat)} {total : Nat} (ht : stB P t fs total = true) : ∃ gs, P.underlying t = some (.struct gs) := by
  unfold stB at ht
  split at ht
  · rename_i gs hu; exact ⟨gs, hu⟩
  · cases ht
theorem Rdr.struct {X : Type} {n total : Nat} {t : TypeId} {fs : List (TypeId × Nat × Nat)} {toD : X → List D} {wf : X → Prop} (ht : stB P t fs total = true) (hl : ∀ x, (toD x).length = total) (h : ∀ m, m < n → RdrF P w m 0 fs total toD wf) : Rdr P w n t total toD wf := by
  refine ⟨hl, fun H enc cs d ps e hz => ?_⟩
  unfold stB at ht
  split at ht
  · rename_i gs hu
    simp only [Bool.and_eq_true, beq_iff_eq] at ht
    obtain ⟨rfl, hc⟩ := ht
    obtain ⟨xs, m, rfl, h2, h3, h4, h5⟩ := DataW.trod_struct hu e
    simp only [Prod.mk.injEq] at h2
    obtain ⟨rfl, _⟩ := h2
    simp only [DataW.weights, hu] at hz
    obtain ⟨x, h6, h7⟩ := (h m (by omega)).rd H enc cs xs (by simpa using h4) (fun i f hf => by
      rw [List.getElem?_map] at hf
      obtain ⟨g, hg, rfl⟩ := Option.map_eq_some_iff.1 hf
      exact h5 i g (by simpa using hg)) (by simpa [List.map_map, Function.comp_def] using hz)
    refine ⟨x, h6, ?_⟩
    rwa [List.drop_zero, List.take_of_length_le (by omega)] at h7
  · cases ht
theorem Rdr.map {X Y : Type} {n k : Nat} {t : TypeId} {toD : X → List D} {wf : X → Prop} {toE : Y → List D} {wg : Y → Prop} (g : X → Y) (h : Rdr P w n t k toD wf) (hl : ∀ y, (toE y).length = k) (hD : ∀ x, wf x → toE (g x) = toD x) (hw : ∀ x, wf x → wg (g x)) : Rdr P w n t k toE wg :=
  ⟨hl, fun H enc cs d ps e hz => by
    obtain ⟨x, h1, h2⟩ := h.rd H enc cs d ps e hz
    exact ⟨g x, hw x h1, by rw [hD x h1]; exact h2⟩⟩
end
end Go.Proofs.YtpgceiijoedppaaGreat

namespace Go.Proofs.YtpgceiijoedppaaGreat
open Go
structure Tm where
  kind : Int
  name : ByteArray
  n : Int
  args : List Tm
mutual
def tmD0 : Tm → List D
  | ⟨k, nm, n, az⟩ => [.imm (.int .i64 k), .imm (.string nm), .imm (.int .i64 n), .sl 4 (tmDs az)]
def tmDs : List Tm → List (List D)
  | [] => []
  | t :: ts => tmD0 t :: tmDs ts
end
def tmD (t : Tm) : List D := [.imm (.int .i64 t.kind), .imm (.string t.name), .imm (.int .i64 t.n), .sl 4 (tmDs t.args)]
theorem tmD0_eq (t : Tm) : tmD0 t = tmD t := by cases t; simp only [tmD0, tmD]
theorem qdh : ∀ ts : List Tm, tmDs ts = ts.map tmD
  | [] => by simp only [tmDs, List.map_nil]
  | t :: ts => by simp only [tmDs, List.map_cons, tmD0_eq, qdh ts]
theorem qaJ (ts : List Tm) : (tmDs ts).length = ts.length := by simp [qdh]
theorem qbv {ts : List Tm} {i : Nat} {t : Tm} (h : ts[i]? = some t) : (tmDs ts)[i]? = some (tmD t) := by simp [qdh, h]
theorem tmD_length (t : Tm) : (tmD t).length = 4 := rfl
abbrev tmA (f : Bool) (t : Tm) : AV := .agg (lift f (tmD t))
mutual
/-- What can be read az a term: its numbers are of their kind, its texts and lists are no longer than memory. -/
def Tm.wf0 : Tm → Prop
  | ⟨k, nm, n, az⟩ => (-9223372036854775808 ≤ k ∧ k ≤ 9223372036854775807) ∧ nm.size ≤ 140737488351232 ∧ (-9223372036854775808 ≤ n ∧ n ≤ 9223372036854775807) ∧ az.length * 56 ≤ 140737488351232 ∧ Tm.wfs az
def Tm.wfs : List Tm → Prop
  | [] => True
  | t :: ts => t.wf0 ∧ Tm.wfs ts
end
def Tm.wf (t : Tm) : Prop := (-9223372036854775808 ≤ t.kind ∧ t.kind ≤ 9223372036854775807) ∧ t.name.size ≤ 140737488351232 ∧ (-9223372036854775808 ≤ t.n ∧ t.n ≤ 9223372036854775807) ∧ t.args.length * 56 ≤ 140737488351232 ∧ Tm.wfs t.args
theorem Tm.wf0_iff (t : Tm) : t.wf0 ↔ t.wf := by cases t; simp only [Tm.wf0, Tm.wf]
theorem Tm.wfs_get : ∀ {ts : List Tm} {i : Nat} {t : Tm}, Tm.wfs ts → ts[i]? = some t → t.wf
  | t :: ts, 0, u, h, hi => by simp only [List.getElem?_cons_zero, Option.some.injEq] at hi; subst hi; simp only [Tm.wfs] at h; exact (Tm.wf0_iff t).1 h.1
  | t :: ts, i + 1, u, h, hi => by simp only [Tm.wfs] at h; exact Tm.wfs_get h.2 (by simpa using hi)
structure Bd where
  name : ByteArray
  t : Tm
structure Gd where
  kind : Int
  l : Tm
  r : Tm
structure Cl where
  head : Tm
  body : List Tm
  guards : List Gd
abbrev i64 (n : Int) : Prop := -9223372036854775808 ≤ n ∧ n ≤ 9223372036854775807
def qba {α : Type} (l : List α) : Prop := l.length ≤ 140737488351232
def Bd.wf (b : Bd) : Prop := b.name.size ≤ 140737488351232 ∧ b.t.wf
def Gd.wf (g : Gd) : Prop := i64 g.kind ∧ g.l.wf ∧ g.r.wf
def Cl.wf (c : Cl) : Prop := c.head.wf ∧ (qba c.body ∧ Tm.wfs c.body) ∧ (qba c.guards ∧ ∀ g ∈ c.guards, g.wf)
def bdD (b : Bd) : List D := .imm (.string b.name) :: tmD b.t
def gdD (g : Gd) : List D := .imm (.int .i64 g.kind) :: (tmD g.l ++ tmD g.r)
def bdDs (l : List Bd) : List (List D) := l.map bdD
def gdDs (l : List Gd) : List (List D) := l.map gdD
theorem qaR (l : List Bd) : (bdDs l).length = l.length := by simp [bdDs]
theorem gdDs_length (l : List Gd) : (gdDs l).length = l.length := by simp [gdDs]
theorem qbe {l : List Bd} {i : Nat} {b : Bd} (h : l[i]? = some b) : (bdDs l)[i]? = some (bdD b) := by simp [bdDs, h]
theorem gdDs_get {l : List Gd} {i : Nat} {b : Gd} (h : l[i]? = some b) : (gdDs l)[i]? = some (gdD b) := by simp [gdDs, h]
structure Ask11 where
  C : List Cl
  K : List Tm
  T : List Tm
structure Ask12 where
  K : Ask11
  B : List (List Bd)
  G : List Gd
def Ask11.wf (p : Ask11) : Prop := (qba p.C ∧ ∀ c ∈ p.C, c.wf) ∧ (qba p.K ∧ Tm.wfs p.K) ∧ (qba p.T ∧ Tm.wfs p.T)
def Ask12.wf (p : Ask12) : Prop := p.K.wf ∧ (qba p.B ∧ ∀ l ∈ p.B, qba l ∧ ∀ b ∈ l, b.wf) ∧ (qba p.G ∧ ∀ g ∈ p.G, g.wf)
structure Ft where
  t : Tm
  fr : Int
  to : Int
structure Kp where
  seq : Int
  f : Ft
def Ft.wf (f : Ft) : Prop := f.t.wf ∧ i64 f.fr ∧ i64 f.to
def Kp.wf (k : Kp) : Prop := i64 k.seq ∧ k.f.wf
def spD (f : Ft) : List D := [.imm (.int .i64 f.fr), .imm (.int .i64 f.to)]
def ftD (f : Ft) : List D := tmD f.t ++ spD f
def kpD (k : Kp) : List D := .imm (.int .i64 k.seq) :: ftD k.f
def ftDs (l : List Ft) : List (List D) := l.map ftD
def kpDs (l : List Kp) : List (List D) := l.map kpD
def inDs (l : List Int) : List (List D) := l.map fun x => [.imm (.int .i64 x)]
theorem ftDs_length (l : List Ft) : (ftDs l).length = l.length := by simp [ftDs]
theorem kpDs_length (l : List Kp) : (kpDs l).length = l.length := by simp [kpDs]
theorem qbm (l : List Int) : (inDs l).length = l.length := by simp [inDs]
theorem qbO {l : List Kp} {i : Nat} {b : Kp} (h : l[i]? = some b) : (kpDs l)[i]? = some (kpD b) := by simp [kpDs, h]
theorem inDs_get {l : List Int} {i : Nat} {b : Int} (h : l[i]? = some b) : (inDs l)[i]? = some [.imm (.int .i64 b)] := by simp [inDs, h]
abbrev ftA (f : Ft) : AV := .agg (lift false (ftD f))
structure Ask9 where
  L : List Kp
  F : List Ft
  N : List Int
def Ask9.wf (p : Ask9) : Prop := (qba p.L ∧ ∀ k ∈ p.L, k.wf) ∧ (qba p.F ∧ ∀ f ∈ p.F, f.wf) ∧ (qba p.N ∧ ∀ n ∈ p.N, i64 n)
mutual
def AV.ut : AV → AV
  | .dat _ k es => .dat false k es
  | .elp _ cs => .elp false cs
  | .agg cs => .agg (AV.uts cs)
  | .fn f cs => .fn f (AV.uts cs)
  | .tup cs => .tup (AV.uts cs)
  | v => v
def AV.uts : List AV → List AV
  | [] => []
  | v :: vs => AV.ut v :: AV.uts vs
end
theorem uts_lift (f : Bool) : ∀ ds : List D, AV.uts (lift f ds) = lift false ds
  | [] => rfl
  | d :: ds => by
    have := uts_lift f ds
    simp only [lift, List.map_cons, AV.uts] at this ⊢
    rw [this]; cases d <;> rfl
def Ob.ut : Ob → Ob
  | .box cs => .box (AV.uts cs)
  | .row e k cs => .row e k (AV.uts cs)
  | .rowd e k _ es => .rowd e k false es
  | .mp P k ks => .mp P k ks
  | .dead => .dead
  | .arr e k _ es => .arr e k false es
  | .mx it P k kvs cur => .mx it P k kvs cur
def utT : List (Nat × AV) → List (Nat × AV)
  | [] => []
  | (t, v) :: T => (t, v.ut) :: utT T
def utO : List (Nat × Ob) → List (Nat × Ob)
  | [] => []
  | (t, v) :: T => (t, v.ut) :: utO T
theorem lk_utT : ∀ (T : List (Nat × AV)) (t : Nat), lk (utT T) t = (lk T t).map AV.ut
  | [], t => rfl
  | (s, v) :: T, t => by
    simp only [utT, qcd]
    split
    · rfl
    · exact lk_utT T t
theorem ok_utO : ∀ (T : List (Nat × Ob)) (t : Nat), ok (utO T) t = (ok T t).map Ob.ut
  | [], t => rfl
  | (s, v) :: T, t => by
    simp only [utO, qa3]
    split
    · rfl
    · exact ok_utO T t
def utS (S : Bool → Nat → Prop) : Bool → Nat → Prop := fun g b => g = false ∧ (S true b ∨ S false b)
theorem utS_in {S : Bool → Nat → Prop} {f : Bool} {b : Nat} (h : S f b) : utS S false b := ⟨rfl, by cases f <;> simp [h]⟩
mutual
theorem Rep.ut {w : World} {ρ : Nat → Value} {S : Bool → Nat → Prop} {U : Nat → Prop} : ∀ (v : AV) (x : Value), Rep w ρ S U v x → Rep w ρ (utS S) U v.ut x
  | .any, x, h => by simp [AV.ut, Rep]
  | .imm v, x, h => by simpa [AV.ut, Rep] using h
  | .dat f k es, x, h => by
    simp only [AV.ut, Rep] at h ⊢
    exact RepD.mono (F' := false) (S' := utS S false) (fun e => by cases e) (fun b hb => utS_in hb) (fun _ _ => rfl) _ _ h
  | .agg cs, x, h => by
    simp only [AV.ut, Rep] at h ⊢
    obtain ⟨xs, hx, h1, h⟩ := h
    exact ⟨xs, hx, h1, RepL.ut cs xs h⟩
  | .ptr l off, x, h => by simpa only [AV.ut, Rep] using h
  | .elp f cs, x, h => by
    simp only [AV.ut, Rep] at h ⊢
    obtain ⟨b, off, hx, hb, h⟩ := h
    exact ⟨b, off, hx, utS_in hb, qbE.mono (F' := false) (S' := utS S false) (fun e => by cases e) (fun b hb => utS_in hb) (fun _ _ => rfl) b hb off cs h⟩
  | .row l, x, h => by simpa only [AV.ut, Rep] using h
  | .fn f cs, x, h => by
    simp only [AV.ut, Rep] at h ⊢
    obtain ⟨xs, hx, h⟩ := h
    exact ⟨xs, hx, RepL.ut cs xs h⟩
  | .map l, x, h => by simpa only [AV.ut, Rep] using h
  | .tup cs, x, h => by
    simp only [AV.ut, Rep] at h ⊢
    obtain ⟨xs, hx, h⟩ := h
    exact ⟨xs, hx, RepL.ut cs xs h⟩
  | .vw l off n c, x, h => by simpa only [AV.ut, Rep] using h
theorem RepL.ut {w : World} {ρ : Nat → Value} {S : Bool → Nat → Prop} {U : Nat → Prop} : ∀ (vs : List AV) (xs : List Value), RepL w ρ S U vs xs → RepL w ρ (utS S) U (AV.uts vs) xs
  | [], xs, h => by simpa [AV.uts, RepL] using h
  | v :: vs, xs, h => by
    simp only [AV.uts, RepL] at h ⊢
    obtain ⟨y, ys, hx, h1, h2⟩ := h
    exact ⟨y, ys, hx, Rep.ut v y h1, RepL.ut vs ys h2⟩
end
theorem ut_live {o : Ob} (h : o.ut.live) : o.live := by cases o <;> exact h
section
variable {P : Program} {c : Ctx} {N : Nat} {Q : Exit → St → Prop} {σ : St} {o : Oper}
theorem U_ut {T : List (Nat × AV)} {O : List (Nat × Ob)} (m : Nat) (h : St.U ⟨T, O⟩ m) : St.U ⟨utT T, utO O⟩ m := by
  simp only [St.U, ok_utO] at h ⊢
  simpa using h
theorem sub_untag {T : List (Nat × AV)} {O : List (Nat × Ob)} (hQ : ∀ b, ¬ c.Q b) : Sub c N ⟨T, O⟩ ⟨utT T, utO O⟩ := by
  rintro a w ⟨ρ, S, hc⟩
  have hsp : ∀ m om, ok (utO O) m = some om → ∃ om', ok O m = some om' ∧ om = om'.ut := fun m om hm => by
    rw [ok_utO] at hm
    obtain ⟨om', h2, h3⟩ := Option.map_eq_some_iff.1 hm
    exact ⟨om', h2, h3.symm⟩
  refine ⟨ρ, utS S, ⟨hc.tm, hc.df, fun t v ht => ?_, fun m om hm => ?_, fun m m' om om' b h2 h3 h4 h5 h6 h7 => ?_, fun m om b g h2 h3 h4 h5 => ?_, fun m om b h2 h3 h4 => ?_, fun m om b h2 h3 h4 => ?_, ?_, ?_, ?_, ?_, fun m hm => ?_, hc.fm.mono (fun g b h => ⟨false, utS_in h⟩) (fun b h => (by cases h.1))⟩⟩
  · rw [show (St.mk (utT T) (utO O)).T = utT T from rfl, lk_utT] at ht
    obtain ⟨v0, hv0, rfl⟩ := Option.map_eq_some_iff.1 ht
    exact ((hc.T t v0 hv0).ut).mono (fun _ _ h => h) (fun _ _ _ => rfl) U_ut (fun _ _ => rfl)
  · obtain ⟨om', h2, rfl⟩ := hsp m om hm
    have hob := hc.O m om' h2
    cases om' with
    | box cs =>
      obtain ⟨b, ty, ys, h3, h4, h5, h6⟩ := hob
      exact ⟨b, ty, ys, h3, h4, h5, (h6.ut).mono (fun _ _ h => h) (fun _ _ _ => rfl) U_ut (fun _ _ => rfl)⟩
    | row e k cs =>
      obtain ⟨n, xs, h1, h2, h3⟩ := hob
      exact ⟨n, xs, h1, h2, (h3.ut).mono (fun _ _ h => h) (fun _ _ _ => rfl) U_ut (fun _ _ => rfl)⟩
    | rowd e k f es =>
      obtain ⟨h0, xs, h1, h2, h3⟩ := hob
      have h3 := h3.ut
      rw [uts_lift] at h3
      exact ⟨h0, xs, h1, h2, h3.mono (fun _ _ h => h) (fun _ _ _ => rfl) U_ut (fun _ _ => rfl)⟩
    | mp P k ks => exact hob
    | dead => trivial
    | arr e k f es =>
      obtain ⟨b, xs, h1, h2, h3, h4, h5⟩ := hob
      refine ⟨b, xs, h1, h2, h3, h4, fun i d hd => ⟨(h5 i d hd).1, ?_, (h5 i d hd).2.2⟩⟩
      have h6 := (h5 i d hd).2.1.ut
      rw [uts_lift] at h6
      exact h6.mono (fun _ _ h => h) (fun _ _ _ => rfl) U_ut (fun _ _ => rfl)
    | mx it P k kvs cur =>
      simp only [Ob.ut, ObOk] at hob ⊢
      exact hob.mono (fun b hb => utS_in hb) (fun _ _ => rfl) (fun _ _ => rfl)
  · obtain ⟨o1, k1, rfl⟩ := hsp m om h2
    obtain ⟨o2, k2, rfl⟩ := hsp m' om' h3
    exact hc.dj m m' o1 o2 b k1 k2 (ut_live h4) (ut_live h5) h6 h7
  · obtain ⟨o1, k1, rfl⟩ := hsp m om h2
    rcases h5.2 with h5 | h5
    · exact hc.dS m o1 b _ k1 (ut_live h3) h4 h5
    · exact hc.dS m o1 b _ k1 (ut_live h3) h4 h5
  · obtain ⟨o1, k1, rfl⟩ := hsp m om h2
    exact hc.wr m o1 b k1 (ut_live h3) h4
  · obtain ⟨o1, k1, rfl⟩ := hsp m om h2
    exact hc.lt m o1 b k1 (ut_live h3) h4
  · rintro b ⟨h2, h3⟩; cases h2.1
  · rintro g b ⟨_, h2 | h2⟩
    · exact hc.Sb _ b h2
    · exact hc.Sb _ b h2
  · rintro b h2; cases h2.1
  · rintro b ⟨_, h2 | h2⟩
    · exact .inr ((hc.Sn b h2).resolve_left (hQ b))
    · exact hc.So b h2
  · obtain ⟨h2, h3⟩ := hc.lo m hm
    exact ⟨U_ut m h2, h3⟩
mutual
def AV.hv : AV → AV
  | .dat f k es => if f then .any else .dat f k es
  | .elp f cs => if f then .any else .elp f cs
  | .agg cs => .agg (AV.hvs cs)
  | .fn f cs => .fn f (AV.hvs cs)
  | .tup cs => .tup (AV.hvs cs)
  | v => v
def AV.hvs : List AV → List AV
  | [] => []
  | v :: vs => AV.hv v :: AV.hvs vs
end
def Ob.hv : Ob → Ob
  | .box cs => .box (AV.hvs cs)
  | .row e k cs => .row e k (AV.hvs cs)
  | .rowd e k f es => if f then .dead else .rowd e k f es
  | .mp P k ks => .mp P k ks
  | .dead => .dead
  | .arr e k f es => if f then .dead else .arr e k f es
  | .mx it P k kvs cur => .mx it P k kvs cur
def hvO : List (Nat × Ob) → List (Nat × Ob)
  | [] => []
  | (t, v) :: T => (t, v.hv) :: hvO T
def hvS (S : Bool → Nat → Prop) : Bool → Nat → Prop := fun g b => g = false ∧ S false b
mutual
theorem Rep.hv {w w' : World} {ρ : Nat → Value} {S : Bool → Nat → Prop} {U : Nat → Prop} (hw : ∀ b, S false b → w'.heap[b]? = w.heap[b]?) : ∀ (v : AV) (x : Value), Rep w ρ S U v x → Rep w' ρ (hvS S) U v.hv x
  | .any, x, h => by simp [AV.hv, Rep]
  | .imm v, x, h => by simpa [AV.hv, Rep] using h
  | .dat f k es, x, h => by
    cases f with
    | true => simp [AV.hv, Rep]
    | false =>
      simp only [AV.hv, Rep] at h ⊢
      exact RepD.mono id (fun b hb => ⟨rfl, hb⟩) hw _ _ h
  | .agg cs, x, h => by
    simp only [AV.hv, Rep] at h ⊢
    obtain ⟨xs, hx, h1, h⟩ := h
    exact ⟨xs, hx, h1, RepL.hv hw cs xs h⟩
  | .ptr l off, x, h => by simpa only [AV.hv, Rep] using h
  | .elp f cs, x, h => by
    cases f with
    | true => simp [AV.hv, Rep]
    | false =>
      simp only [AV.hv, Rep] at h ⊢
      obtain ⟨b, off, hx, hb, h⟩ := h
      exact ⟨b, off, hx, ⟨rfl, hb⟩, qbE.mono id (fun b hb => ⟨rfl, hb⟩) hw b hb off cs h⟩
  | .row l, x, h => by simpa only [AV.hv, Rep] using h
  | .fn f cs, x, h => by
    simp only [AV.hv, Rep] at h ⊢
    obtain ⟨xs, hx, h⟩ := h
    exact ⟨xs, hx, RepL.hv hw cs xs h⟩
  | .map l, x, h => by simpa only [AV.hv, Rep] using h
  | .tup cs, x, h => by
    simp only [AV.hv, Rep] at h ⊢
    obtain ⟨xs, hx, h⟩ := h
    exact ⟨xs, hx, RepL.hv hw cs xs h⟩
  | .vw l off n c, x, h => by simpa only [AV.hv, Rep] using h
theorem RepL.hv {w w' : World} {ρ : Nat → Value} {S : Bool → Nat → Prop} {U : Nat → Prop} (hw : ∀ b, S false b → w'.heap[b]? = w.heap[b]?) : ∀ (vs : List AV) (xs : List Value), RepL w ρ S U vs xs → RepL w' ρ (hvS S) U (AV.hvs vs) xs
  | [], xs, h => by simpa [AV.hvs, RepL] using h
  | v :: vs, xs, h => by
    simp only [AV.hvs, RepL] at h ⊢
    obtain ⟨y, ys, hx, h1, h2⟩ := h
    exact ⟨y, ys, hx, Rep.hv hw v y h1, RepL.hv hw vs ys h2⟩
end
end
end Go.Proofs.YtpgceiijoedppaaGreat

namespace Go.Proofs.YtpgceiijoedppaaGreat
open Go
mutual
def AV.rp (l : Nat) (dr : AV) (dv : Nat → Nat → Nat → AV) : AV → AV
  | .row m => if m = l then dr else .row m
  | .ptr m off => if m = l then .any else .ptr m off
  | .map m => if m = l then .any else .map m
  | .vw m off n c => if m = l then dv off n c else .vw m off n c
  | .agg cs => .agg (AV.rps l dr dv cs)
  | .fn f cs => .fn f (AV.rps l dr dv cs)
  | .tup cs => .tup (AV.rps l dr dv cs)
  | .any => .any
  | .imm v => .imm v
  | .dat f k es => .dat f k es
  | .elp f ds => .elp f ds
def AV.rps (l : Nat) (dr : AV) (dv : Nat → Nat → Nat → AV) : List AV → List AV
  | [] => []
  | v :: vs => AV.rp l dr dv v :: AV.rps l dr dv vs
end
def Ob.rp (l : Nat) (dr : AV) (dv : Nat → Nat → Nat → AV) : Ob → Ob
  | .box cs => .box (AV.rps l dr dv cs)
  | .row e k cs => .row e k (AV.rps l dr dv cs)
  | .rowd e k f es => .rowd e k f es
  | .mp P k ks => .mp P k ks
  | .dead => .dead
  | .arr e k f es => .arr e k f es
  | .mx it P k kvs cur => .mx it P k kvs cur
def rpT (l : Nat) (dr : AV) (dv : Nat → Nat → Nat → AV) : List (Nat × AV) → List (Nat × AV)
  | [] => []
  | (t, v) :: T => (t, AV.rp l dr dv v) :: rpT l dr dv T
def rpO (l : Nat) (dr : AV) (dv : Nat → Nat → Nat → AV) : List (Nat × Ob) → List (Nat × Ob)
  | [] => []
  | (t, v) :: T => (t, v.rp l dr dv) :: rpO l dr dv T
theorem lk_rpT (l : Nat) (dr : AV) (dv : Nat → Nat → Nat → AV) : ∀ (T : List (Nat × AV)) (t : Nat), lk (rpT l dr dv T) t = (lk T t).map (AV.rp l dr dv)
  | [], t => rfl
  | (s, v) :: T, t => by
    simp only [rpT, qcd]
    split
    · rfl
    · exact lk_rpT l dr dv T t
theorem ok_rpO (l : Nat) (dr : AV) (dv : Nat → Nat → Nat → AV) : ∀ (T : List (Nat × Ob)) (t : Nat), ok (rpO l dr dv T) t = (ok T t).map (Ob.rp l dr dv)
  | [], t => rfl
  | (s, v) :: T, t => by
    simp only [rpO, qa3]
    split
    · rfl
    · exact ok_rpO l dr dv T t
section
variable {w : World} {ρ : Nat → Value} {S : Bool → Nat → Prop} {U U' : Nat → Prop} {l : Nat} {p : Value} {dr : AV} {dv : Nat → Nat → Nat → AV}
mutual
theorem Rep.rp (hU : ∀ m, U m → U' m) (hdr : U l → Rep w (upd ρ l p) S U' dr (ρ l)) (hdv : ∀ off n c x, Rep w ρ S U (.vw l off n c) x → Rep w (upd ρ l p) S U' (dv off n c) x) : ∀ (v : AV) (x : Value), Rep w ρ S U v x → Rep w (upd ρ l p) S U' (AV.rp l dr dv v) x
  | .any, x, h => by simp [AV.rp, Rep]
  | .imm v, x, h => by simpa [AV.rp, Rep] using h
  | .dat f k es, x, h => by simpa only [AV.rp, Rep] using h
  | .agg cs, x, h => by
    simp only [AV.rp, Rep] at h ⊢
    obtain ⟨xs, hx, h1, h⟩ := h
    exact ⟨xs, hx, h1, RepL.rp hU hdr hdv cs xs h⟩
  | .ptr m off, x, h => by
    simp only [AV.rp]
    split
    · simp [Rep]
    · rename_i hne
      simp only [Rep] at h ⊢
      rw [qbj hne]; exact ⟨hU m h.1, h.2⟩
  | .elp f ds, x, h => by simpa only [AV.rp, Rep] using h
  | .row m, x, h => by
    simp only [AV.rp]
    split
    · rename_i e; subst e
      simp only [Rep] at h
      rw [h.2.1]; exact hdr h.1
    · rename_i hne
      simp only [Rep] at h ⊢
      rw [qbj hne]; exact ⟨hU m h.1, h.2⟩
  | .fn f cs, x, h => by
    simp only [AV.rp, Rep] at h ⊢
    obtain ⟨xs, hx, h⟩ := h
    exact ⟨xs, hx, RepL.rp hU hdr hdv cs xs h⟩
  | .map m, x, h => by
    simp only [AV.rp]
    split
    · simp [Rep]
    · rename_i hne
      simp only [Rep] at h ⊢
      rw [qbj hne]; exact ⟨hU m h.1, h.2⟩
  | .tup cs, x, h => by
    simp only [AV.rp, Rep] at h ⊢
    obtain ⟨xs, hx, h⟩ := h
    exact ⟨xs, hx, RepL.rp hU hdr hdv cs xs h⟩
  | .vw m off n c, x, h => by
    simp only [AV.rp]
    split
    · rename_i e; subst e
      exact hdv off n c x h
    · rename_i hne
      simp only [Rep] at h ⊢
      rw [qbj hne]; exact ⟨hU m h.1, h.2⟩
theorem RepL.rp (hU : ∀ m, U m → U' m) (hdr : U l → Rep w (upd ρ l p) S U' dr (ρ l)) (hdv : ∀ off n c x, Rep w ρ S U (.vw l off n c) x → Rep w (upd ρ l p) S U' (dv off n c) x) : ∀ (vs : List AV) (xs : List Value), RepL w ρ S U vs xs → RepL w (upd ρ l p) S U' (AV.rps l dr dv vs) xs
  | [], xs, h => by simpa [AV.rps, RepL] using h
  | v :: vs, xs, h => by
    simp only [AV.rps, RepL] at h ⊢
    obtain ⟨y, ys, hx, h1, h2⟩ := h
    exact ⟨y, ys, hx, Rep.rp hU hdr hdv v y h1, RepL.rp hU hdr hdv vs ys h2⟩
end
end
theorem rp_live {l : Nat} {dr : AV} {dv : Nat → Nat → Nat → AV} {o : Ob} (h : (o.rp l dr dv).live) : o.live := by cases o <;> exact h
section
variable {P : Program} {c : Ctx} {N : Nat} {Q : Exit → St → Prop} {σ : St} {o : Oper}
theorem Conc.swap {T : List (Nat × AV)} {O : List (Nat × Ob)} {a : Act} {w : World} {ρ : Nat → Value} {S : Bool → Nat → Prop} (hc : Conc c N ⟨T, O⟩ a w ρ S) {l : Nat} {ob ob' : Ob} (hl : ok O l = some ob) (hv : ob.live) (hL : ¬ c.L l) (p : Value) (hp : ∀ b, blk p = some b → blk (ρ l) = some b) {dr : AV} {dv : Nat → Nat → Nat → AV}
    (hdr : Rep w (upd ρ l p) S (St.U ⟨rpT l dr dv T, (l, ob') :: rpO l dr dv O⟩) dr (ρ l)) (hdv : ∀ off n k x, Rep w ρ S (St.U ⟨T, O⟩) (.vw l off n k) x → Rep w (upd ρ l p) S (St.U ⟨rpT l dr dv T, (l, ob') :: rpO l dr dv O⟩) (dv off n k) x)
    (hob : ObOk w (upd ρ l p) S (St.U ⟨rpT l dr dv T, (l, ob') :: rpO l dr dv O⟩) l ob') : Conc c N ⟨rpT l dr dv T, (l, ob') :: rpO l dr dv O⟩ a w (upd ρ l p) S := by
  have hU : ∀ m, St.U ⟨T, O⟩ m → St.U ⟨rpT l dr dv T, (l, ob') :: rpO l dr dv O⟩ m := fun m hm => by
    simp only [St.U, qa3, ok_rpO] at hm ⊢
    split
    · rfl
    · simpa using hm
  have hsp : ∀ m om, ok ((l, ob') :: rpO l dr dv O) m = some om → (m = l ∧ om = ob') ∨ (m ≠ l ∧ ∃ om', ok O m = some om' ∧ om = om'.rp l dr dv) := fun m om hm => by
    rw [qa3] at hm
    split at hm
    · rename_i e; exact .inl ⟨e.symm, by simpa using hm.symm⟩
    · rename_i e
      rw [ok_rpO] at hm
      obtain ⟨om', h2, h3⟩ := Option.map_eq_some_iff.1 hm
      exact .inr ⟨fun e' => e e'.symm, om', h2, h3.symm⟩
  have hrp : ∀ v x, Rep w ρ S (St.U ⟨T, O⟩) v x → Rep w (upd ρ l p) S (St.U ⟨rpT l dr dv T, (l, ob') :: rpO l dr dv O⟩) (AV.rp l dr dv v) x := fun v x h => Rep.rp hU (fun _ => hdr) hdv v x h
  have hrps : ∀ v x, RepL w ρ S (St.U ⟨T, O⟩) v x → RepL w (upd ρ l p) S (St.U ⟨rpT l dr dv T, (l, ob') :: rpO l dr dv O⟩) (AV.rps l dr dv v) x := fun v x h => RepL.rp hU (fun _ => hdr) hdv v x h
  have hlift : ∀ f ds x, RepL w ρ S (St.U ⟨T, O⟩) (lift f ds) x → RepL w (upd ρ l p) S (St.U ⟨rpT l dr dv T, (l, ob') :: rpO l dr dv O⟩) (lift f ds) x := fun f ds x h =>
    RepL.gen (p := fun _ => false) (q := fun _ => true) (fun _ _ _ h => h) (fun _ _ _ _ => rfl) (fun _ h => by cases h) _ _ (qbW _ _ _) (qcG _) h
  have hbl : ∀ m om b, ok ((l, ob') :: rpO l dr dv O) m = some om → om.live → blk (upd ρ l p m) = some b → ∃ om', ok O m = some om' ∧ om'.live ∧ blk (ρ m) = some b := fun m om b h1 h2 h3 => by
    rcases hsp m om h1 with ⟨rfl, rfl⟩ | ⟨n1, o1, k1, rfl⟩
    · rw [qb1] at h3
      exact ⟨ob, hl, hv, hp b h3⟩
    · rw [qbj n1] at h3
      exact ⟨o1, k1, rp_live h2, h3⟩
  refine ⟨hc.tm, hc.df, fun t v ht => ?_, fun m om hm => ?_, fun m m' om om' b h2 h3 h4 h5 h6 h7 => ?_, fun m om b g h2 h3 h4 => ?_, fun m om b h2 h3 h4 => ?_, fun m om b h2 h3 h4 => ?_, hc.SS, hc.Sb, hc.Sn, hc.So, fun m hm => ?_, hc.fm⟩
  · rw [show (St.mk (rpT l dr dv T) ((l, ob') :: rpO l dr dv O)).T = rpT l dr dv T from rfl, lk_rpT] at ht
    obtain ⟨v0, hv0, rfl⟩ := Option.map_eq_some_iff.1 ht
    exact hrp _ _ (hc.T t v0 hv0)
  · rcases hsp m om hm with ⟨rfl, rfl⟩ | ⟨hne, om', h2, rfl⟩
    · exact hob
    · have hob := hc.O m om' h2
      cases om' with
      | box cs =>
        obtain ⟨b, ty, ys, h3, h4, h5, h6⟩ := hob
        exact ⟨b, ty, ys, by rw [qbj hne]; exact h3, h4, h5, hrps _ _ h6⟩
      | row e k cs =>
        obtain ⟨n, ys, h3, h4, h5⟩ := hob
        exact ⟨n, ys, by rw [qbj hne]; exact h3, h4, hrps _ _ h5⟩
      | rowd e k f es =>
        obtain ⟨h0, ys, h3, h4, h5⟩ := hob
        exact ⟨h0, ys, by rw [qbj hne]; exact h3, h4, hlift _ _ _ h5⟩
      | mp P k ks =>
        obtain ⟨r, h3, h4⟩ := hob
        exact ⟨r, by rw [qbj hne]; exact h3, h4⟩
      | dead => trivial
      | arr e k f es =>
        obtain ⟨b, xs, h3, h4, h5, h6, h7⟩ := hob
        exact ⟨b, xs, by rw [qbj hne]; exact h3, h4, h5, h6, fun i d hd => ⟨(h7 i d hd).1, hlift _ _ _ (h7 i d hd).2.1, (h7 i d hd).2.2⟩⟩
      | mx it P k kvs cur =>
        simp only [Ob.rp, ObOk] at hob ⊢
        rw [qbj hne]; exact hob
  · obtain ⟨o1, k1, k2, k3⟩ := hbl m om b h2 h4 h6
    obtain ⟨o2, k4, k5, k6⟩ := hbl m' om' b h3 h5 h7
    exact hc.dj m m' o1 o2 b k1 k4 k2 k5 k3 k6
  · obtain ⟨o1, k1, k2, k3⟩ := hbl m om b h2 h3 h4
    exact hc.dS m o1 b g k1 k2 k3
  · obtain ⟨o1, k1, k2, k3⟩ := hbl m om b h2 h3 h4
    exact hc.wr m o1 b k1 k2 k3
  · obtain ⟨o1, k1, k2, k3⟩ := hbl m om b h2 h3 h4
    exact hc.lt m o1 b k1 k2 k3
  · obtain ⟨h2, h3⟩ := hc.lo m hm
    have hne : m ≠ l := fun e => hL (e ▸ hm)
    exact ⟨hU m h2, by rw [qbj hne]; exact h3⟩
def anyV : Nat → Nat → Nat → AV := fun _ _ _ => .any
theorem repL_elem {w : World} {ρ : Nat → Value} {S : Bool → Nat → Prop} {U : Nat → Prop} {f : Bool} {k : Nat} : ∀ {es : List (List D)} {xs : List Value}, (∀ d ∈ es, d.length = k) → RepL w ρ S U (lift f es.flatten) xs → ∀ (i : Nat) (d : List D), es[i]? = some d → RepL w ρ S U (lift f d) ((xs.drop (i * k)).take k)
  | [], xs, _, _, i, d, h => by simp at h
  | e :: es, xs, hk, hr, i, d, h => by
    have he : e.length = k := hk e (by simp)
    have h8 : lift f (e :: es).flatten = lift f e ++ lift f es.flatten := by simp [lift]
    have hle : (lift f e).length = k := by simp [lift, he]
    cases i with
    | zero =>
      simp only [List.getElem?_cons_zero, Option.some.injEq] at h; subst h
      have ht := hr.take k
      rw [h8, List.take_append_of_le_length (by omega), List.take_of_length_le (by omega)] at ht
      simpa using ht
    | succ i =>
      have hd := hr.drop k
      rw [h8, List.drop_append, List.drop_eq_nil_of_le (by omega), hle, Nat.sub_self, List.drop_zero, List.nil_append] at hd
      have := repL_elem (fun d hd' => hk d (by simp [hd'])) hd i d (by simpa using h)
      rw [List.drop_drop] at this
      rw [show (i + 1) * k = k + i * k by rw [Nat.add_mul]; omega]
      exact this
theorem repL_join {w : World} {ρ : Nat → Value} {S : Bool → Nat → Prop} {U : Nat → Prop} {f : Bool} {k : Nat} : ∀ {es : List (List D)} {xs : List Value} {off : Nat}, off + es.length * k ≤ xs.length → (∀ (i : Nat) (d : List D), es[i]? = some d → d.length = k ∧ RepL w ρ S U (lift f d) ((xs.drop (off + i * k)).take k) ∧ ∀ y ∈ (xs.drop (off + i * k)).take k, y.oneCell' = true) →
    RepL w ρ S U (lift f es.flatten) ((xs.drop off).take (es.length * k)) ∧ ∀ y ∈ (xs.drop off).take (es.length * k), y.oneCell' = true
  | [], xs, off, _, _ => by simp [lift, RepL]
  | e :: es, xs, off, hle, h => by
    simp only [List.length_cons, Nat.add_mul, Nat.one_mul] at hle
    have h0 := h 0 e rfl
    simp only [Nat.zero_mul, Nat.add_zero] at h0
    have ih := repL_join (w := w) (ρ := ρ) (S := S) (U := U) (f := f) (k := k) (es := es) (xs := xs) (off := off + k) (by omega) (fun i d hd => by
      have := h (i + 1) d (by simpa using hd)
      rwa [show off + (i + 1) * k = off + k + i * k by rw [Nat.add_mul]; omega] at this)
    have e1 : (xs.drop off).take ((e :: es).length * k) = (xs.drop off).take k ++ (xs.drop (off + k)).take (es.length * k) := by
      rw [List.length_cons, Nat.add_mul, Nat.one_mul, Nat.add_comm, List.take_add, List.drop_drop]
    rw [e1]
    refine ⟨?_, fun y hy => ?_⟩
    · have h8 : lift f (e :: es).flatten = lift f e ++ lift f es.flatten := by simp [lift]
      rw [h8]
      exact h0.2.1.append ih.1
    · rcases List.mem_append.1 hy with hy | hy
      · exact h0.2.2 y hy
      · exact ih.2 y hy
theorem awps_open {ops : Array Oper} {rest : List Oper} {T : List (Nat × AV)} {O : List (Nat × Ob)} {l k : Nat} {e : TypeId} {f : Bool} {es : List (List D)} (hl : ok O l = some (.rowd e k f es)) (hk : 0 < k) (hL : ¬ c.L l)
    (Knil : es = [] → awps P c N ops rest Q ⟨rpT l (.imm (.slice none 0 0)) anyV T, (l, .dead) :: rpO l (.imm (.slice none 0 0)) anyV O⟩)
    (K : ∀ cap, es.length ≤ cap → cap ≤ maxLen → awps P c N ops rest Q ⟨rpT l (.vw l 0 es.length cap) anyV T, (l, .arr e k f (es.map some ++ List.replicate (cap - es.length) none)) :: rpO l (.vw l 0 es.length cap) anyV O⟩) : awps P c N ops rest Q ⟨T, O⟩ := by
  rintro a w ⟨ρ, S, hc⟩
  obtain ⟨hes, xs, how, h1, hr⟩ := hc.O l _ hl
  rcases how.2 with ⟨hv, hn⟩ | ⟨g, cap, cur, hv, _, hh, hcap, hmax, hsz, htk⟩
  · have he : es = [] := List.eq_nil_of_length_eq_zero hn
    refine Knil he a w ⟨_, S, hc.swap (ob' := .dead) (dr := .imm (.slice none 0 0)) (dv := anyV) hl trivial hL (ρ l) (fun _ h => h) ?_ (fun _ _ _ _ _ => by simp [anyV, Rep]) trivial⟩
    simp only [Rep]; exact hv
  · refine K cap hcap hmax a w ⟨_, S, hc.swap (ob' := .arr e k f (es.map some ++ List.replicate (cap - es.length) none)) (dr := .vw l 0 es.length cap) (dv := anyV) hl trivial hL (.slice (some ⟨g, 0, none⟩) cap cap) (fun b h => by rw [hv]; simpa [blk] using h) ?_ (fun _ _ _ _ _ => by simp [anyV, Rep]) ?_⟩
    · simp only [Rep]
      exact ⟨by simp [St.U, qa3], g, ⟨cap, by rw [qb1]⟩, hv⟩
    · have hlen : (es.map some ++ List.replicate (cap - es.length) (none : Option (List D))).length = cap := by simp; omega
      refine ⟨g, cur.toList, by rw [qb1, hlen], by simpa using hh, by rw [hlen]; simpa using hsz, by rw [hlen]; exact hmax, fun i d hd => ?_⟩
      have hi : es[i]? = some d := by
        by_cases hi : i < es.length
        · rw [List.getElem?_append_left (by simpa using hi), List.getElem?_map] at hd
          obtain ⟨d', h2, h3⟩ := Option.map_eq_some_iff.1 hd
          cases h3; exact h2
        · rw [List.getElem?_append_right (by simpa using hi)] at hd
          rw [List.getElem?_replicate] at hd
          split at hd <;> simp at hd
      have hil : i < es.length := (List.getElem?_eq_some_iff.1 hi).1
      have hle : i * k + k ≤ es.length * k := by rw [← Nat.succ_mul]; exact Nat.mul_le_mul_right _ hil
      have e1 : (cur.toList.drop (i * k)).take k = (xs.drop (i * k)).take k := by
        rw [← htk, List.drop_take, List.take_take, Nat.min_eq_left (by omega)]
      rw [e1]
      refine ⟨hes d (List.mem_of_getElem? hi), ?_, fun y hy => h1 y (List.mem_of_mem_drop (List.mem_of_mem_take hy))⟩; refine RepL.gen (p := fun _ => false) (q := fun _ => true) (fun _ _ _ h => h) (fun _ _ _ _ => rfl) (fun _ h => by cases h) _ _ (qbW _ _ _) (qcG _) (repL_elem hes hr i d hi)
def clV (l n c : Nat) : Nat → Nat → Nat → AV := fun off n' c' => if off = 0 ∧ n' = n ∧ c' = c then .row l else .any
theorem qcm {T : List (Nat × AV)} {O : List (Nat × Ob)} {l k : Nat} {e : TypeId} {f : Bool} (es : List (List D)) {os : List (Option (List D))} {n cap : Nat} (hl : ok O l = some (.arr e k f os)) (hL : ¬ c.L l) (hes : ∃ junk, os = es.map some ++ junk) (hn : n = es.length) (hcap : cap = os.length) :
    Sub c N ⟨T, O⟩ ⟨rpT l .any (clV l n cap) T, (l, .rowd e k f es) :: rpO l .any (clV l n cap) O⟩ := by
  rintro a w ⟨ρ, S, hc⟩
  obtain ⟨junk, rfl⟩ := hes
  obtain ⟨b, xs, h1, h2, h3, h4, h5⟩ := hc.O l _ hl
  subst hn
  have hle : es.length ≤ cap := by rw [hcap]; simp
  refine ⟨_, S, hc.swap (ob' := .rowd e k f es) (dr := .any) (dv := clV l es.length cap) hl trivial hL (.slice (some ⟨b, 0, none⟩) es.length cap) (fun b' h => by rw [h1]; simpa [blk] using h) (by simp [Rep]) (fun off n c x h => ?_) ?_⟩
  · simp only [clV]
    split
    · rename_i e'; obtain ⟨rfl, rfl, rfl⟩ := e'
      simp only [Rep] at h ⊢
      obtain ⟨_, b', ⟨m, hm⟩, hx⟩ := h
      rw [h1] at hm
      simp only [Value.slice.injEq, Option.some.injEq, Addr.mk.injEq] at hm
      obtain ⟨⟨rfl, _⟩, _⟩ := hm
      exact ⟨by simp [St.U, qa3], by rw [qb1]; exact hx, _, _, _, hx⟩
    · simp [Rep]
  · have hle2 : es.length * k ≤ xs.length := by rw [h3, ← hcap]; exact Nat.mul_le_mul_right _ hle
    have hj := repL_join (w := w) (ρ := ρ) (S := S) (U := St.U ⟨T, O⟩) (f := f) (k := k) (es := es) (xs := xs) (off := 0) (by omega) (fun i d hd => by
      have := h5 i d (by rw [List.getElem?_append_left (by simpa using (List.getElem?_eq_some_iff.1 hd).1), List.getElem?_map, hd]; rfl)
      rwa [Nat.zero_add])
    rw [List.drop_zero] at hj
    refine ⟨fun d hd => ?_, xs.take (es.length * k), ⟨by simp; omega, .inr ⟨b, cap, xs.toArray, by rw [qb1], Nat.zero_le _, h2, hle, by rw [hcap]; exact h4, by simp [h3, ← hcap], rfl⟩⟩, hj.2, ?_⟩
    · obtain ⟨i, hi⟩ := List.getElem?_of_mem hd
      exact (h5 i d (by rw [List.getElem?_append_left (by simpa using (List.getElem?_eq_some_iff.1 hi).1), List.getElem?_map, hi]; rfl)).1
    · refine RepL.gen (p := fun _ => false) (q := fun _ => true) (fun _ _ _ h => h) (fun _ _ _ _ => rfl) (fun _ h => by cases h) _ _ (qbW _ _ _) (qcG _) hj.1
theorem qdj {t : TypeId} {x : Operand} {k l off n q : Nat} {e : TypeId} (ho : o.op = .call { callee := .builtin .len, args := #[x], argTypes := #[t] }) (ht : slB P t e k = true) (hx : ev σ.T x = some (.vw l off n q)) : Stp P c N o σ [] (.imm (.int .i64 n)) [] := by
  refine qaH fun σ' h1 _ st w ρ S hc => ⟨_, ?_, by simp only [Rep]; rfl⟩
  have hx' := qaF hc (h1 x (by simp [ho, Op.operands, Call.operands]) _ hx)
  simp only [Rep] at hx'
  obtain ⟨_, b, _, hxe⟩ := hx'
  obtain ⟨i, h2, _⟩ := qcK ht
  simp only [execOp, ho, resolve]
  simp [Sem.run_bind, invoke, builtin, hxe, Builtin.len_, run_underlying h2 w, goInt]
theorem stp_cap_vw {t : TypeId} {x : Operand} {k l off n q : Nat} {e : TypeId} (ho : o.op = .call { callee := .builtin .cap, args := #[x], argTypes := #[t] }) (ht : slB P t e k = true) (hx : ev σ.T x = some (.vw l off n q)) : Stp P c N o σ [] (.imm (.int .i64 q)) [] := by
  refine qaH fun σ' h1 _ st w ρ S hc => ⟨_, ?_, by simp only [Rep]; rfl⟩
  have hx' := qaF hc (h1 x (by simp [ho, Op.operands, Call.operands]) _ hx)
  simp only [Rep] at hx'
  obtain ⟨_, b, _, hxe⟩ := hx'
  obtain ⟨i, h2, _⟩ := qcK ht
  simp only [execOp, ho, resolve]
  simp [Sem.run_bind, invoke, builtin, hxe, Builtin.cap_, run_underlying h2 w, goInt]
theorem stp_slice_vw {t e : TypeId} {k : Nat} {x : Operand} {lo hi : Option Operand} {l off n q : Nat} {i j : Int} (ho : o.op = .slice t x lo hi none) (ht : slB P t e k = true) (hx : ev σ.T x = some (.vw l off n q))
    (hlo : ∀ y, lo = some y → ev σ.T y = some (.imm (.int .i64 i))) (hlo' : lo = none → i = 0) (hhi : ∀ y, hi = some y → ev σ.T y = some (.imm (.int .i64 j))) (hhi' : hi = none → j = n) (h0 : 0 ≤ i) (h1 : i ≤ j) (h2 : j ≤ q) (hnq : n ≤ q) : Stp P c N o σ [] (.vw l (if (q : Int) = i then off else off + i.toNat * k) (j.toNat - i.toNat) (q - i.toNat)) [] := by
  refine qaH fun σ' h3 _ st w ρ S hc => ?_
  have hx' := qaF hc (h3 x (by simp [ho, Op.operands]) _ hx)
  simp only [Rep] at hx'
  obtain ⟨hU, b, hb', hxe⟩ := hx'
  have hbl : ∀ (y : Operand), lo = some y → st.eval y = .int .i64 i := fun y hy => by
    have := qaF hc (h3 y (by simp [ho, Op.operands, hy]) _ (hlo y hy))
    simpa [Rep] using this
  have hbh : ∀ (y : Operand), hi = some y → st.eval y = .int .i64 j := fun y hy => by
    have := qaF hc (h3 y (by simp [ho, Op.operands, hy]) _ (hhi y hy))
    simpa [Rep] using this
  obtain ⟨it, h4, h5, h6⟩ := qcK ht
  have hb : ∀ (y : Nat) (n : Int) (code : BoundsCode) (w : World), 0 ≤ n → n ≤ y → (Instr.sliceBound (.int .i64 n) y code).run P w = .ok n.toNat w := fun y n code w h h' => run_sliceBound (P := P) w .i64 n y code h h'
  have hbnd : (Instr.sliceBounds true n q (lo.map st.eval) (hi.map st.eval) none).run P w = .ok (i.toNat, j.toNat, q) w := by
    cases lo with
    | none =>
      have hi0 := hlo' rfl
      subst hi0
      cases hi with
      | none => have := hhi' rfl; subst this; simp [Instr.sliceBounds]
      | some y => simp [Instr.sliceBounds, Sem.run_bind, hbh y rfl, hb q j _ w (by omega) (by omega)]
    | some z =>
      cases hi with
      | none => have := hhi' rfl; subst this; simp [Instr.sliceBounds, Sem.run_bind, hbl z rfl, hb n i _ w h0 h1]
      | some y => simp [Instr.sliceBounds, Sem.run_bind, hbh y rfl, hbl z rfl, hb q j _ w (by omega) (by omega), hb j.toNat i _ w h0 (by omega)]
  refine ⟨.slice (if q = i.toNat then some ⟨b, off, none⟩ else (some (⟨b, off, none⟩ : Addr)).map (·.add (i.toNat * k))) (j.toNat - i.toNat) (q - i.toNat), ?_, ?_⟩
  · simp only [execOp, ho, hxe, Instr.sliceAt, Option.map_none]
    simp [Sem.run_bind, run_underlying h4 w, Instr.slice, hbnd, sizeOf, run_typeInfo w h5, h6]
  · simp only [Rep]
    refine ⟨hU, b, hb', ?_⟩
    by_cases hq : q = i.toNat
    · rw [if_pos hq, if_pos (by omega)]
    · rw [if_neg hq, if_neg (by omega)]
      simp [qcH]
theorem qas {x y : Operand} {t e : TypeId} {k l off n q : Nat} {p : IntKind} {i : Int} (ho : o.op = .indexAddr t x y) (ht : slB P t e k = true) (hx : ev σ.T x = some (.vw l off n q)) (hy : ev σ.T y = some (.imm (.int p i)))
    (h0 : 0 ≤ i) (h1' : i < n) : Stp P c N o σ [] (.ptr l (off + i.toNat * k)) [] := by
  refine qaH fun σ' h1 h2 a w ρ S hc => ?_
  have h := qaF hc (h1 x (by simp [ho, Op.operands]) _ hx)
  have h' := qaF hc (h1 y (by simp [ho, Op.operands]) _ hy)
  simp only [Rep] at h h'
  obtain ⟨hU, b, ⟨m, hb⟩, hx'⟩ := h
  refine ⟨.pointer (some ⟨b, off + i.toNat * k, none⟩), ?_, by simp only [Rep]; exact ⟨hU, b, by rw [hb]; rfl, rfl⟩⟩
  simp only [execOp, ho, hx', h']
  simp [Sem.run_bind, run_indexAt_sl ht w b off n q p i h0 (by omega)]
theorem qbu {x : Operand} {t : TypeId} {l off n k i j : Nat} {b f : Bool} {e : TypeId} {es : List (Option (List D))} {d : List D} {v : AV} (ho : o.op = .load t x) (ht : tfB P t b n = true) (hx : ev σ.T x = some (.ptr l off)) (hl : ok σ.O l = some (.arr e k f es))
    (hoff : off = i * k + j) (hi : es[i]? = some (some d)) (hn : j + n ≤ k) (h0 : 0 < n) (hv : mkA b n ((lift f d).drop j |>.take n) = some v) : Stp P c N o σ [l] v [] := by
  refine qaH fun σ' h1 h2 a w ρ S hc => ?_
  obtain ⟨g, hg, hx'⟩ := eval_ptr hc (h1 x (by simp [ho, Op.operands]) _ hx)
  obtain ⟨b', xs, h3, h4, h5, h6, h7⟩ := hc.O l _ (h2 l (by simp) _ hl)
  rw [h3] at hg; simp only [blk, Option.some.injEq] at hg; subst hg
  obtain ⟨k1, k2, k3⟩ := h7 i d hi
  have hil : i < es.length := (List.getElem?_eq_some_iff.1 hi).1
  have hle : i * k + k ≤ es.length * k := by rw [← Nat.succ_mul]; exact Nat.mul_le_mul_right _ hil
  have e1 : (xs.drop off).take n = (((xs.drop (i * k)).take k).drop j).take n := by
    rw [List.drop_take, List.take_take, Nat.min_eq_left (by omega), List.drop_drop, hoff]
  refine ⟨mkV b ((xs.drop off).take n), ?_, ?_⟩
  · simp only [execOp, ho, hx', Instr.loadAt, Instr.sureAddr]
    have := qcE (P := P) ht w b' off ((xs.drop off).take n) (by simp; omega) (fun j v hv => by rw [qdp h4]; exact take_get hv)
    simp [Sem.run_bind, this]
  · rw [e1]
    exact rep_mkA hv (fun y hy => k3 y (List.mem_of_mem_drop (List.mem_of_mem_take hy))) ((k2.drop j).take n)
def Src (c : Ctx) (N : Nat) (σ : St) (x : Operand) (k : Nat) (f : Bool) (n : Nat) (ds : List (List D)) : Prop := ∀ a w ρ S, Conc c N σ a w ρ S → ∃ A q, a.eval x = .slice A n q ∧ ds.length ≤ n ∧ (∀ d ∈ ds, d.length = k) ∧
  ((A = none ∧ n = 0) ∨ ∃ ad, ∃ us : List Value, A = some ad ∧ us.length = ds.length * k ∧ (∀ (j : Nat) (u : Value), us[j]? = some u → w.cell? (ad.add j) = some u) ∧ (∀ u ∈ us, u.oneCell' = true) ∧ RepL w ρ S σ.U (lift f ds.flatten) us)
theorem src_rowd {x : Operand} {k l : Nat} {f : Bool} {e : TypeId} {es : List (List D)} (hx : ev σ.T x = some (.row l)) (hl : ok σ.O l = some (.rowd e k f es)) : Src c N σ x k f es.length es := by
  intro a w ρ S hc
  have h := qaF hc hx
  simp only [Rep] at h
  obtain ⟨hU, hx', _⟩ := h
  obtain ⟨hes, xs, how, h1, hr⟩ := hc.O l _ hl
  rcases how.2 with ⟨hv, hn⟩ | ⟨g, cap, cur, hv, _, hh, hcap, hmax, hsz, htk⟩
  · exact ⟨none, 0, by rw [hx', hv, hn], Nat.le_refl _, hes, .inl ⟨rfl, hn⟩⟩
  · refine ⟨some ⟨g, 0, none⟩, cap, by rw [hx', hv], Nat.le_refl _, hes, .inr ⟨_, xs, rfl, how.1, fun j u hu => ?_, h1, hr⟩⟩
    rw [qcH, Nat.zero_add]
    exact qcq how (by rw [hv]; rfl) j u hu
end
end Go.Proofs.YtpgceiijoedppaaGreat

namespace Go.Proofs.YtpgceiijoedppaaGreat
open Go
section
variable {P : Program} {c : Ctx} {N : Nat} {Q : Exit → St → Prop} {σ : St} {o : Oper}
theorem Conc.newArr {T : List (Nat × AV)} {O : List (Nat × Ob)} {a : Act} {w : World} {ρ : Nat → Value} {S : Bool → Nat → Prop} (hc : Conc c N ⟨T, O⟩ a w ρ S) {l' k cap : Nat} {e : TypeId} {f : Bool} {ds : List (List D)} {us cs : List Value} (hl : ok O l' = none)
    (hcs : cs.length = cap * k) (hpre : ∃ rest, cs = us ++ rest) (hul : us.length = ds.length * k) (hdl : ∀ d ∈ ds, d.length = k) (h1 : ∀ u ∈ us, u.oneCell' = true) (hr : RepL w ρ S (St.U ⟨T, O⟩) (lift f ds.flatten) us) (hle : ds.length ≤ cap) (hmax : cap ≤ maxLen) (w' : World) (hw' : w' = w.drew.alloc (.cells cs.toArray e)) :
    Conc c N ⟨T, (l', .arr e k f (ds.map some ++ List.replicate (cap - ds.length) none)) :: O⟩ a w' (upd ρ l' (.slice (some ⟨w.heap.size, 0, none⟩) cap cap)) S := by
  subst hw'
  have hw0 := hc.fm.size
  have hfar : Far (fun _ => False) w (w.drew.alloc (.cells cs.toArray e)) := (Far.drew _ w).trans (Far.alloc _ _ _)
  have hg : Conc c N ⟨T, O⟩ a (w.drew.alloc (.cells cs.toArray e)) ρ S := hc.grow hfar (fun _ _ _ h => h) (fun _ _ _ _ _ _ h => h) (fun _ _ h => h.elim)
  have hlen : (ds.map some ++ List.replicate (cap - ds.length) (none : Option (List D))).length = cap := by simp; omega
  have hsz : (w.drew.alloc (.cells cs.toArray e)).heap.size = w.heap.size + 1 := size_alloc' w.drew _
  refine hg.addOb hl (fun b hb => ?_) ⟨w.heap.size, cs, by rw [qb1, hlen], heap_new w.drew _, by rw [hlen]; exact hcs, by rw [hlen]; exact hmax, fun i d hd => ?_⟩
  · simp only [blk, Option.some.injEq] at hb; subst hb
    refine ⟨by omega, by omega, fun g hS => by have := hc.Sb g _ hS; omega, fun m om hm hv e' => by have := hc.lt m om _ hm hv e'; omega⟩
  · have hi : ds[i]? = some d := by
      by_cases hi : i < ds.length
      · rw [List.getElem?_append_left (by simpa using hi), List.getElem?_map] at hd
        obtain ⟨d', h2, h3⟩ := Option.map_eq_some_iff.1 hd
        cases h3; exact h2
      · rw [List.getElem?_append_right (by simpa using hi), List.getElem?_replicate] at hd
        split at hd <;> simp at hd
    obtain ⟨rest, rfl⟩ := hpre
    have hil : i < ds.length := (List.getElem?_eq_some_iff.1 hi).1
    have hle2 : i * k + k ≤ us.length := by rw [hul, ← Nat.succ_mul]; exact Nat.mul_le_mul_right _ hil
    have e1 : ((us ++ rest).drop (i * k)).take k = (us.drop (i * k)).take k := by
      rw [List.drop_append_of_le_length (by omega), List.take_append_of_le_length (by simp; omega)]
    rw [e1]
    refine ⟨hdl d (List.mem_of_getElem? hi), ?_, fun y hy => h1 y (List.mem_of_mem_drop (List.mem_of_mem_take hy))⟩
    have hne : ∀ m, St.U ⟨T, O⟩ m → m ≠ l' := fun m hm e' => by subst e'; simp [St.U, hl] at hm
    exact (repL_elem hdl hr i d hi).mono (fun _ _ h => h) (fun g b hb => hfar.block b (hc.Sb g b hb) (fun h => h)) (fun m hm => U_cons m hm) (fun m hm => qbj (hne m hm))
theorem rep_newvw {T : List (Nat × AV)} {O : List (Nat × Ob)} {w : World} {ρ : Nat → Value} {S : Bool → Nat → Prop} {l' b n cap : Nat} {ob : Ob} : Rep w (upd ρ l' (.slice (some ⟨b, 0, none⟩) cap cap)) S (St.U ⟨T, (l', ob) :: O⟩) (.vw l' 0 n cap) (.slice (some ⟨b, 0, none⟩) n cap) := by
  simp only [Rep]
  exact ⟨by simp [St.U, qa3], b, ⟨cap, by rw [qb1]⟩, rfl⟩
theorem arr_seg {w : World} {ρ : Nat → Value} {S : Bool → Nat → Prop} {U : Nat → Prop} {l k i : Nat} {e : TypeId} {f : Bool} {es : List (Option (List D))} {ds : List (List D)} (h : ObOk w ρ S U l (.arr e k f es)) (hds : ∀ (j : Nat) (d : List D), ds[j]? = some d → es[i + j]? = some (some d)) :
    ∃ b, ∃ us : List Value, ρ l = .slice (some ⟨b, 0, none⟩) es.length es.length ∧ us.length = ds.length * k ∧ (∀ (j : Nat) (u : Value), us[j]? = some u → w.cell? ⟨b, i * k + j, none⟩ = some u) ∧ (∀ u ∈ us, u.oneCell' = true) ∧ RepL w ρ S U (lift f ds.flatten) us ∧ ∀ d ∈ ds, d.length = k := by
  obtain ⟨b, xs, h3, h4, h5, h6, h7⟩ := h
  have hsome : ∀ (j : Nat) (d : List D), ds[j]? = some d → d.length = k ∧ RepL w ρ S U (lift f d) ((xs.drop (i * k + j * k)).take k) ∧ ∀ y ∈ (xs.drop (i * k + j * k)).take k, y.oneCell' = true := fun j d hd => by
    have := h7 _ d (hds j d hd)
    rwa [Nat.add_mul] at this
  have hle : ds = [] ∨ i * k + ds.length * k ≤ xs.length := by
    by_cases h0 : ds = []
    · exact .inl h0
    · right
      have hpos := List.length_pos_iff.2 h0
      obtain ⟨d, hd⟩ : ∃ d, ds[ds.length - 1]? = some d := ⟨_, List.getElem?_eq_getElem (by omega)⟩
      have h9 := (List.getElem?_eq_some_iff.1 (hds _ d hd)).1
      rw [← Nat.add_mul, h5]
      exact Nat.mul_le_mul_right _ (by omega)
  refine ⟨b, (xs.drop (i * k)).take (ds.length * k), h3, ?_, fun j u hu => ?_, ?_, ?_, fun d hd => ?_⟩
  · rcases hle with h0 | h0
    · simp [h0]
    · simp; omega
  · rw [qdp h4]; exact take_get hu
  · rcases hle with h0 | h0
    · subst h0; simp
    · exact (repL_join (w := w) (ρ := ρ) (S := S) (U := U) (f := f) (k := k) (es := ds) (xs := xs) (off := i * k) h0 hsome).2
  · rcases hle with h0 | h0
    · subst h0; simp [lift, RepL]
    · exact (repL_join (w := w) (ρ := ρ) (S := S) (U := U) (f := f) (k := k) (es := ds) (xs := xs) (off := i * k) h0 hsome).1
  · obtain ⟨j, hj⟩ := List.getElem?_of_mem hd
    exact (hsome j d hj).1
theorem TyA.info {t e : TypeId} {k by_ : Nat} (ty : TyA P t e k by_) : ∃ i z, P.underlying t = some (.slice e) ∧ P.info? e = some i ∧ i.zero = some z ∧ i.size = k ∧ i.bytes = by_ ∧ z.cells.size = k := by
  obtain ⟨i, hi1, hi2, hi3⟩ := qcK ty.s
  obtain ⟨z, hz1, hz2⟩ := ty.z
  obtain ⟨i', hi', hzz⟩ := Option.map_eq_some_iff.1 hz1
  rw [hi2] at hi'; simp only [Option.some.injEq] at hi'; subst hi'
  simp only [Prod.mk.injEq] at hzz
  exact ⟨i, z, hi1, hi2, hzz.1, hi3, hzz.2.2, hz2⟩
theorem zeroCells_len (z : Array Value) (n : Nat) : (Builtin.zeroCells z n).toList.length = n * z.size := by
  have := size_zeroCells z n
  simpa using this
theorem Conc.spliceArr {T : List (Nat × AV)} {O : List (Nat × Ob)} {a : Act} {w : World} {ρ : Nat → Value} {S : Bool → Nat → Prop} (hc : Conc c N ⟨T, O⟩ a w ρ S) {l k i m b' : Nat} {e : TypeId} {f : Bool} {es : List (Option (List D))} {ds : List (List D)} {xs us : List Value} (hl : ok O l = some (.arr e k f es)) (hb : ρ l = .slice (some ⟨b', 0, none⟩) m m)
    (h3 : ρ l = .slice (some ⟨b', 0, none⟩) es.length es.length) (h4 : w.heap[b']? = some (.cells xs.toArray e (0, 0))) (h5 : xs.length = es.length * k) (h6 : es.length ≤ maxLen) (h7 : ∀ (i : Nat) (d : List D), es[i]? = some (some d) → d.length = k ∧ RepL w ρ S (St.U ⟨T, O⟩) (lift f d) ((xs.drop (i * k)).take k) ∧ ∀ y ∈ (xs.drop (i * k)).take k, y.oneCell' = true)
    (hul : us.length = ds.length * k) (hu1 : ∀ u ∈ us, u.oneCell' = true) (hur : RepL w ρ S (St.U ⟨T, O⟩) (lift f ds.flatten) us) (hdl : ∀ d ∈ ds, d.length = k) (hfit : i + ds.length ≤ es.length) (hfit2 : i * k + us.length ≤ xs.length) {w' : World} (hw' : w' = w.setRow b' (qaz xs (i * k) us).toArray) :
    Conc c N ⟨T, (l, .arr e k f (qaz es i (ds.map some))) :: O⟩ a w' ρ S := by
  subst hw'
  have hfar : Far (fun g => blk (ρ l) = some g) w (w.setRow b' (qaz xs (i * k) us).toArray) := by rw [hb]; exact far_setRow w b' _
  have hU2 : ∀ m, St.U ⟨T, O⟩ m → St.U ⟨T, (l, .arr e k f (qaz es i (ds.map some))) :: O⟩ m := fun m hm => U_cons m hm
  have hmono : ∀ vs zs, RepL w ρ S (St.U ⟨T, O⟩) vs zs → RepL (w.setRow b' (qaz xs (i * k) us).toArray) ρ S (St.U ⟨T, (l, .arr e k f (qaz es i (ds.map some))) :: O⟩) vs zs := fun vs zs hz =>
    hz.mono (fun _ _ h => h) (fun g b hb' => hfar.block b (hc.Sb g b hb') (fun e' => hc.dS l _ b g hl trivial e' hb')) hU2 (fun _ _ => rfl)
  have hlen2 : (qaz es i (ds.map some)).length = es.length := qb2 (by simpa using hfit)
  have hob : ObOk (w.setRow b' (qaz xs (i * k) us).toArray) ρ S (St.U ⟨T, (l, .arr e k f (qaz es i (ds.map some))) :: O⟩) l (.arr e k f (qaz es i (ds.map some))) := by
    refine ⟨b', qaz xs (i * k) us, by rw [hlen2]; exact h3, setRow_heap w b' _ _ e _ h4, by rw [qb2 hfit2, hlen2]; exact h5, by rw [hlen2]; exact h6, fun j d hd => ?_⟩
    rw [qci (by simpa using hfit)] at hd
    have seg : ∀ (j0 : Nat), (∀ p, p < k → (qaz xs (i * k) us)[j * k + p]? = xs[j * k + p]?) → ((qaz xs (i * k) us).drop (j * k)).take k = (xs.drop (j * k)).take k := fun _ hp => by
      apply List.ext_getElem?
      intro p
      rw [List.getElem?_take, List.getElem?_take, List.getElem?_drop, List.getElem?_drop]
      split
      · rename_i h; exact hp p h
      · rfl
    by_cases c1 : j < i
    · rw [if_pos c1] at hd
      obtain ⟨g1, g2, g3⟩ := h7 j d hd
      have hjk : j * k + k ≤ i * k := by rw [← Nat.succ_mul]; exact Nat.mul_le_mul_right _ c1
      have e2 := seg 0 (fun p hp => by rw [qci hfit2, if_pos (by omega)])
      rw [e2]
      exact ⟨g1, hmono _ _ g2, g3⟩
    · rw [if_neg c1] at hd
      by_cases c2 : j < i + (ds.map some).length
      · rw [if_pos c2, List.getElem?_map] at hd
        obtain ⟨d', hd', e3⟩ := Option.map_eq_some_iff.1 hd
        cases e3
        simp only [List.length_map] at c2
        have hjk : j * k = i * k + (j - i) * k := by rw [← Nat.add_mul, Nat.add_sub_cancel' (by omega)]
        have hjk2 : (j - i) * k + k ≤ us.length := by rw [hul, ← Nat.succ_mul]; exact Nat.mul_le_mul_right _ (by omega)
        have e2 : ((qaz xs (i * k) us).drop (j * k)).take k = (us.drop ((j - i) * k)).take k := by
          apply List.ext_getElem?
          intro p
          rw [List.getElem?_take, List.getElem?_take, List.getElem?_drop, List.getElem?_drop]
          split
          · rename_i hp
            rw [qci hfit2, if_neg (by omega), if_pos (by omega)]
            congr 1; omega
          · rfl
        rw [e2]
        refine ⟨hdl d (List.mem_of_getElem? hd'), hmono _ _ (repL_elem hdl hur _ d hd'), fun y hy => hu1 y (List.mem_of_mem_drop (List.mem_of_mem_take hy))⟩
      · rw [if_neg c2] at hd
        simp only [List.length_map] at c2
        obtain ⟨g1, g2, g3⟩ := h7 j d hd
        have hjk : i * k + ds.length * k ≤ j * k := by rw [← Nat.add_mul]; exact Nat.mul_le_mul_right _ (by omega)
        have e2 := seg 0 (fun p hp => by rw [qci hfit2, if_neg (by omega), if_neg (by omega)])
        rw [e2]
        exact ⟨g1, hmono _ _ g2, g3⟩
  exact hc.modOb hl trivial hfar hob
theorem awps_append_vw {ops : Array Oper} {rest : List Oper} {x y : Operand} {t e : TypeId} {k by_ l n q d : Nat} {f : Bool} {es : List (Option (List D))} {T : List (Nat × AV)} {O : List (Nat × Ob)} (l' : Nat) (olds ds : List (List D)) (ty : TyA P t e k by_) (hg : o.guard = none) (hd : o.dst = some d) (hN : d < N)
    (ho : o.op = .call { callee := .builtin .append, args := #[x, y], argTypes := #[t, t] }) (hx : ev T x = some (.vw l 0 n q)) (hl : ok O l = some (.arr e k f es)) (hq : q = es.length) (hnq : n ≤ q) (hy : Src c N ⟨T, O⟩ y k f ds.length ds) (hpos : 0 < ds.length) (hol : olds.length = n) (hold : ∀ (j : Nat) (d : List D), olds[j]? = some d → es[j]? = some (some d))
    (hl' : ok O l' = none) (hb : (n + ds.length) * by_ ≤ 140737488355328) (hb0 : 0 < by_)
    (Kroom : n + ds.length ≤ q → awps P c N ops rest Q ⟨(d, .vw l 0 (n + ds.length) q) :: T, (l, .arr e k f (qaz es n (ds.map some))) :: O⟩)
    (Kgrow : q < n + ds.length → ∀ cap, n + ds.length ≤ cap → cap ≤ maxLen → awps P c N ops rest Q ⟨(d, .vw l' 0 (n + ds.length) cap) :: T, (l', .arr e k f ((olds ++ ds).map some ++ List.replicate (cap - (olds ++ ds).length) none)) :: O⟩) : awps P c N ops (o :: rest) Q ⟨T, O⟩ := by
  by_cases hroom : n + ds.length ≤ q
  · refine qdx hg ?_
    rintro a w ⟨ρ, S, hc⟩
    obtain ⟨i, z, hi1, hi2, hi3, hi4, hi5, hi6⟩ := ty.info
    have h := qaF hc hx
    simp only [Rep] at h
    obtain ⟨hU, b, ⟨m, hbm⟩, hx'⟩ := h
    obtain ⟨b', xs, h3, h4, h5, h6, h7⟩ := hc.O l _ hl
    have hbm' := hbm
    rw [h3] at hbm'
    simp only [Value.slice.injEq, Option.some.injEq, Addr.mk.injEq] at hbm'
    obtain ⟨⟨rfl, _⟩, _⟩ := hbm'
    obtain ⟨A, qs, hye, hle, hdl, hsrc⟩ := hy a w ρ S hc
    rcases hsrc with ⟨_, h0⟩ | ⟨ad, us, rfl, hul, huc, hu1, hur⟩
    · omega
    have hfit : n + ds.length ≤ es.length := by omega
    have hfit2 : n * k + us.length ≤ xs.length := by rw [hul, h5, ← Nat.add_mul]; exact Nat.mul_le_mul_right _ hfit
    have hrun := run_append_room (P := P) w t o.type e i hi1 hi2 b' n q xs.toArray h4 ad ds.length qs us (by rw [hi4]; exact hul) huc hu1 hroom (by rw [hi4]; simpa using hfit2)
    rw [hi4] at hrun
    have hw' : w.setRow b' (xs.toArray.toList.take (n * k) ++ us ++ xs.toArray.toList.drop (n * k + us.length)).toArray = w.setRow b' (qaz xs (n * k) us).toArray := by simp [qaz]
    rw [hw'] at hrun
    have hC := hc.spliceArr hl hbm h3 h4 h5 h6 h7 hul hu1 hur hdl hfit hfit2 rfl
    unfold Oper.wp
    have hex : (execOp a.eval o).run P w = .ok (.value (.slice (some ⟨b', 0, none⟩) (n + ds.length) q)) (w.setRow b' (qaz xs (n * k) us).toArray) := by
      simp only [execOp, ho, resolve]
      simp [Sem.run_bind, invoke, builtin, hx', hye, hrun]
    rw [hex]
    refine ⟨_, ⟨ρ, S, hC.put (dst := o.dst) (v := .vw l 0 (n + ds.length) q) (by intro d' e'; rw [hd] at e'; cases e'; exact hN) ?_⟩, ?_⟩
    · simp only [Rep]
      exact ⟨by simp [St.U, qa3], b', ⟨m, hbm⟩, rfl⟩
    · simpa [St.put, hd] using Kroom hroom
  · have hgr : q < n + ds.length := by omega
    refine qdx hg ?_
    rintro a w ⟨ρ, S, hc⟩
    obtain ⟨i, z, hi1, hi2, hi3, hi4, hi5, hi6⟩ := ty.info
    have h := qaF hc hx
    simp only [Rep] at h
    obtain ⟨hU, b, ⟨m, hbm⟩, hx'⟩ := h
    obtain ⟨b', xo, h3, hxl, hxc, hx1, hxr, hxd⟩ := arr_seg (i := 0) (ds := olds) (hc.O l _ hl) (by simpa using hold)
    rw [h3] at hbm
    simp only [Value.slice.injEq, Option.some.injEq, Addr.mk.injEq] at hbm
    obtain ⟨⟨rfl, _⟩, _⟩ := hbm
    obtain ⟨A, qs, hye, hle, hdl, hsrc⟩ := hy a w ρ S hc
    rcases hsrc with ⟨_, h0⟩ | ⟨ad, us, rfl, hul, huc, hu1, hur⟩
    · omega
    have hmax : n + ds.length ≤ maxLen := by
      have : n + ds.length ≤ (n + ds.length) * by_ := Nat.le_mul_of_pos_right _ hb0
      simp only [maxLen]; omega
    have hmx : maxLen = 9223372036854775807 := rfl
    have hrun := run_append_grow (P := P) w t o.type e i z hi1 hi2 hi3 ⟨b', 0, none⟩ n q xo (by rw [hi4, hxl, hol]) (fun j v hv => by have := hxc j v hv; rw [qcH]; simpa using this) ad ds.length qs us (by rw [hi4]; exact hul) huc hgr (by omega) (by rw [hi5]; exact growslice_fits hgr hb)
    have hge := grownCap_ge w (n + ds.length) q e
    have hcm := grownCap_le_maxLen w (n + ds.length) q e hmax
    generalize hcap : grownCap w (n + ds.length) q e = cap at *
    have hzl := zeroCells_len z.cells (cap - (n + ds.length))
    rw [hi6] at hzl
    have hfl : lift f (olds ++ ds).flatten = lift f olds.flatten ++ lift f ds.flatten := by simp [lift]
    have hC := hc.newArr (l' := l') (k := k) (cap := cap) (e := e) (f := f) (ds := olds ++ ds) (us := xo ++ us) (cs := (xo ++ us) ++ (Builtin.zeroCells z.cells (cap - (n + ds.length))).toList) hl' (by
        rw [List.length_append, List.length_append, hzl, hxl, hul, hol, ← Nat.add_mul, ← Nat.add_mul]; congr 1; omega) ⟨_, rfl⟩ (by rw [List.length_append, List.length_append, hxl, hul, ← Nat.add_mul]) (fun d hd => by rcases List.mem_append.1 hd with h | h; exact hxd d h; exact hdl d h) (fun u hu => by rcases List.mem_append.1 hu with h | h; exact hx1 u h; exact hu1 u h) (by rw [hfl]; exact hxr.append hur) (by rw [List.length_append, hol]; exact hge) hcm _ rfl
    unfold Oper.wp
    have hex : (execOp a.eval o).run P w = .ok (.value (.slice (some ⟨w.heap.size, 0, none⟩) (n + ds.length) cap)) (w.drew.alloc (.cells ((xo ++ us) ++ (Builtin.zeroCells z.cells (cap - (n + ds.length))).toList).toArray e)) := by
      simp only [execOp, ho, resolve]
      have ea : (xo.toArray ++ us.toArray ++ Builtin.zeroCells z.cells (cap - (n + ds.length))) = ((xo ++ us) ++ (Builtin.zeroCells z.cells (cap - (n + ds.length))).toList).toArray := by
        apply Array.ext'; simp
      rw [ea] at hrun
      simp [Sem.run_bind, invoke, builtin, hx', hye, hrun]
    rw [hex]
    refine ⟨_, ⟨_, S, hC.put (dst := o.dst) (v := .vw l' 0 (n + ds.length) cap) (by intro d' e'; rw [hd] at e'; cases e'; exact hN) rep_newvw⟩, ?_⟩
    simpa [St.put, hd] using Kgrow hgr cap hge hcm
theorem awps_growz_nil {ops : Array Oper} {rest : List Oper} {x y : Operand} {t tn e : TypeId} {k by_ d : Nat} {kn : IntKind} {z : Int} {T : List (Nat × AV)} {O : List (Nat × Ob)} (l' : Nat) (f : Bool) (ty : TyA P t e k by_) (hg : o.guard = none) (hd : o.dst = some d) (hN : d < N) (htn : P.underlying tn = some (.int kn))
    (ho : o.op = .call { callee := .builtin .append, args := #[x, y], argTypes := #[t, tn] }) (hx : ev T x = some (.imm (.slice none 0 0))) (hy : ev T y = some (.imm (.int .i64 z))) (hz : 0 < z)
    (hl' : ok O l' = none) (hb : z * by_ ≤ 140737488355328) (hb0 : 0 < by_)
    (K : ∀ cap : Nat, z ≤ cap → cap ≤ maxLen → awps P c N ops rest Q ⟨(d, .vw l' 0 z.toNat cap) :: T, (l', .arr e k f (List.replicate cap none)) :: O⟩) : awps P c N ops (o :: rest) Q ⟨T, O⟩ := by
  refine qdx hg ?_
  rintro a w ⟨ρ, S, hc⟩
  obtain ⟨i, zv, hi1, hi2, hi3, hi4, hi5, hi6⟩ := ty.info
  have hx' := qaF hc hx
  have hye := qaF hc hy
  simp only [Rep] at hx' hye
  obtain ⟨zn, rfl⟩ : ∃ zn : Nat, z = zn := ⟨z.toNat, by omega⟩
  simp only [Int.toNat_natCast] at K
  have hb' : (0 + zn) * by_ ≤ 140737488355328 := by
    rw [Nat.zero_add]
    have h8 : ((zn * by_ : Nat) : Int) ≤ 140737488355328 := by rw [Int.natCast_mul]; exact hb
    omega
  have hmax : 0 + zn ≤ maxLen := by
    have : 0 + zn ≤ (0 + zn) * by_ := Nat.le_mul_of_pos_right _ hb0
    show _ ≤ 9223372036854775807
    omega
  have hmx : maxLen = 9223372036854775807 := rfl
  have hrun := Lib.run_append_grow_zeros (P := P) w t tn o.type e i zv .i64 kn hi1 htn hi2 hi3 none 0 0 [] (by simp [Builtin.firstCells, Sem.run_pure]) zn (by omega) (by rw [hi4]; exact ty.k0) (by omega) (by omega) (by rw [hi5]; rw [Nat.zero_add] at hb'; omega) (by rw [hi5]; exact growslice_fits (by omega) hb')
  rw [Nat.zero_add] at hrun hmax
  have hge := grownCap_ge w zn 0 e
  have hcm := grownCap_le_maxLen w zn 0 e hmax
  generalize hcap : grownCap w zn 0 e = cap at *
  have hzl := zeroCells_len zv.cells (cap - zn)
  have hzl2 := zeroCells_len zv.cells zn
  rw [hi6] at hzl hzl2
  have hC := hc.newArr (l' := l') (k := k) (cap := cap) (e := e) (f := f) (ds := []) (us := []) (cs := (Builtin.zeroCells zv.cells zn).toList ++ (Builtin.zeroCells zv.cells (cap - zn)).toList) hl' (by
      rw [List.length_append, hzl, hzl2, ← Nat.add_mul]; congr 1; omega) ⟨_, rfl⟩ (by simp) (by simp) (by simp) (by simp [lift, RepL]) (Nat.zero_le _) hcm _ rfl
  unfold Oper.wp
  have hex : (execOp a.eval o).run P w = .ok (.value (.slice (some ⟨w.heap.size, 0, none⟩) zn cap)) (w.drew.alloc (.cells ((Builtin.zeroCells zv.cells zn).toList ++ (Builtin.zeroCells zv.cells (cap - zn)).toList).toArray e)) := by
    simp only [execOp, ho, resolve]
    have ea : ((#[] : Array Value) ++ Builtin.zeroCells zv.cells zn ++ Builtin.zeroCells zv.cells (cap - zn)) = ((Builtin.zeroCells zv.cells zn).toList ++ (Builtin.zeroCells zv.cells (cap - zn)).toList).toArray := by
      apply Array.ext'; simp
    rw [show (([] : List Value).toArray) = #[] from rfl, ea] at hrun
    simp [Sem.run_bind, invoke, builtin, hx', hye, hrun]
  rw [hex]
  refine ⟨_, ⟨_, S, hC.put (dst := o.dst) (v := .vw l' 0 zn cap) (by intro d' e'; rw [hd] at e'; cases e'; exact hN) rep_newvw⟩, ?_⟩
  simpa [St.put, hd] using K cap (by omega) hcm
end
end Go.Proofs.YtpgceiijoedppaaGreat

namespace Go.Proofs.YtpgceiijoedppaaGreat
open Go
section
variable {P : Program} {c : Ctx} {N : Nat} {Q : Exit → St → Prop} {σ : St} {o : Oper}
theorem stp_sldLH {t e : TypeId} {k : Nat} {x y z : Operand} {f : Bool} {es : List (List D)} {i j : Int} (ho : o.op = .slice t x (some y) (some z) none) (ht : slB P t e k = true) (hx : ev σ.T x = some (.dat f k es)) (hy : ev σ.T y = some (.imm (.int .i64 i))) (hz : ev σ.T z = some (.imm (.int .i64 j))) (h0 : 0 ≤ i) (h1 : i ≤ j) (h2 : j ≤ es.length) : Stp P c N o σ [] (.dat f k ((es.take j.toNat).drop i.toNat)) [] :=
  qbz ho ht hx (fun u hu => by cases hu; exact hy) (fun h => by cases h) (fun u hu => by cases hu; exact hz) (fun h => by cases h) h0 h1 h2
theorem stp_sldL {t e : TypeId} {k : Nat} {x y : Operand} {f : Bool} {es : List (List D)} {i : Int} (ho : o.op = .slice t x (some y) none none) (ht : slB P t e k = true) (hx : ev σ.T x = some (.dat f k es)) (hy : ev σ.T y = some (.imm (.int .i64 i))) (h0 : 0 ≤ i) (h2 : i ≤ es.length) : Stp P c N o σ [] (.dat f k (es.drop i.toNat)) [] := by
  have := qbz (P := P) (c := c) (N := N) (i := i) (j := es.length) ho ht hx (fun u hu => by cases hu; exact hy) (fun h => by cases h) (fun u hu => by cases hu) (fun _ => rfl) h0 h2 (Int.le_refl _)
  rwa [show (es.take (es.length : Int).toNat).drop i.toNat = es.drop i.toNat by simp] at this
theorem stp_sldH {t e : TypeId} {k : Nat} {x z : Operand} {f : Bool} {es : List (List D)} {j : Int} (ho : o.op = .slice t x none (some z) none) (ht : slB P t e k = true) (hx : ev σ.T x = some (.dat f k es)) (hz : ev σ.T z = some (.imm (.int .i64 j))) (h0 : 0 ≤ j) (h2 : j ≤ es.length) : Stp P c N o σ [] (.dat f k (es.take j.toNat)) [] := by
  have := qbz (P := P) (c := c) (N := N) (i := 0) (j := j) ho ht hx (fun u hu => by cases hu) (fun _ => rfl) (fun u hu => by cases hu; exact hz) (fun h => by cases h) (Int.le_refl _) h0 h2
  rwa [show (es.take j.toNat).drop (0 : Int).toNat = es.take j.toNat by simp] at this
theorem stp_slvLH {t e : TypeId} {k : Nat} {x y z : Operand} {l off n q : Nat} {i j : Int} (ho : o.op = .slice t x (some y) (some z) none) (ht : slB P t e k = true) (hx : ev σ.T x = some (.vw l off n q)) (hy : ev σ.T y = some (.imm (.int .i64 i))) (hz : ev σ.T z = some (.imm (.int .i64 j))) (h0 : 0 ≤ i) (h1 : i ≤ j) (h2 : j ≤ q) (hnq : n ≤ q) : Stp P c N o σ [] (.vw l (if (q : Int) = i then off else off + i.toNat * k) (j.toNat - i.toNat) (q - i.toNat)) [] :=
  stp_slice_vw ho ht hx (fun u hu => by cases hu; exact hy) (fun h => by cases h) (fun u hu => by cases hu; exact hz) (fun h => by cases h) h0 h1 h2 hnq
theorem stp_slvL {t e : TypeId} {k : Nat} {x y : Operand} {l off n q : Nat} {i : Int} (ho : o.op = .slice t x (some y) none none) (ht : slB P t e k = true) (hx : ev σ.T x = some (.vw l off n q)) (hy : ev σ.T y = some (.imm (.int .i64 i))) (h0 : 0 ≤ i) (h1 : i ≤ n) (hnq : n ≤ q) : Stp P c N o σ [] (.vw l (if (q : Int) = i then off else off + i.toNat * k) (n - i.toNat) (q - i.toNat)) [] := by
  have := stp_slice_vw (P := P) (c := c) (N := N) (i := i) (j := n) ho ht hx (fun u hu => by cases hu; exact hy) (fun h => by cases h) (fun u hu => by cases hu) (fun _ => rfl) h0 h1 (by omega) hnq
  simpa using this
theorem stp_slvH {t e : TypeId} {k : Nat} {x z : Operand} {l off n q : Nat} {j : Int} (ho : o.op = .slice t x none (some z) none) (ht : slB P t e k = true) (hx : ev σ.T x = some (.vw l off n q)) (hz : ev σ.T z = some (.imm (.int .i64 j))) (h0 : 0 ≤ j) (h2 : j ≤ q) (hnq : n ≤ q) : Stp P c N o σ [] (.vw l off j.toNat q) [] := by
  have := stp_slice_vw (P := P) (c := c) (N := N) (i := 0) (j := j) ho ht hx (fun u hu => by cases hu) (fun _ => rfl) (fun u hu => by cases hu; exact hz) (fun h => by cases h) (Int.le_refl _) h0 h2 hnq
  simpa using this
theorem stp_slnH {t e : TypeId} {k : Nat} {x z : Operand} {j : Int} (ho : o.op = .slice t x none (some z) none) (ht : slB P t e k = true) (hx : ev σ.T x = some (.imm (.slice none 0 0))) (hz : ev σ.T z = some (.imm (.int .i64 j))) (h0 : j = 0) : Stp P c N o σ [] (.imm (.slice none 0 0)) [] := by
  refine qaH fun σ' h3 _ st w ρ S hc => ⟨_, ?_, by simp only [Rep]; rfl⟩
  have hx' := qaF hc (h3 x (by simp [ho, Op.operands]) _ hx)
  have hz' := qaF hc (h3 z (by simp [ho, Op.operands]) _ hz)
  simp only [Rep] at hx' hz'
  subst h0
  obtain ⟨it, h4, h5, h6⟩ := qcK ht
  have hb2 : ∀ code, (Instr.sliceBound (.int .i64 0) 0 code).run P w = .ok 0 w := fun code => by simpa using run_sliceBound (P := P) w .i64 0 0 code (by omega) (by omega)
  simp only [execOp, ho, hx', Instr.sliceAt, Option.map_none]
  simp [Sem.run_bind, run_underlying h4 w, Instr.slice, Instr.sliceBounds, hz', hb2, sizeOf, run_typeInfo w h5, h6]
theorem stp_cap_nil {t : TypeId} {x : Operand} {k : Nat} {e : TypeId} (ho : o.op = .call { callee := .builtin .cap, args := #[x], argTypes := #[t] }) (ht : slB P t e k = true) (hx : ev σ.T x = some (.imm (.slice none 0 0))) : Stp P c N o σ [] (.imm (.int .i64 0)) [] := by
  refine qaH fun σ' h1 _ st w ρ S hc => ⟨_, ?_, by simp only [Rep]; rfl⟩
  have hx' := qaF hc (h1 x (by simp [ho, Op.operands, Call.operands]) _ hx)
  simp only [Rep] at hx'
  obtain ⟨i, h2, _⟩ := qcK ht
  simp only [execOp, ho, resolve]
  simp [Sem.run_bind, invoke, builtin, hx', Builtin.cap_, run_underlying h2 w, goInt]
theorem awps_eqnil {ops : Array Oper} {rest : List Oper} {x : Operand} {t t' e : TypeId} {k d : Nat} {f : Bool} {es : List (List D)} {T : List (Nat × AV)} {O : List (Nat × Ob)} (hg : o.guard = none) (hd : o.dst = some d) (hN : d < N) (ht : slB P t e k = true)
    (ho : o.op = .binOp .eql t x (.const (.slice none 0 0)) t') (hx : ev T x = some (.dat f k es))
    (K : ∀ b, (b = true → es = []) → awps P c N ops rest Q ⟨(d, .imm (.bool b)) :: T, O⟩) : awps P c N ops (o :: rest) Q ⟨T, O⟩ := by
  refine qdx hg ?_
  rintro a w ⟨ρ, S, hc⟩
  have hx' := qaF hc hx
  simp only [Rep, RepD] at hx'
  obtain ⟨A, n, cp, hxe, hn, _, _, h⟩ := hx'
  obtain ⟨it, h4, h5, h6⟩ := qcK ht
  have hex : (execOp a.eval o).run P w = .ok (.value (.bool A.isNone)) w := by
    have e1 : a.eval (.const (.slice none 0 0)) = .slice none 0 0 := rfl
    simp only [execOp, ho, hxe, e1]
    simp [Sem.run_bind, eqGuard, Lib.run_eql_slice_nil w t e A n cp 0 0 h4]
  unfold Oper.wp
  rw [hex]
  refine ⟨_, ⟨ρ, S, hc.put (dst := o.dst) (v := .imm (.bool A.isNone)) (by intro d' e'; rw [hd] at e'; cases e'; exact hN) (by simp [Rep])⟩, ?_⟩
  have := K A.isNone (fun hA => by
    rcases h with h | ⟨b, off, h, _⟩
    · exact List.eq_nil_of_length_eq_zero (by omega)
    · rw [h] at hA; cases hA)
  simpa [St.put, hd] using this
theorem stp_shr {t t' : TypeId} {x y : Operand} {k yk : IntKind} {a b : Int} (ho : o.op = .binOp .shr t x y t') (hx : ev σ.T x = some (.imm (.int k a))) (hy : ev σ.T y = some (.imm (.int yk b))) (h0 : 0 ≤ b) : Stp P c N o σ [] (.imm (.int k (a / 2 ^ min b.toNat k.bits))) [] := by
  refine qaH fun σ' h1 _ s w ρ S hc => ⟨_, ?_, by simp only [Rep]; rfl⟩
  have hx' := qaF hc (h1 x (by simp [ho, Op.operands]) _ hx)
  have hy' := qaF hc (h1 y (by simp [ho, Op.operands]) _ hy)
  simp only [Rep] at hx' hy'
  simp only [execOp, ho, hx', hy']
  simp [Sem.run_bind, eqGuard, binOp, shift_shr_any k yk a b h0]
theorem awps_via {ops : Array Oper} {rest : List Oper} (σ' : St) (h : ∀ Q, awps P c N ops rest Q σ' → awps P c N ops (o :: rest) Q σ) (K : awps P c N ops rest Q σ') : awps P c N ops (o :: rest) Q σ := h Q K
theorem Src.hx {x : Operand} {k n : Nat} {f : Bool} {ds : List (List D)} (h : Src c N σ x k f n ds) (hn : n = ds.length) : ∀ a w ρ S, Conc c N σ a w ρ S → ∃ A n c', a.eval x = .slice A n c' ∧ n = ds.length ∧ ((A = none ∧ n = 0) ∨ ∃ ad, ∃ us : List Value, A = some ad ∧ us.length = n * k ∧ (∀ j u, us[j]? = some u → w.cell? (ad.add j) = some u) ∧ (∀ u ∈ us, u.oneCell' = true) ∧ RepL w ρ S σ.U (lift f ds.flatten) us) := by
  subst hn
  intro a w ρ S hc
  obtain ⟨A, q, h1, _, _, h2⟩ := h a w ρ S hc
  exact ⟨A, ds.length, q, h1, rfl, h2⟩
theorem src_dat {x : Operand} {k : Nat} {f : Bool} {es : List (List D)} (hk : ∀ d ∈ es, d.length = k) (hx : ev σ.T x = some (.dat f k es)) : Src c N σ x k f es.length es := by
  intro a w ρ S hc
  have h := qaF hc hx
  simp only [Rep, RepD] at h
  obtain ⟨A, n, cp, hxe, rfl, _, _, h⟩ := h
  rcases h with h | ⟨b, off, rfl, hS, _, hes⟩
  · cases A with
    | none => exact ⟨none, cp, hxe, Nat.le_refl _, hk, .inl ⟨rfl, h⟩⟩
    | some ad =>
      have hnil : es = [] := List.eq_nil_of_length_eq_zero h
      subst hnil
      exact ⟨some ad, cp, hxe, Nat.le_refl _, hk, .inr ⟨ad, [], rfl, by simp, by simp, by simp, by simp [lift, RepL]⟩⟩
  · have hcs : ∀ {es : List (List D)} {off : Nat}, qch w f (S f) b k off es → qbE w f (S f) b off es.flatten := by
      intro es
      induction es with
      | nil => intro off _; simp [qbE]
      | cons e es ih =>
        intro off h
        simp only [qch] at h
        have app : ∀ {xs ys : List D} {off : Nat}, qbE w f (S f) b off xs → qbE w f (S f) b (off + xs.length) ys → qbE w f (S f) b off (xs ++ ys) := by
          intro xs
          induction xs with
          | nil => intro ys off _ h; simpa using h
          | cons x xs ih => intro ys off h1 h2; simp only [qbE, List.cons_append] at h1 ⊢; exact ⟨h1.1, ih h1.2 (by simpa [Nat.add_assoc, Nat.add_comm 1] using h2)⟩
        rw [List.flatten_cons]
        exact app h.1.2 (by rw [h.1.1]; exact ih h.2)
    obtain ⟨us, h2, h3, h4⟩ := repCs_list (ρ := ρ) (U := σ.U) (hcs hes)
    have hfl : ∀ {es : List (List D)}, (∀ d ∈ es, d.length = k) → es.flatten.length = es.length * k := by
      intro es
      induction es with
      | nil => intro _; simp
      | cons e es ih => intro h; rw [List.flatten_cons, List.length_append, h e (by simp), ih (fun d hd => h d (by simp [hd])), List.length_cons, Nat.add_mul]; omega
    have hul : us.length = es.length * k := by rw [h2.length]; simp only [lift, List.length_map]; exact hfl hk
    exact ⟨some ⟨b, off, none⟩, cp, hxe, Nat.le_refl _, hk, .inr ⟨_, us, rfl, hul, fun j u hu => by rw [qcH]; exact h4 j u hu, h3, h2⟩⟩
theorem awps_append_src {ops : Array Oper} {rest : List Oper} {s x : Operand} {t e : TypeId} {k by_ l d n : Nat} {f : Bool} {es news : List (List D)} {T : List (Nat × AV)} {O : List (Nat × Ob)} (l' : Nat) (ty : TyA P t e k by_) (hg : o.guard = none) (hd : o.dst = some d) (hN : d < N)
    (ho : o.op = .call { callee := .builtin .append, args := #[s, x], argTypes := #[t, t] }) (hs : ev T s = some (.row l)) (hl : ok O l = some (.rowd e k f es)) (hx : Src c N ⟨T, O⟩ x k f n news) (hn : n = news.length) (hk : ∀ d ∈ news, d.length = k) (hL : ¬ c.L l) (hl' : ok O l' = none) (hb : (es.length + news.length) * by_ ≤ 140737488355328) (hb0 : Nat.ble 1 by_ = true)
    (K : awps P c N ops rest Q ⟨(d, .row l') :: T, (l', .rowd e k f (es ++ news)) :: (l, .dead) :: O⟩) : awps P c N ops (o :: rest) Q ⟨T, O⟩ := by
  refine qdx hg fun a w hc => Oper.wp_mono ?_ (append_new ty ho (by intro e he; rw [hd] at he; cases he; exact hN) hs hl hL hl' (hx.hx hn) hk hb (Nat.le_of_ble_eq_true hb0) a w hc)
  rintro a w ⟨σ2, h2, rfl⟩
  refine ⟨_, h2, ?_⟩
  simpa [St.add, hd] using K
end
def ins {α : Type} (l : List α) (i : Nat) (x : α) : List α := l.take i ++ x :: l.drop i
theorem ins_length {α : Type} (l : List α) (i : Nat) (x : α) (h : i ≤ l.length) : (ins l i x).length = l.length + 1 := by simp [ins]; omega
end Go.Proofs.YtpgceiijoedppaaGreat

namespace Go.Proofs.YtpgceiijoedppaaGreat
open Go
mutual
def AV.hd (p : Nat → Bool) : AV → AV
  | .ptr l off => if p l then .ptr l off else .any
  | .row l => if p l then .row l else .any
  | .map l => if p l then .map l else .any
  | .vw l off n c => if p l then .vw l off n c else .any
  | .agg cs => .agg (AV.hds p cs)
  | .fn f cs => .fn f (AV.hds p cs)
  | .tup cs => .tup (AV.hds p cs)
  | .any => .any
  | .imm v => .imm v
  | .dat f k es => .dat f k es
  | .elp f ds => .elp f ds
def AV.hds (p : Nat → Bool) : List AV → List AV
  | [] => []
  | v :: vs => AV.hd p v :: AV.hds p vs
end
mutual
theorem Rep.hd {w : World} {ρ : Nat → Value} {S : Bool → Nat → Prop} {U U' : Nat → Prop} {p : Nat → Bool} (hU : ∀ l, p l = true → U' l) : ∀ (v : AV) (x : Value), Rep w ρ S U v x → Rep w ρ S U' (AV.hd p v) x
  | .any, x, h => by simp [AV.hd, Rep]
  | .imm v, x, h => by simpa [AV.hd, Rep] using h
  | .dat f k es, x, h => by simpa only [AV.hd, Rep] using h
  | .elp f ds, x, h => by simpa only [AV.hd, Rep] using h
  | .agg cs, x, h => by
    simp only [AV.hd, Rep] at h ⊢
    obtain ⟨xs, hx, h1, h⟩ := h
    exact ⟨xs, hx, h1, RepL.hd hU cs xs h⟩
  | .fn f cs, x, h => by
    simp only [AV.hd, Rep] at h ⊢
    obtain ⟨xs, hx, h⟩ := h
    exact ⟨xs, hx, RepL.hd hU cs xs h⟩
  | .tup cs, x, h => by
    simp only [AV.hd, Rep] at h ⊢
    obtain ⟨xs, hx, h⟩ := h
    exact ⟨xs, hx, RepL.hd hU cs xs h⟩
  | .ptr l off, x, h => by
    simp only [AV.hd]
    split
    · rename_i hp; simp only [Rep] at h ⊢; exact ⟨hU l hp, h.2⟩
    · simp [Rep]
  | .row l, x, h => by
    simp only [AV.hd]
    split
    · rename_i hp; simp only [Rep] at h ⊢; exact ⟨hU l hp, h.2⟩
    · simp [Rep]
  | .map l, x, h => by
    simp only [AV.hd]
    split
    · rename_i hp; simp only [Rep] at h ⊢; exact ⟨hU l hp, h.2⟩
    · simp [Rep]
  | .vw l off n c, x, h => by
    simp only [AV.hd]
    split
    · rename_i hp; simp only [Rep] at h ⊢; exact ⟨hU l hp, h.2⟩
    · simp [Rep]
theorem RepL.hd {w : World} {ρ : Nat → Value} {S : Bool → Nat → Prop} {U U' : Nat → Prop} {p : Nat → Bool} (hU : ∀ l, p l = true → U' l) : ∀ (vs : List AV) (xs : List Value), RepL w ρ S U vs xs → RepL w ρ S U' (AV.hds p vs) xs
  | [], xs, h => by simpa [AV.hds, RepL] using h
  | v :: vs, xs, h => by
    simp only [AV.hds, RepL] at h ⊢
    obtain ⟨y, ys, hx, h1, h2⟩ := h
    exact ⟨y, ys, hx, Rep.hd hU v y h1, RepL.hd hU vs ys h2⟩
end
inductive PassTP (O : List (Nat × Ob)) (p : Nat → Bool) : List (Nat × Ob) → Prop where
  | nil : PassTP O p []
  | cons {l : Nat} {ob : Ob} {r : List (Nat × Ob)} (h : ok O l = some ob) (hl : ob.live) (ha : ob.allL p = true) (hr : PassTP O p r) : PassTP O p ((l, ob) :: r)
theorem PassTP.get {O : List (Nat × Ob)} {p : Nat → Bool} : ∀ {L : List (Nat × Ob)}, PassTP O p L → ∀ {l : Nat} {ob : Ob}, ok L l = some ob → ok O l = some ob ∧ ob.live ∧ ob.allL p = true
  | _, .nil, l, ob, h => by simp [ok] at h
  | _, .cons h hl ha hr, l, ob, hk => by
    rw [qa3] at hk
    split at hk
    · rename_i e; subst e; cases hk; exact ⟨h, hl, ha⟩
    · exact hr.get hk
section
variable {P : Program} {c : Ctx} {N : Nat} {Q : Exit → St → Prop} {σ : St} {o : Oper}
theorem stp_buildSlice0 {t e : TypeId} {k : Nat} {zs : List Value} (l : Nat) (f : Bool) (ho : o.op = .buildSlice t 0 #[]) (ht : slB P t e k = true) (hz : zvB P e = some (some zs)) : Stp P c N o σ [] (.row l) [(l, .rowd e k f [])] := by
  rintro hd σ' h2 _ hnew
  refine aop_new (p0 := fun b => .slice (some ⟨b, 0, none⟩) 0 0) hd (hnew _ (List.mem_singleton.2 rfl)) fun a w ρ S hc => ?_
  obtain ⟨i, z, h3, h4, h5⟩ := zv_spec hz
  obtain ⟨i', h6, h7, h8⟩ := qcK ht
  rw [h3] at h7; simp only [Option.some.injEq] at h7; subst h7
  refine ⟨.cells #[] e, ?_, rfl, fun ρ' U' hρ hU hl hp => ⟨⟨by simp, [], ⟨by simp, .inr ⟨w.heap.size, 0, #[], hp, Nat.zero_le _, heap_new w _, Nat.le_refl _, Nat.zero_le _, by simp, by simp⟩⟩, by simp, by simp [lift, RepL]⟩, ?_⟩⟩
  · simp only [execOp, ho]
    simp [Sem.run_bind, Instr.buildSlice, run_underlying h6 w, sizeOf, run_typeInfo w h3, h8, run_zero h3 h4, Instr.fill, newRow, run_newObj_alloc]
    congr 2
    exact Array.eq_empty_of_size_eq_zero (by simp)
  · simp only [Rep]
    exact ⟨hl, hp.symm, _, _, _, rfl⟩
end
end Go.Proofs.YtpgceiijoedppaaGreat

namespace Go.Proofs.YtpgceiijoedppaaGreat
open Go
section
variable {P : Program} {c : Ctx} {N : Nat} {Q : Exit → St → Prop} {σ : St} {o : Oper}
theorem stp_buildSliceD {t e : TypeId} {n k : Nat} {parts : List (Nat × Operand)} {zs : List Value} {avs : List (Nat × List AV)} {cs : List AV} {ds : List D} (f : Bool) (ho : o.op = .buildSlice t n parts.toArray) (ht : slB P t e k = true) (hz : zvB P e = some (some zs)) (h1 : zs.all (·.oneCell') = true) (hzl : zs.length = k) (hk : 0 < k) (hn : n * k ≤ 16777216)
    (hn0 : 0 < n) (ha : partsA σ.T parts = some avs) (hf : fillA (fun i => some (i * k, k)) (List.replicate (n * k) .any) avs = some cs) (hcs : cs.length = n * k) (hds : toDs f cs = some ds) (hzk : f = true → Zsz e = k := by first | (intro h; cases h; done) | (intro _; kernel_rfl)) : Stp P c N o σ [] (.dat f k (chunk k n ds)) [] := by
  rintro hd σ' h2 _ _ a w ⟨ρ, S, hc⟩
  obtain ⟨i, z, h3, h4, h5⟩ := zv_spec hz
  obtain ⟨i', h6, h7, h8⟩ := qcK ht
  rw [h3] at h7; simp only [Option.some.injEq] at h7; subst h7
  have hP := parts_rep hc (fun p hp u hu => h2 p.2 (by simp only [ho, Op.operands]; simpa using ⟨p.1, hp⟩) u hu) ha
  have hz0 : ((Array.range (n * k)).map (z.cells[· % z.cells.size]!)).toList.length = n * k := by simp
  have hr0 := repL_any (w := w) (ρ := ρ) (S := S) (U := σ'.U) ((Array.range (n * k)).map (z.cells[· % z.cells.size]!)).toList
  rw [hz0] at hr0
  obtain ⟨xs, hx, hr, hone⟩ := fill_rep (pl := fun i => some (i * k, k)) hP hr0 (zeros_one h1 _ z h5 (by omega)) hf
  have hxl := hr.length
  have hrun : (Instr.buildSlice t n (parts.map fun (p : Nat × Operand) => (p.1, a.eval p.2)).toArray).run P w = .ok (.slice (some ⟨w.heap.size, 0, none⟩) n n) (w.alloc (.cells xs.toArray e)) := by
    have hpos : 0 < n * k := Nat.mul_pos hn0 hk
    have hx' : Instr.fill (fun i => some (i * k, k)) ((Array.range (n * k)).map (z.cells[· % z.cells.size]!)) (parts.map fun (p : Nat × Operand) => (p.1, a.eval p.2)) = some xs.toArray := by rw [← hx]
    simp only [Instr.buildSlice, Sem.run_bind, run_underlying h6 w, Result.andThen_ok, sizeOf, run_typeInfo w h3, Sem.run_pure, h8]
    rw [if_neg (by omega), if_neg (by omega)]
    simp only [Sem.run_bind, run_zero h3 h4, Result.andThen_ok, Sem.run_pure]
    rw [hx']
    simp [newRow, Sem.run_bind, run_newObj_alloc]
  have hrun2 : (execOp a.eval o).run P w = .ok (.value (.slice (some ⟨w.heap.size, 0, none⟩) n n)) (w.alloc (.cells xs.toArray e)) := by
    simp only [execOp, ho]
    simp only [List.map_toArray]
    simp [Sem.run_bind, hrun]
  unfold Oper.wp
  rw [hrun2]
  have hw0 := hc.fm.size
  have hle : n ≤ n * k := Nat.le_mul_of_pos_right n hk
  have hmx : n ≤ maxLen := by simp only [maxLen]; omega
  have hg : Conc c N ⟨σ'.T, σ'.O⟩ a (w.alloc (.cells xs.toArray e)) ρ S := hc.grow (Far.alloc (fun _ => False) w _) (fun _ _ _ h => h) (fun _ _ _ _ _ _ h => h) (fun _ _ h => h.elim)
  let S' : Bool → Nat → Prop := fun g b => S g b ∨ (g = f ∧ b = w.heap.size)
  have hS : ∀ g b, S g b → S' g b := fun g b h => .inl h
  have hsz : (w.alloc (.cells xs.toArray e)).heap.size = w.heap.size + 1 := size_alloc' w _
  have hS2 : Conc c N ⟨σ'.T, σ'.O⟩ a (w.alloc (.cells xs.toArray e)) ρ S' :=
    ⟨hg.tm, hg.df, fun t v ht => (hg.T t v ht).mono hS (fun _ _ _ => rfl) (fun _ h => h) (fun _ _ => rfl),
      fun l o hl => (hg.O l o hl).mono hS (fun _ _ _ => rfl) (fun _ h => h) (fun _ _ => rfl) (by simp [St.U, hl]) (fun _ _ => rfl),
      hg.dj, fun l o b g hl hv hb hs => by
        rcases hs with hs | ⟨_, rfl⟩
        · exact hg.dS l o b g hl hv hb hs
        · exact Nat.lt_irrefl _ (hc.lt l o _ hl hv hb),
      hg.wr, hg.lt, fun b hb => by
        obtain ⟨h3 | ⟨h3, e3⟩, h4 | ⟨h4, e4⟩⟩ := hb
        · exact hg.SS b ⟨h3, h4⟩
        · exact Nat.lt_irrefl _ (e4 ▸ hc.Sb true b h3)
        · exact Nat.lt_irrefl _ (e3 ▸ hc.Sb false b h4)
        · exact absurd (h3.trans h4.symm) (by decide),
      fun g b hb => by
        rcases hb with hb | ⟨_, rfl⟩
        · exact hg.Sb g b hb
        · rw [hsz]; omega,
      fun b hb => by
        rcases hb with hb | ⟨_, rfl⟩
        · exact hg.Sn b hb
        · exact .inr hw0,
      fun b hb => by
        rcases hb with hb | ⟨_, rfl⟩
        · exact hg.So b hb
        · exact .inr hw0,
      hg.lo, hg.fm.mono (fun g b h => ⟨g, hS g b h⟩) (fun b h => h.imp id fun h => ⟨xs.toArray, e, by obtain ⟨_, h2⟩ := h; subst h2; exact heap_new w _⟩)⟩
  have how : (w.alloc (.cells xs.toArray e)).ownsRow 0 e k (.slice (some ⟨w.heap.size, 0, none⟩) n n) n xs :=
    ⟨by omega, .inr ⟨w.heap.size, n, xs.toArray, rfl, Nat.zero_le _, heap_new w _, Nat.le_refl _, hmx, by simp; omega, by simp; rw [List.take_of_length_le (by omega)]⟩⟩
  have e1 := toDs_lift hds
  have hdl : ds.length = n * k := by rw [← hcs, e1]; simp [lift]
  obtain ⟨c1, c2, c3⟩ := chunk_spec k n ds hdl
  have hv : Rep (w.alloc (.cells xs.toArray e)) ρ S' (St.U ⟨σ'.T, σ'.O⟩) (.dat f k (chunk k n ds)) (.slice (some ⟨w.heap.size, 0, none⟩) n n) := by
    simp only [Rep, RepD]
    refine ⟨some ⟨w.heap.size, 0, none⟩, n, n, rfl, c2.symm, Nat.le_refl _, hmx, .inr ⟨w.heap.size, 0, rfl, .inr ⟨rfl, rfl⟩, fun hf => ⟨Nat.zero_mod _, _, _, _, heap_new w _, hzk hf⟩, ?_⟩⟩
    have hr2 : RepL (w.alloc (.cells xs.toArray e)) ρ S' (St.U ⟨σ'.T, σ'.O⟩) (lift f (chunk k n ds).flatten) xs := by
      rw [c1, ← e1]
      exact hr.mono hS (fun g b hb => (Far.alloc (fun _ => False) w _).block b (hc.Sb g b hb) (fun h => h)) (fun _ h => h) (fun _ _ => rfl)
    exact repEs_row (b := w.heap.size) (fun _ _ => trivial) (off := 0) c3 hr2 hone (fun j u hu => by rw [Nat.zero_add]; exact qcq how rfl j u hu)
  have := hS2.put (dst := o.dst) hd hv
  refine ⟨_, ⟨ρ, S', this⟩, ?_⟩
  cases o.dst <;> simp [St.put, St.add]
end
end Go.Proofs.YtpgceiijoedppaaGreat

namespace Go.Proofs.YtpgceiijoedppaaGreat
open Go
mutual
def ShD : D → D → Prop
  | .imm v, d' => ∃ v', d' = .imm v' ∧ SpV v v'
  | .sl k es, d' => ∃ es', d' = .sl k es' ∧ (es' = [] ∨ ShEs es es')
def ShEs : List (List D) → List (List D) → Prop
  | [], es' => es' = []
  | e :: es, es' => ∃ e' es'', es' = e' :: es'' ∧ ShCs e e' ∧ ShEs es es''
def ShCs : List D → List D → Prop
  | [], ds' => ds' = []
  | d :: ds, ds' => ∃ d' ds'', ds' = d' :: ds'' ∧ ShD d d' ∧ ShCs ds ds''
end
mutual
theorem ShD.refl : ∀ d : D, ShD d d
  | .imm v => by simp only [ShD]; exact ⟨v, rfl, .inl rfl⟩
  | .sl k es => by simp only [ShD]; exact ⟨es, rfl, .inr (ShEs.refl es)⟩
theorem ShEs.refl : ∀ es : List (List D), ShEs es es
  | [] => by simp only [ShEs]
  | e :: es => by simp only [ShEs]; exact ⟨e, es, rfl, ShCs.refl e, ShEs.refl es⟩
theorem ShCs.refl : ∀ ds : List D, ShCs ds ds
  | [] => by simp only [ShCs]
  | d :: ds => by simp only [ShCs]; exact ⟨d, ds, rfl, ShD.refl d, ShCs.refl ds⟩
end
theorem ShEs.length : ∀ {es es' : List (List D)}, ShEs es es' → es'.length = es.length
  | [], es', h => by simp only [ShEs] at h; rw [h]
  | e :: es, es', h => by simp only [ShEs] at h; obtain ⟨e', es'', rfl, _, h⟩ := h; simp [h.length]
theorem ShCs.length : ∀ {ds ds' : List D}, ShCs ds ds' → ds'.length = ds.length
  | [], es', h => by simp only [ShCs] at h; rw [h]
  | e :: es, es', h => by simp only [ShCs] at h; obtain ⟨e', es'', rfl, _, h⟩ := h; simp [h.length]
theorem SpB.cell {w w' : World} {b off : Nat} {v : Value} (h : SpB w.heap[b]? w'.heap[b]?) (hv : w.cell? ⟨b, off, none⟩ = some v) : ∃ v', w'.cell? ⟨b, off, none⟩ = some v' ∧ SpV v v' := by
  rcases h with h | ⟨cur, cur', ty, fr, h1, h2, hs, h⟩
  · exact ⟨v, by rw [World.cell?_of_block (w := w) h]; exact hv, .inl rfl⟩
  · simp only [World.cell?, h1] at hv
    have hv : cur[off]? = some v := by simpa using hv
    have hlt : off < cur'.size := by have := (Array.getElem?_eq_some_iff.1 hv).1; omega
    refine ⟨cur'[off], ?_, h off v _ hv (Array.getElem?_eq_getElem hlt)⟩
    simp only [World.cell?, h2]
    simp [hlt]
theorem SpB.al {w w' : World} {b k off : Nat} (h : SpB w.heap[b]? w'.heap[b]?) (ha : Al w b k off) : Al w' b k off := by
  rcases h with h | ⟨cur, cur', ty, fr, h1, h2, hs, h⟩
  · exact ha.of_block h
  · obtain ⟨h3, cur0, ty0, fr0, h4, h5⟩ := ha
    rw [h1] at h4; cases h4
    exact ⟨h3, cur', ty, fr, h2, h5⟩
theorem SpV.one {x y : Value} (h : SpV x y) (hx : x.oneCell' = true) : y.oneCell' = true := by
  rcases h with rfl | ⟨_, _, _, rfl, rfl⟩ | ⟨_, _, rfl, rfl⟩ | ⟨_, _, _, rfl, rfl⟩
  · exact hx
  · rfl
  · rfl
  · rfl
mutual
theorem RepD.sp {w w' : World} {F : Bool} {S : Nat → Prop} (hw : ∀ b, S b → SpB w.heap[b]? w'.heap[b]?) : ∀ (d : D) (x : Value), RepD w F S d x → ∃ d', ShD d d' ∧ RepD w' F S d' x
  | .imm v, x, h => ⟨.imm v, ShD.refl _, by simpa [RepD] using h⟩
  | .sl k es, x, h => by
    simp only [RepD] at h
    obtain ⟨A, n, c, rfl, hn, hc, hm, h⟩ := h
    rcases h with h | ⟨b, off, hA, hb, hal, h⟩
    · exact ⟨.sl k es, ShD.refl _, by simp only [RepD]; exact ⟨A, n, c, rfl, hn, hc, hm, .inl h⟩⟩
    · obtain ⟨es', h1, h2⟩ := qch.sp hw b k hb off es h
      refine ⟨.sl k es', by simp only [ShD]; exact ⟨es', rfl, .inr h1⟩, ?_⟩
      simp only [RepD]
      exact ⟨A, n, c, rfl, by rw [h1.length]; exact hn, hc, hm, .inr ⟨b, off, hA, hb, fun e => (hw b hb).al (hal e), h2⟩⟩
theorem qch.sp {w w' : World} {F : Bool} {S : Nat → Prop} (hw : ∀ b, S b → SpB w.heap[b]? w'.heap[b]?) (b k : Nat) (hb : S b) : ∀ (off : Nat) (es : List (List D)), qch w F S b k off es → ∃ es', ShEs es es' ∧ qch w' F S b k off es'
  | _, [], _ => ⟨[], by simp only [ShEs], by simp [qch]⟩
  | off, e :: es, h => by
    simp only [qch] at h
    obtain ⟨e', h1, h2⟩ := qbE.sp hw b hb off e h.1.2
    obtain ⟨es', h3, h4⟩ := qch.sp hw b k hb (off + k) es h.2
    refine ⟨e' :: es', by simp only [ShEs]; exact ⟨e', es', rfl, h1, h3⟩, ?_⟩
    simp only [qch]
    exact ⟨⟨by rw [h1.length]; exact h.1.1, h2⟩, h4⟩
theorem qbE.sp {w w' : World} {F : Bool} {S : Nat → Prop} (hw : ∀ b, S b → SpB w.heap[b]? w'.heap[b]?) (b : Nat) (hb : S b) : ∀ (off : Nat) (ds : List D), qbE w F S b off ds → ∃ ds', ShCs ds ds' ∧ qbE w' F S b off ds'
  | _, [], _ => ⟨[], by simp only [ShCs], by simp [qbE]⟩
  | off, d :: ds, h => by
    simp only [qbE] at h
    obtain ⟨⟨v, hv, h1, hd⟩, h⟩ := h
    obtain ⟨ds', h3, h4⟩ := qbE.sp hw b hb (off + 1) ds h
    obtain ⟨v', hv', hs⟩ := (hw b hb).cell hv
    have key : ∃ d', ShD d d' ∧ RepD w' F S d' v' := by
      have hsame : v' = v → ∃ d', ShD d d' ∧ RepD w' F S d' v' := fun e => by rw [e]; exact RepD.sp hw d v hd
      cases d with
      | imm u =>
        simp only [RepD] at hd; subst hd
        exact ⟨.imm v', by simp only [ShD]; exact ⟨v', rfl, hs⟩, by simp [RepD]⟩
      | sl k es =>
        rcases hs with hs | ⟨_, _, _, hs, _⟩ | ⟨_, _, hs, _⟩ | ⟨A, n, c, hs, rfl⟩
        · exact hsame hs
        · simp only [RepD] at hd; obtain ⟨_, _, _, h5, _⟩ := hd; rw [hs] at h5; cases h5
        · simp only [RepD] at hd; obtain ⟨_, _, _, h5, _⟩ := hd; rw [hs] at h5; cases h5
        · exact ⟨.sl k [], by simp only [ShD]; exact ⟨[], rfl, .inl rfl⟩, by simp only [RepD]; exact ⟨none, 0, 0, rfl, rfl, Nat.le_refl _, Nat.zero_le _, .inl rfl⟩⟩
    obtain ⟨d', h5, h6⟩ := key
    refine ⟨d' :: ds', by simp only [ShCs]; exact ⟨d', ds', rfl, h5, h3⟩, ?_⟩
    simp only [qbE]
    exact ⟨⟨v', hv', hs.one h1, h6⟩, h4⟩
end
mutual
def ShV : AV → AV → Prop
  | .any, v' => v' = .any
  | .imm v, v' => v' = .imm v
  | .dat f k es, v' => ∃ es', v' = .dat f k es' ∧ (if f = true then ShEs es es' else es' = es)
  | .agg cs, v' => ∃ cs', v' = .agg cs' ∧ ShL cs cs'
  | .ptr l off, v' => v' = .ptr l off
  | .elp f cs, v' => ∃ cs', v' = .elp f cs' ∧ (if f = true then ShCs cs cs' else cs' = cs)
  | .row l, v' => v' = .row l
  | .fn f cs, v' => ∃ cs', v' = .fn f cs' ∧ ShL cs cs'
  | .map l, v' => v' = .map l
  | .tup cs, v' => ∃ cs', v' = .tup cs' ∧ ShL cs cs'
  | .vw l off n c, v' => v' = .vw l off n c
def ShL : List AV → List AV → Prop
  | [], vs' => vs' = []
  | v :: vs, vs' => ∃ v' vs'', vs' = v' :: vs'' ∧ ShV v v' ∧ ShL vs vs''
end
mutual
theorem ShV.refl : ∀ v : AV, ShV v v
  | .any => by simp only [ShV]
  | .imm v => by simp only [ShV]
  | .dat f k es => by simp only [ShV]; exact ⟨es, rfl, by split; exact ShEs.refl es; rfl⟩
  | .agg cs => by simp only [ShV]; exact ⟨cs, rfl, ShL.refl cs⟩
  | .ptr l off => by simp only [ShV]
  | .elp f cs => by simp only [ShV]; exact ⟨cs, rfl, by split; exact ShCs.refl cs; rfl⟩
  | .row l => by simp only [ShV]
  | .fn f cs => by simp only [ShV]; exact ⟨cs, rfl, ShL.refl cs⟩
  | .map l => by simp only [ShV]
  | .tup cs => by simp only [ShV]; exact ⟨cs, rfl, ShL.refl cs⟩
  | .vw l off n c => by simp only [ShV]
theorem ShL.refl : ∀ vs : List AV, ShL vs vs
  | [] => by simp only [ShL]
  | v :: vs => by simp only [ShL]; exact ⟨v, vs, rfl, ShV.refl v, ShL.refl vs⟩
end
theorem ShL.length : ∀ {vs vs' : List AV}, ShL vs vs' → vs'.length = vs.length
  | [], es', h => by simp only [ShL] at h; rw [h]
  | e :: es, es', h => by simp only [ShL] at h; obtain ⟨e', es'', rfl, _, h⟩ := h; simp [h.length]
mutual
theorem Rep.sp {w w' : World} {ρ : Nat → Value} {S : Bool → Nat → Prop} {U : Nat → Prop} (hT : ∀ b, S true b → SpB w.heap[b]? w'.heap[b]?) (hF : ∀ b, S false b → w'.heap[b]? = w.heap[b]?) : ∀ (v : AV) (x : Value), Rep w ρ S U v x → ∃ v', ShV v v' ∧ Rep w' ρ S U v' x
  | .any, x, h => ⟨.any, ShV.refl _, by simp [Rep]⟩
  | .imm v, x, h => ⟨.imm v, ShV.refl _, by simpa [Rep] using h⟩
  | .dat f k es, x, h => by
    simp only [Rep] at h
    cases f with
    | false => exact ⟨_, ShV.refl _, by simp only [Rep]; exact RepD.mono id (fun _ h => h) hF _ _ h⟩
    | true =>
      obtain ⟨d', h1, h2⟩ := RepD.sp hT _ _ h
      simp only [ShD] at h1
      obtain ⟨es', rfl, h1⟩ := h1
      by_cases he : es' = []
      · -- the slice itself is az it was: its length tells
        have hlen : es.length = 0 := by
          subst he
          simp only [RepD] at h h2
          obtain ⟨A, n, c, hx, hn, _⟩ := h
          obtain ⟨A', n', c', hx', hn', _⟩ := h2
          rw [hx] at hx'; cases hx'; rw [← hn, hn']; rfl
        have he2 : es = [] := List.eq_nil_of_length_eq_zero hlen
        subst he; subst he2
        exact ⟨.dat true k [], ShV.refl _, by simp only [Rep]; exact h2⟩
      · exact ⟨.dat true k es', by simp only [ShV]; exact ⟨es', rfl, by simpa using h1.resolve_left he⟩, by simp only [Rep]; exact h2⟩
  | .agg cs, x, h => by
    simp only [Rep] at h
    obtain ⟨xs, hx, h1, h⟩ := h
    obtain ⟨cs', h2, h3⟩ := RepL.sp hT hF cs xs h
    exact ⟨.agg cs', by simp only [ShV]; exact ⟨cs', rfl, h2⟩, by simp only [Rep]; exact ⟨xs, hx, h1, h3⟩⟩
  | .ptr l off, x, h => ⟨.ptr l off, ShV.refl _, by simpa only [Rep] using h⟩
  | .elp f cs, x, h => by
    simp only [Rep] at h
    obtain ⟨b, off, hx, hb, h⟩ := h
    cases f with
    | false => exact ⟨_, ShV.refl _, by simp only [Rep]; exact ⟨b, off, hx, hb, qbE.mono id (fun _ h => h) hF b hb off cs h⟩⟩
    | true =>
      obtain ⟨cs', h1, h2⟩ := qbE.sp hT b hb off cs h
      exact ⟨.elp true cs', by simp only [ShV]; exact ⟨cs', rfl, by simpa using h1⟩, by simp only [Rep]; exact ⟨b, off, hx, hb, h2⟩⟩
  | .row l, x, h => ⟨.row l, ShV.refl _, by simpa only [Rep] using h⟩
  | .fn f cs, x, h => by
    simp only [Rep] at h
    obtain ⟨xs, hx, h⟩ := h
    obtain ⟨cs', h2, h3⟩ := RepL.sp hT hF cs xs h
    exact ⟨.fn f cs', by simp only [ShV]; exact ⟨cs', rfl, h2⟩, by simp only [Rep]; exact ⟨xs, hx, h3⟩⟩
  | .map l, x, h => ⟨.map l, ShV.refl _, by simpa only [Rep] using h⟩
  | .tup cs, x, h => by
    simp only [Rep] at h
    obtain ⟨xs, hx, h⟩ := h
    obtain ⟨cs', h2, h3⟩ := RepL.sp hT hF cs xs h
    exact ⟨.tup cs', by simp only [ShV]; exact ⟨cs', rfl, h2⟩, by simp only [Rep]; exact ⟨xs, hx, h3⟩⟩
  | .vw l off n c, x, h => ⟨.vw l off n c, ShV.refl _, by simpa only [Rep] using h⟩
theorem RepL.sp {w w' : World} {ρ : Nat → Value} {S : Bool → Nat → Prop} {U : Nat → Prop} (hT : ∀ b, S true b → SpB w.heap[b]? w'.heap[b]?) (hF : ∀ b, S false b → w'.heap[b]? = w.heap[b]?) : ∀ (vs : List AV) (xs : List Value), RepL w ρ S U vs xs → ∃ vs', ShL vs vs' ∧ RepL w' ρ S U vs' xs
  | [], xs, h => ⟨[], by simp only [ShL], by simpa [RepL] using h⟩
  | v :: vs, xs, h => by
    simp only [RepL] at h
    obtain ⟨y, ys, hx, h1, h2⟩ := h
    obtain ⟨v', h3, h4⟩ := Rep.sp hT hF v y h1
    obtain ⟨vs', h5, h6⟩ := RepL.sp hT hF vs ys h2
    exact ⟨v' :: vs', by simp only [ShL]; exact ⟨v', vs', rfl, h3, h5⟩, by simp only [RepL]; exact ⟨y, ys, hx, h4, h6⟩⟩
end
def ShOb : Ob → Ob → Prop
  | .box cs, o' => ∃ cs', o' = .box cs' ∧ ShL cs cs'
  | .row e k cs, o' => ∃ cs', o' = .row e k cs' ∧ ShL cs cs'
  | .rowd e k f es, o' => o' = if f = true then .dead else .rowd e k f es
  | .mp P k ks, o' => o' = .mp P k ks
  | .dead, o' => o' = .dead
  | .arr e k f es, o' => o' = if f = true then .dead else .arr e k f es
  | .mx it P k kvs cur, o' => o' = .mx it P k kvs cur
def ShT : List (Nat × AV) → List (Nat × AV) → Prop
  | [], T' => T' = []
  | (t, v) :: T, T' => ∃ v' T'', T' = (t, v') :: T'' ∧ ShV v v' ∧ ShT T T''
def ShO : List (Nat × Ob) → List (Nat × Ob) → Prop
  | [], O' => O' = []
  | (t, v) :: O, O' => ∃ v' O'', O' = (t, v') :: O'' ∧ ShOb v v' ∧ ShO O O''
theorem ShOb.live {o o' : Ob} (h : ShOb o o') (hl : o'.live) : o.live := by
  cases o with
  | box cs => trivial
  | row e k cs => trivial
  | rowd e k f es => trivial
  | mp P k ks => trivial
  | dead => simp only [ShOb] at h; rw [h] at hl; exact hl
  | arr e k f es => trivial
  | mx it P k kvs cur => trivial
theorem ShOb.ex (o : Ob) : ∃ o', ShOb o o' := by
  cases o with
  | box cs => exact ⟨.box cs, cs, rfl, ShL.refl cs⟩
  | row e k cs => exact ⟨.row e k cs, cs, rfl, ShL.refl cs⟩
  | rowd e k f es => exact ⟨_, rfl⟩
  | mp P k ks => exact ⟨_, rfl⟩
  | dead => exact ⟨_, rfl⟩
  | arr e k f es => exact ⟨_, rfl⟩
  | mx it P k kvs cur => exact ⟨_, rfl⟩
theorem ShT.build {R : Nat → AV → Prop} {R' : Nat → AV → Prop} (hR : ∀ t v, R t v → ∃ v', ShV v v' ∧ R' t v') : ∀ (T : List (Nat × AV)) (p : Nat → Prop), (∀ t v, ¬ p t → lk T t = some v → R t v) → ∃ T', ShT T T' ∧ ∀ t v, ¬ p t → lk T' t = some v → R' t v
  | [], p, h => ⟨[], by simp only [ShT], fun t v _ hv => by simp [lk] at hv⟩
  | (s, v) :: T, p, h => by
    obtain ⟨T'', h1, h2⟩ := ShT.build hR T (fun t => p t ∨ t = s) (fun t u hp hu => h t u (fun k => hp (.inl k)) (by rw [qcd, if_neg (fun e => hp (.inr e.symm))]; exact hu))
    obtain ⟨v', h3, h4⟩ : ∃ v', ShV v v' ∧ (¬ p s → R' s v') := by
      by_cases hp : p s
      · exact ⟨v, ShV.refl v, fun k => absurd hp k⟩
      · obtain ⟨v', h3, h4⟩ := hR s v (h s v hp (by rw [qcd, if_pos rfl]))
        exact ⟨v', h3, fun _ => h4⟩
    refine ⟨(s, v') :: T'', by simp only [ShT]; exact ⟨v', T'', rfl, h3, h1⟩, fun t u hp hu => ?_⟩
    rw [qcd] at hu
    split at hu
    · rename_i e; subst e; cases hu; exact h4 hp
    · rename_i e; exact h2 t u (fun k => k.elim hp (fun k => e k.symm)) hu
theorem ShO.build {R : Nat → Ob → Prop} {R' : Nat → Ob → Prop} (hR : ∀ t v, R t v → ∃ v', ShOb v v' ∧ R' t v') : ∀ (T : List (Nat × Ob)) (p : Nat → Prop), (∀ t v, ¬ p t → ok T t = some v → R t v) → ∃ T', ShO T T' ∧ ∀ t v, ¬ p t → ok T' t = some v → R' t v
  | [], p, h => ⟨[], by simp only [ShO], fun t v _ hv => by simp [ok] at hv⟩
  | (s, v) :: T, p, h => by
    obtain ⟨T'', h1, h2⟩ := ShO.build hR T (fun t => p t ∨ t = s) (fun t u hp hu => h t u (fun k => hp (.inl k)) (by rw [qa3, if_neg (fun e => hp (.inr e.symm))]; exact hu))
    obtain ⟨v', h3, h4⟩ : ∃ v', ShOb v v' ∧ (¬ p s → R' s v') := by
      by_cases hp : p s
      · obtain ⟨v', h3⟩ := ShOb.ex v
        exact ⟨v', h3, fun k => absurd hp k⟩
      · obtain ⟨v', h3, h4⟩ := hR s v (h s v hp (by rw [qa3, if_pos rfl]))
        exact ⟨v', h3, fun _ => h4⟩
    refine ⟨(s, v') :: T'', by simp only [ShO]; exact ⟨v', T'', rfl, h3, h1⟩, fun t u hp hu => ?_⟩
    rw [qa3] at hu
    split at hu
    · rename_i e; subst e; cases hu; exact h4 hp
    · rename_i e; exact h2 t u (fun k => k.elim hp (fun k => e k.symm)) hu
theorem ShO.inD : ∀ {O O' : List (Nat × Ob)}, ShO O O' → ∀ l, (ok O' l).isSome = (ok O l).isSome
  | [], O', h, l => by simp only [ShO] at h; rw [h]
  | (s, v) :: O, O', h, l => by
    simp only [ShO] at h
    obtain ⟨v', O'', rfl, _, h⟩ := h
    simp only [qa3]
    split
    · rfl
    · exact h.inD l
theorem ShO.get : ∀ {O O' : List (Nat × Ob)}, ShO O O' → ∀ {l : Nat} {o' : Ob}, ok O' l = some o' → ∃ o, ok O l = some o ∧ ShOb o o'
  | [], O', h, l, o', ho => by simp only [ShO] at h; rw [h] at ho; simp [ok] at ho
  | (s, v) :: O, O', h, l, o', ho => by
    simp only [ShO] at h
    obtain ⟨v', O'', rfl, h1, h⟩ := h
    rw [qa3] at ho ⊢
    split at ho
    · rename_i e; rw [if_pos e]; cases ho; exact ⟨v, rfl, h1⟩
    · rename_i e; rw [if_neg e]; exact h.get ho
section
variable {P : Program} {c : Ctx} {N : Nat} {Q : Exit → St → Prop} {σ : St} {o : Oper}
end
end Go.Proofs.YtpgceiijoedppaaGreat
