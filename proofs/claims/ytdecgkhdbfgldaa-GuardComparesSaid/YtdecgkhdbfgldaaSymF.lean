/- Plain proof kit of this session, sixth part: rows of data that grow, and that are handed on as data. -/
import Derived.Test.YtdecgkhdbfgldaaSymE
set_option linter.unusedVariables false
set_option linter.unusedSimpArgs false
namespace Go.Proofs.Ytdecgkhdbfgldaa
open Go

def AV.toD (f : Bool) : AV → Option D
  | .imm v => some (.imm v)
  | .dat g k es => if g = f then some (.sl k es) else none
  | _ => none
def toDs (f : Bool) : List AV → Option (List D)
  | [] => some []
  | v :: vs => match v.toD f, toDs f vs with
    | some d, some ds => some (d :: ds)
    | _, _ => none

theorem toDs_lift {f : Bool} : ∀ {vs : List AV} {ds : List D}, toDs f vs = some ds → vs = lift f ds
  | [], ds, h => by simp only [toDs, Option.some.injEq] at h; subst h; rfl
  | v :: vs, ds, h => by
    simp only [toDs] at h
    split at h
    · rename_i d ds' hd hs
      simp only [Option.some.injEq] at h; subst h
      have := toDs_lift hs
      simp only [lift, List.map_cons, this]
      congr 1
      cases v <;> simp only [AV.toD, Option.some.injEq, reduceCtorEq] at hd <;> first | (subst hd; rfl) | (split at hd <;> simp at hd; rename_i hg; subst hd; subst hg; rfl) | exact hd.elim
    · simp at h

section
variable {P : Program} {c : Ctx} {N : Nat} {Q : Exit → St → Prop} {σ : St} {o : Oper}

theorem blk_own {A : Option Addr} {n c : Nat} : blk (.slice A n c) = (Value.slice A n c).ownBlock := by cases A <;> rfl

theorem owns_slice {w : World} {b : Nat} {e : TypeId} {k n : Nat} {v : Value} {xs : List Value} (h : w.ownsRow b e k v n xs) : ∃ A c, v = .slice A n c := by
  rcases h.2 with ⟨rfl, rfl⟩ | ⟨g, cap, cur, rfl, _⟩
  · exact ⟨none, 0, rfl⟩
  · exact ⟨_, _, rfl⟩

theorem owns_own {w : World} {b : Nat} {e : TypeId} {k n : Nat} {v : Value} {xs : List Value} (h : w.ownsRow b e k v n xs) : v.ownBlock = blk v := by
  obtain ⟨A, c, rfl⟩ := owns_slice h
  exact blk_own.symm

/-- The type facts of an append. -/
structure TyA (P : Program) (t e : TypeId) (k by_ : Nat) : Prop where
  s : slB P t e k = true
  z : ∃ z : Value, (P.info? e).map (fun i => (i.zero, i.size, i.bytes)) = some (some z, k, by_) ∧ z.cells.size = k
  k0 : 0 < k

theorem run_append_none (t ty e : TypeId) (k : Nat) (hs : slB P t e k = true) (w : World) (A : Option Addr) (n cap c' : Nat) (hn : n ≤ cap) (hA : ∀ a, A = some a → (storeCells (a.add (n * k)) []).run P w = .ok () w) :
    (Builtin.append_ #[t, t] ty #[.slice A n cap, .slice none 0 c']).run P w = .ok (.slice A n cap) w := by
  obtain ⟨i, h1, h2, h3⟩ := sl_spec hs
  have h1' := run_underlying h1 w
  cases A with
  | none => simp [Builtin.append_, h1', sizeOf, run_typeInfo w h2, Builtin.lenOf, hn, Builtin.firstCells]
  | some a => simp [Builtin.append_, h1', sizeOf, run_typeInfo w h2, Builtin.lenOf, hn, Builtin.firstCells, storeCells]

theorem append_core {s x : Operand} {t e : TypeId} {k by_ l : Nat} {f : Bool} {es news : List (List D)} {T T1 : List (Nat × AV)} {O O1 : List (Nat × Ob)} (ty : TyA P t e k by_)
    (ho : o.op = .call { callee := .builtin .append, args := #[s, x], argTypes := #[t, t] }) (hdN : ∀ d, o.dst = some d → d < N)
    (hs : ev T s = some (.row l)) (hl : ok O l = some (.rowd e k f es)) (hL : ∀ l', c.L l' → inD O1 l' = true)
    (hT : SubT T1 T) (hO : SubO O1 O) (haT : allT (inD O1) T1 = true) (haO : allO (inD O1) O1 = true) (hlO : ok O1 l = none)
    (hx : ∀ a w ρ S, Conc c N ⟨T, O⟩ a w ρ S → ∃ A n c', a.eval x = .slice A n c' ∧ n = news.length ∧ ((A = none ∧ n = 0) ∨ ∃ ad, ∃ us : List Value, A = some ad ∧ us.length = n * k ∧ (∀ j u, us[j]? = some u → w.cell? (ad.add j) = some u) ∧ (∀ u ∈ us, u.oneCell' = true) ∧ RepL w ρ S (St.U ⟨T, O⟩) (lift f news.flatten) us))
    (hk : ∀ d ∈ news, d.length = k) (hb : (es.length + news.length) * by_ ≤ 140737488355328) (hb0 : 0 < by_) :
    AOp P c N o ⟨T, O⟩ (fun σ2 => σ2 = St.add ⟨T1, O1⟩ o.dst (.row l) [(l, .rowd e k f (es ++ news))]) := by
  rintro a w ⟨ρ, S, hc⟩
  have hev := ev_rep hc hs
  simp only [Rep] at hev
  obtain ⟨hUl, hse, _⟩ := hev
  obtain ⟨hes, xs, how, h1, hr⟩ := hc.O l _ hl
  obtain ⟨A, n, c', hxe, hn, hsrc⟩ := hx a w ρ S hc
  obtain ⟨i, hi1, hi2, hi3⟩ := sl_spec ty.s
  obtain ⟨z, hz1, hz2⟩ := ty.z
  obtain ⟨i', hi', hzz⟩ := Option.map_eq_some_iff.1 hz1
  rw [hi2] at hi'; simp only [Option.some.injEq] at hi'; subst hi'
  simp only [Prod.mk.injEq] at hzz
  obtain ⟨hz3, _, hz4⟩ := hzz
  -- what append leaves
  obtain ⟨v', w', us, hrun, how', hgr, hat, hone, hrep, hul⟩ : ∃ v' w', ∃ us : List Value, (Builtin.append_ #[t, t] o.type #[ρ l, .slice A n c']).run P w = .ok v' w' ∧ w'.ownsRow 0 e k v' (es.length + n) (xs ++ us) ∧ w.grownBy w' (ρ l).ownBlock ∧ ((v').ownBlock = (ρ l).ownBlock ∨ v'.ownBlock = some w.heap.size) ∧ (∀ u ∈ us, u.oneCell' = true) ∧ RepL w ρ S (St.U ⟨T, O⟩) (lift f news.flatten) us ∧ us.length = n * k := by
    rcases hsrc with ⟨rfl, rfl⟩ | ⟨ad, us, rfl, h3, h4, h5, h6⟩
    · have hnil : news = [] := List.eq_nil_of_length_eq_zero hn.symm
      obtain ⟨A', cc, hv⟩ := owns_slice how
      refine ⟨ρ l, w, [], ?_, by simpa using how, ⟨rfl, rfl, rfl, Nat.le_refl _, fun _ _ _ => rfl⟩, .inl rfl, by simp, by simp [hnil, lift, RepL], by simp⟩
      rw [hv]
      refine run_append_none t o.type e k ty.s w A' es.length cc c' ?_ (fun a _ => rfl)
      rcases how.2 with ⟨h7, h8⟩ | ⟨g, cap, cur, h7, _, _, h8, _⟩
      · omega
      · rw [hv] at h7; simp only [Value.slice.injEq] at h7; omega
    · have hmax : es.length + n ≤ maxLen := by
        have : es.length + n ≤ (es.length + news.length) * by_ := by rw [hn]; exact Nat.le_mul_of_pos_right _ hb0
        simp only [maxLen]; omega
      obtain ⟨v', w', hr1, hr2, hr3, _, hr5⟩ := run_append_own_at (P := P) w 0 t o.type e i z k by_ hi1 hi2 hz3 hi3 hz4 hz2 ty.k0 (ρ l) es.length xs how ad n c' us h3 h4 h5 hmax (by rw [hn]; exact hb) (Nat.zero_le _)
      exact ⟨v', w', us, hr1, hr2, hr3, hr5, h5, h6, h3⟩
  have hown := owns_own how
  have hown' := owns_own how'
  rw [hown] at hgr hat
  rw [hown'] at hat
  have hf : Far (fun b => blk (ρ l) = some b) w w' := ⟨hgr.os, hgr.tape, hgr.output, hgr.size, fun b hb hne => hgr.block b hb (fun e => hne e.symm)⟩
  -- forget
  have hp : ∀ m, inD O1 m = true → St.U ⟨T, O⟩ m → St.U ⟨T1, O1⟩ m ∧ ρ m = ρ m := fun m hm _ => ⟨hm, rfl⟩
  have hc1 : Conc c N ⟨T1, O1⟩ a w ρ S :=
    ⟨hc.tm, hc.df, fun t v ht => (hc.T t v (hT t v ht)).move (fun _ _ h => h) (fun _ _ _ => rfl) hp v _ (allT_get haT ht),
     fun m ob hm => (hc.O m ob (hO m ob hm)).move (fun _ _ h => h) (fun _ _ _ => rfl) hp rfl (allO_get haO hm) (fun _ _ => rfl),
     fun m m' ob ob' b h1 h2 => hc.dj m m' ob ob' b (hO m ob h1) (hO m' ob' h2), fun m ob b f h1 => hc.dS m ob b f (hO m ob h1), fun m ob b h1 => hc.wr m ob b (hO m ob h1), fun m ob b h1 => hc.lt m ob b (hO m ob h1), hc.SS, hc.Sb, hc.Sn, hc.So, fun m hm => ⟨hL m hm, (hc.lo m hm).2⟩, hc.fm⟩
  have hne : ∀ m ob, ok O1 m = some ob → m ≠ l := fun m ob hm e => by subst e; rw [hlO] at hm; cases hm
  have hlock : ¬ c.L l := fun h => by have := hL l h; simp [inD, hlO] at this
  have hwr : ∀ b, blk (ρ l) = some b → c.w0.heap.size ≤ b := fun b hb => by
    rcases hc.wr l _ b hl trivial hb with h | h
    · exact h
    · exact absurd h.1 hlock
  have hc2 : Conc c N ⟨T1, O1⟩ a w' ρ S := hc1.grow hf (fun f b hS e => hc.dS l _ b f hl trivial e hS) (fun m ob b hm hv hb e => hne m ob hm (hc.dj m l ob _ b (hO m ob hm) hl hv trivial hb e)) (fun b hb e => by have := hwr b e; omega)
  have hsz := hf.size
  have hblk : ∀ b, blk v' = some b → b < w'.heap.size ∧ c.w0.heap.size ≤ b ∧ (∀ f, ¬ S f b) ∧ ∀ m om, ok O1 m = some om → om.live → blk (ρ m) ≠ some b := by
    intro b hb
    have hlt : b < w'.heap.size := by
      obtain ⟨_, _, _, hh, _⟩ := row_cells how' hb
      exact (Array.getElem?_eq_some_iff.1 hh).1
    rcases hat with h | h
    · rw [h] at hb
      exact ⟨hlt, hwr b hb, fun f hS => hc.dS l _ b f hl trivial hb hS, fun m om hm hv e => hne m om hm (hc.dj m l om _ b (hO m om hm) hl hv trivial e hb)⟩
    · rw [h] at hb; simp only [Option.some.injEq] at hb; subst hb
      have := hc.fm.size
      exact ⟨hlt, this, fun f hS => Nat.lt_irrefl _ (hc.Sb f _ hS), fun m om hm hv e => Nat.lt_irrefl _ (hc.lt m om _ (hO m om hm) hv e)⟩
  have hS' : ∀ f b, S f b → w'.heap[b]? = w.heap[b]? := fun f b hb => hf.block b (hc.Sb f b hb) (fun e => hc.dS l _ b f hl trivial e hb)
  have hcells : RepL w' (upd ρ l v') S (St.U ⟨T1, (l, .rowd e k f (es ++ news)) :: O1⟩) (lift f (es ++ news).flatten) (xs ++ us) := by
    have h8 : lift f (es ++ news).flatten = lift f es.flatten ++ lift f news.flatten := by simp [lift]
    rw [h8]
    exact (RepL.move (p := fun _ => false) (fun _ _ h => h) hS' (fun _ h => by cases h) _ _ (allLs_lift _ _ _) hr).append (RepL.move (p := fun _ => false) (fun _ _ h => h) hS' (fun _ h => by cases h) _ _ (allLs_lift _ _ _) hrep)
  have hc3 : Conc c N ⟨T1, (l, .rowd e k f (es ++ news)) :: O1⟩ a w' (upd ρ l v') S := by
    refine hc2.addOb hlO hblk ⟨?_, xs ++ us, ?_, ?_, hcells⟩
    · intro d hd
      rcases List.mem_append.1 hd with h | h
      · exact hes d h
      · exact hk d h
    · rw [upd_same, List.length_append, ← hn]; exact how'
    · intro y hy
      rcases List.mem_append.1 hy with h | h
      · exact h1 y h
      · exact hone y h
  have hput := hc3.put (dst := o.dst) (v := .row l) (x := v') hdN (by
    simp only [Rep]
    obtain ⟨A', cc, hv⟩ := owns_slice how'
    exact ⟨by simp [St.U, ok_cons], (upd_same ρ l v').symm, A', _, cc, hv⟩)
  have hex : (execOp a.eval o).run P w = .ok (.value v') w' := by
    simp only [execOp, ho, resolve]
    simp [Sem.run_bind, invoke, builtin, hse, hxe, hrun]
  unfold Oper.wp
  rw [hex]
  refine ⟨_, ⟨_, _, hput⟩, ?_⟩
  cases o.dst <;> rfl

/-- append(row, one element): the variadic's box is a row of its own. -/
theorem awps_append1 {ops : Array Oper} {rest : List Oper} {s x : Operand} {t e : TypeId} {k by_ l l2 d : Nat} {f : Bool} {es : List (List D)} {cs : List AV} {nd : List D} {T T1 : List (Nat × AV)} {O O1 : List (Nat × Ob)} (ty : TyA P t e k by_) (hg : o.guard = none)
    (ho : o.op = .call { callee := .builtin .append, args := #[s, x], argTypes := #[t, t] }) (hd : o.dst = some d) (hdN : d < N)
    (hs : ev T s = some (.row l)) (hl : ok O l = some (.rowd e k f es)) (hx : ev T x = some (.row l2)) (hl2 : ok O l2 = some (.row e k cs)) (hcs : toDs f cs = some nd) (hnd : nd.length = k)
    (hT : SubT T1 T) (hO : SubO O1 O) (haT : allT (inD O1) T1 = true) (haO : allO (inD O1) O1 = true) (hlO : ok O1 l = none) (hL : ∀ l', c.L l' → inD O1 l' = true)
    (hb : (es.length + 1) * by_ ≤ 140737488355328) (hb0 : 0 < by_)
    (K : awps P c N ops rest Q ⟨(d, .row l) :: T1, (l, .rowd e k f (es ++ [nd])) :: O1⟩) : awps P c N ops (o :: rest) Q ⟨T, O⟩ := by
  refine awps_op hg fun a w hc => Oper.wp_mono ?_ (append_core (news := [nd]) ty ho (by intro e he; rw [hd] at he; cases he; exact hdN) hs hl hL hT hO haT haO hlO ?_ (by simpa using hnd) (by simpa using hb) hb0 a w hc)
  · rintro a w ⟨σ2, h2, rfl⟩
    refine ⟨_, h2, ?_⟩
    simpa [St.add, hd] using K
  · intro a w ρ S hc
    have hev := ev_rep hc hx
    simp only [Rep] at hev
    obtain ⟨hU, hxe, A, n, cc, hsl⟩ := hev
    obtain ⟨m, xs, how, h1, hr⟩ := hc.O l2 _ hl2
    have hcl := toDs_lift hcs
    have hlen := hr.length
    rw [hcl] at hr hlen
    simp only [lift, List.length_map] at hlen
    have hm : m = 1 := by
      have := how.1
      have hk0 := ty.k0
      rw [hlen, hnd] at this
      have h1m : 1 * k = m * k := by omega
      exact (Nat.eq_of_mul_eq_mul_right hk0 h1m).symm
    subst hm
    rcases how.2 with ⟨_, h⟩ | ⟨g, cap, cur, hv, _⟩
    · omega
    · refine ⟨some ⟨g, 0, none⟩, 1, cap, by rw [hxe, hv], rfl, .inr ⟨⟨g, 0, none⟩, xs, rfl, by rw [hlen, hnd]; omega, fun j u hu => ?_, h1, by simpa using hr⟩⟩
      rw [add_plain, Nat.zero_add]
      exact row_cells_get how (by rw [hv]; rfl) j u hu

/-- append(row, data...). -/
theorem awps_appendd {ops : Array Oper} {rest : List Oper} {s x : Operand} {t e : TypeId} {k by_ l d : Nat} {f : Bool} {es news : List (List D)} {T T1 : List (Nat × AV)} {O O1 : List (Nat × Ob)} (ty : TyA P t e k by_) (hg : o.guard = none)
    (ho : o.op = .call { callee := .builtin .append, args := #[s, x], argTypes := #[t, t] }) (hd : o.dst = some d) (hdN : d < N)
    (hs : ev T s = some (.row l)) (hl : ok O l = some (.rowd e k f es)) (hx : ev T x = some (.dat f k news))
    (hT : SubT T1 T) (hO : SubO O1 O) (haT : allT (inD O1) T1 = true) (haO : allO (inD O1) O1 = true) (hlO : ok O1 l = none) (hL : ∀ l', c.L l' → inD O1 l' = true)
    (hk : ∀ d ∈ news, d.length = k) (hb : (es.length + news.length) * by_ ≤ 140737488355328) (hb0 : 0 < by_)
    (K : awps P c N ops rest Q ⟨(d, .row l) :: T1, (l, .rowd e k f (es ++ news)) :: O1⟩) : awps P c N ops (o :: rest) Q ⟨T, O⟩ := by
  refine awps_op hg fun a w hc => Oper.wp_mono ?_ (append_core (news := news) ty ho (by intro e he; rw [hd] at he; cases he; exact hdN) hs hl hL hT hO haT haO hlO ?_ hk hb hb0 a w hc)
  · rintro a w ⟨σ2, h2, rfl⟩
    refine ⟨_, h2, ?_⟩
    simpa [St.add, hd] using K
  · intro a w ρ S hc
    have hev := ev_rep hc hx
    simp only [Rep, RepD] at hev
    obtain ⟨A, n, cc, hxe, hn, _, _, h⟩ := hev
    refine ⟨A, n, cc, hxe, hn, ?_⟩
    by_cases hA : A = none
    · rcases h with h | ⟨b, off, h, _⟩
      · exact .inl ⟨hA, h⟩
      · rw [hA] at h; cases h
    · rcases h with h | ⟨b, off, h, hS, hes⟩
      · obtain ⟨ad, rfl⟩ := Option.ne_none_iff_exists'.1 hA
        have hnil : news = [] := List.eq_nil_of_length_eq_zero (by omega)
        exact .inr ⟨ad, [], rfl, by simp [h], by simp, by simp, by simp [hnil, lift, RepL]⟩
      · have hcs : ∀ {es : List (List D)} {off : Nat}, RepEs w (S f) b k off es → RepCs w (S f) b off es.flatten := by
          intro es
          induction es with
          | nil => intro off _; simp [RepCs]
          | cons e es ih =>
            intro off h
            simp only [RepEs] at h
            have app : ∀ {xs ys : List D} {off : Nat}, RepCs w (S f) b off xs → RepCs w (S f) b (off + xs.length) ys → RepCs w (S f) b off (xs ++ ys) := by
              intro xs
              induction xs with
              | nil => intro ys off _ h; simpa using h
              | cons x xs ih => intro ys off h1 h2; simp only [RepCs, List.cons_append] at h1 ⊢; exact ⟨h1.1, ih h1.2 (by simpa [Nat.add_assoc, Nat.add_comm 1] using h2)⟩
            rw [List.flatten_cons]
            exact app h.1.2 (by rw [h.1.1]; exact ih h.2)
        obtain ⟨us, h2, h3, h4⟩ := repCs_list (ρ := ρ) (U := St.U ⟨T, O⟩) (hcs hes)
        have hl2 := h2.length
        have hfl : ∀ {es : List (List D)}, (∀ d ∈ es, d.length = k) → es.flatten.length = es.length * k := by
          intro es
          induction es with
          | nil => intro _; simp
          | cons e es ih => intro h; rw [List.flatten_cons, List.length_append, h e (by simp), ih (fun d hd => h d (by simp [hd])), List.length_cons, Nat.add_mul]; omega
        refine .inr ⟨⟨b, off, none⟩, us, h, ?_, fun j u hu => by rw [add_plain]; exact h4 j u hu, h3, h2⟩
        rw [hl2]; simp only [lift, List.length_map]; rw [hfl hk, hn]

/-! ### Ghosts: a nil slice becomes a row; a row becomes data -/
theorem lk_map {g : AV → AV} : ∀ (T : List (Nat × AV)) (t : Nat), lk (T.map fun p => (p.1, g p.2)) t = (lk T t).map g
  | [], t => rfl
  | (s, v) :: T, t => by
    simp only [List.map_cons, lk_cons]
    split
    · rfl
    · exact lk_map T t

/-- A nil slice in temporary t is a row of no elements. -/
theorem sub_nil_row {T : List (Nat × AV)} {O : List (Nat × Ob)} {t l : Nat} (e : TypeId) (k : Nat) (f : Bool) (ht : lk T t = some (.imm (.slice none 0 0))) (hl : ok O l = none) : Sub c N ⟨T, O⟩ ⟨(t, .row l) :: T, (l, .rowd e k f []) :: O⟩ := by
  rintro a w ⟨ρ, S, hc⟩
  have hev := hc.T t _ ht
  simp only [Rep] at hev
  have h1 : Conc c N ⟨T, (l, .rowd e k f []) :: O⟩ a w (upd ρ l (.slice none 0 0)) S :=
    hc.addOb hl (fun b hb => by simp [blk] at hb) ⟨by simp, [], by rw [upd_same]; exact World.ownsRow_nil w 0 e k, by simp, by simp [lift, RepL]⟩
  refine ⟨_, S, { h1 with T := fun s v hs => ?_ }⟩
  simp only [lk_cons] at hs
  split at hs
  · rename_i e'; subst e'
    simp only [Option.some.injEq] at hs; subst hs
    simp only [Rep]
    exact ⟨by simp [St.U, ok_cons], by rw [upd_same]; exact hev, _, _, _, hev⟩
  · exact h1.T s v hs

/-- A nil slice is data of no elements. -/
theorem sub_nil_dat {T : List (Nat × AV)} {O : List (Nat × Ob)} {t : Nat} (k : Nat) (f : Bool) (ht : lk T t = some (.imm (.slice none 0 0))) : Sub c N ⟨T, O⟩ ⟨(t, .dat f k []) :: T, O⟩ := by
  rintro a w ⟨ρ, S, hc⟩
  have hev := hc.T t _ ht
  simp only [Rep] at hev
  refine ⟨ρ, S, { hc with tm := hc.tm, T := fun s v hs => ?_ }⟩
  simp only [lk_cons] at hs
  split at hs
  · rename_i e'; subst e'
    simp only [Option.some.injEq] at hs; subst hs
    simp only [Rep, RepD]
    exact ⟨none, 0, 0, hev, by simp, Nat.le_refl _, Nat.zero_le _, .inl rfl⟩
  · exact hc.T s v hs

mutual
def AV.fr (l : Nat) (d : AV) : AV → AV
  | .row m => if m = l then d else .row m
  | .agg cs => .agg (AV.frs l d cs)
  | .fn f cs => .fn f (AV.frs l d cs)
  | .tup cs => .tup (AV.frs l d cs)
  | v => v
def AV.frs (l : Nat) (d : AV) : List AV → List AV
  | [] => []
  | v :: vs => AV.fr l d v :: AV.frs l d vs
end

theorem repEs_row {w : World} {ρ : Nat → Value} {S : Bool → Nat → Prop} {U : Nat → Prop} {f : Bool} {b k : Nat} (hsl : ∀ v u : Value, True) : ∀ {es : List (List D)} {off : Nat} {xs : List Value}, (∀ d ∈ es, d.length = k) → RepL w ρ S U (lift f es.flatten) xs → (∀ y ∈ xs, y.oneCell' = true) →
    (∀ j u, xs[j]? = some u → w.cell? ⟨b, off + j, none⟩ = some u) → RepEs w (S f) b k off es
  | [], off, xs, _, _, _, _ => by simp [RepEs]
  | e :: es, off, xs, hk, hr, h1, hc => by
    have he : e.length = k := hk e (by simp)
    have cells : ∀ {ds : List D} {off : Nat} {xs : List Value}, RepL w ρ S U (lift f ds) xs → (∀ y ∈ xs, y.oneCell' = true) → (∀ j u, xs[j]? = some u → w.cell? ⟨b, off + j, none⟩ = some u) → RepCs w (S f) b off ds := by
      intro ds
      induction ds with
      | nil => intro off xs _ _ _; simp [RepCs]
      | cons d ds ih =>
        intro off xs h h1 hc
        simp only [lift, List.map_cons, RepL] at h
        obtain ⟨y, ys, rfl, hy, hys⟩ := h
        simp only [RepCs]
        refine ⟨⟨y, by simpa using hc 0 y (by simp), h1 y (by simp), ?_⟩, ih hys (fun z hz => h1 z (by simp [hz])) (fun j u hu => by rw [show off + 1 + j = off + (j + 1) from by omega]; exact hc (j + 1) u (by simpa using hu))⟩
        cases d with
        | imm v => simpa [D.av, Rep, RepD] using hy
        | sl k es => simpa [D.av, Rep] using hy
    have h8 : lift f (e :: es).flatten = lift f e ++ lift f es.flatten := by simp [lift]
    have hlen := hr.length
    have ht := hr.take k
    have hd := hr.drop k
    have hle : (lift f e).length = k := by simp [lift, he]
    rw [h8, List.take_append_of_le_length (by omega), List.take_of_length_le (by omega)] at ht
    rw [h8, List.drop_append, List.drop_eq_nil_of_le (by omega), hle, Nat.sub_self, List.drop_zero, List.nil_append] at hd
    simp only [RepEs]
    refine ⟨⟨he, cells ht (fun y hy => h1 y (List.mem_of_mem_take hy)) (fun j u hu => ?_)⟩, repEs_row hsl (fun d hd' => hk d (by simp [hd'])) hd (fun y hy => h1 y (List.mem_of_mem_drop hy)) (fun j u hu => ?_)⟩
    · rw [List.getElem?_take] at hu
      split at hu
      · exact hc j u hu
      · simp at hu
    · rw [List.getElem?_drop] at hu
      rw [show off + k + j = off + (k + j) from by omega]
      exact hc (k + j) u hu

theorem lift_fr (l : Nat) (d : AV) (f : Bool) (ds : List D) : AV.frs l d (lift f ds) = lift f ds := by
  induction ds with
  | nil => rfl
  | cons x ds ih => simp only [lift, List.map_cons, AV.frs] at ih ⊢; rw [ih]; cases x <;> rfl

mutual
theorem Rep.fr {w : World} {ρ : Nat → Value} {S S' : Bool → Nat → Prop} {U : Nat → Prop} {l : Nat} {d : AV} (hS : ∀ f b, S f b → S' f b) (hd : U l → Rep w ρ S' U d (ρ l)) : ∀ (v : AV) (x : Value), Rep w ρ S U v x → Rep w ρ S' U (AV.fr l d v) x
  | .row m, x, h => by
    simp only [AV.fr]
    split
    · rename_i e; subst e
      simp only [Rep] at h
      rw [h.2.1]; exact hd h.1
    · exact h.mono hS (fun _ _ _ => rfl) (fun _ h => h) (fun _ _ => rfl)
  | .agg cs, x, h => by
    simp only [AV.fr, Rep] at h ⊢
    obtain ⟨xs, hx, h1, h⟩ := h
    exact ⟨xs, hx, h1, RepL.fr hS hd cs xs h⟩
  | .fn f cs, x, h => by
    simp only [AV.fr, Rep] at h ⊢
    obtain ⟨xs, hx, h⟩ := h
    exact ⟨xs, hx, RepL.fr hS hd cs xs h⟩
  | .tup cs, x, h => by
    simp only [AV.fr, Rep] at h ⊢
    obtain ⟨xs, hx, h⟩ := h
    exact ⟨xs, hx, RepL.fr hS hd cs xs h⟩
  | .any, x, h => h.mono hS (fun _ _ _ => rfl) (fun _ h => h) (fun _ _ => rfl)
  | .imm v, x, h => h.mono hS (fun _ _ _ => rfl) (fun _ h => h) (fun _ _ => rfl)
  | .dat f k es, x, h => h.mono hS (fun _ _ _ => rfl) (fun _ h => h) (fun _ _ => rfl)
  | .ptr m off, x, h => h.mono hS (fun _ _ _ => rfl) (fun _ h => h) (fun _ _ => rfl)
  | .elp f ds, x, h => h.mono hS (fun _ _ _ => rfl) (fun _ h => h) (fun _ _ => rfl)
  | .map m, x, h => h.mono hS (fun _ _ _ => rfl) (fun _ h => h) (fun _ _ => rfl)
theorem RepL.fr {w : World} {ρ : Nat → Value} {S S' : Bool → Nat → Prop} {U : Nat → Prop} {l : Nat} {d : AV} (hS : ∀ f b, S f b → S' f b) (hd : U l → Rep w ρ S' U d (ρ l)) : ∀ (vs : List AV) (xs : List Value), RepL w ρ S U vs xs → RepL w ρ S' U (AV.frs l d vs) xs
  | [], xs, h => by simpa [AV.frs, RepL] using h
  | v :: vs, xs, h => by
    simp only [AV.frs, RepL] at h ⊢
    obtain ⟨y, ys, hx, h1, h2⟩ := h
    exact ⟨y, ys, hx, Rep.fr hS hd v y h1, RepL.fr hS hd vs ys h2⟩
end

/-- In temporaries t, u, .. the row l is data from now on; the row itself is no more. -/
def frT (l : Nat) (d : AV) : List (Nat × AV) → List (Nat × AV)
  | [] => []
  | (t, v) :: T => (t, AV.fr l d v) :: frT l d T
theorem lk_frT (l : Nat) (d : AV) : ∀ (T : List (Nat × AV)) (t : Nat), lk (frT l d T) t = (lk T t).map (AV.fr l d)
  | [], t => rfl
  | (s, v) :: T, t => by
    simp only [frT, lk_cons]
    split
    · rfl
    · exact lk_frT l d T t
def Ob.frO (l : Nat) (d : AV) : Ob → Ob
  | .box cs => .box (AV.frs l d cs)
  | o => o
def frO (l : Nat) (d : AV) : List (Nat × Ob) → List (Nat × Ob)
  | [] => []
  | (t, v) :: T => (t, v.frO l d) :: frO l d T
theorem ok_frO (l : Nat) (d : AV) : ∀ (T : List (Nat × Ob)) (t : Nat), ok (frO l d T) t = (ok T t).map (Ob.frO l d)
  | [], t => rfl
  | (s, v) :: T, t => by
    simp only [frO, ok_cons]
    split
    · rfl
    · exact ok_frO l d T t

/-- A row becomes data: everywhere in temporaries and boxes. -/
theorem sub_freeze {T T' : List (Nat × AV)} {O O' : List (Nat × Ob)} {l k : Nat} {e : TypeId} {f : Bool} {es : List (List D)} (hl : ok O l = some (.rowd e k f es)) (hk : 0 < k) (hL : ¬ c.L l) (hT' : frT l (.dat f k es) T = T') (hO' : frO l (.dat f k es) O = O') : Sub c N ⟨T, O⟩ ⟨T', (l, .dead) :: O'⟩ := by
  rintro a w ⟨ρ, S, hc⟩
  subst hT'; subst hO'
  obtain ⟨hes, xs, how, h1, hr⟩ := hc.O l _ hl
  let S' : Bool → Nat → Prop := fun g b => S g b ∨ (g = f ∧ blk (ρ l) = some b)
  have hS : ∀ g b, S g b → S' g b := fun g b h => .inl h
  have hdat : Rep w ρ S' (St.U ⟨T, O⟩) (.dat f k es) (ρ l) := by
    simp only [Rep, RepD]
    rcases how.2 with ⟨hv, hn⟩ | ⟨g, cap, cur, hv, _, hh, hcap, hmax, _⟩
    · exact ⟨none, 0, 0, hv, hn.symm, Nat.le_refl _, Nat.zero_le _, .inl rfl⟩
    · refine ⟨some ⟨g, 0, none⟩, es.length, cap, hv, rfl, hcap, hmax, .inr ⟨g, 0, rfl, .inr ⟨rfl, by rw [hv]; rfl⟩, ?_⟩⟩
      have := repEs_row (b := g) (fun _ _ => trivial) (off := 0) hes (hr.mono hS (fun _ _ _ => rfl) (fun _ h => h) (fun _ _ => rfl)) h1 (fun j u hu => by rw [Nat.zero_add]; exact row_cells_get how (by rw [hv]; rfl) j u hu)
      exact this
  have hU : ∀ m, St.U ⟨T, O⟩ m → St.U ⟨frT l (.dat f k es) T, (l, .dead) :: frO l (.dat f k es) O⟩ m := fun m hm => by
    simp only [St.U, ok_cons, ok_frO] at hm ⊢
    split
    · rfl
    · simpa using hm
  have hsp : ∀ m om, ok ((l, Ob.dead) :: frO l (.dat f k es) O) m = some om → (m = l ∧ om = .dead) ∨ (m ≠ l ∧ ∃ om', ok O m = some om' ∧ om = om'.frO l (.dat f k es)) := fun m om hm => by
    rw [ok_cons] at hm
    split at hm
    · rename_i e; exact .inl ⟨e.symm, by simpa using hm.symm⟩
    · rename_i e
      rw [ok_frO] at hm
      obtain ⟨om', h2, h3⟩ := Option.map_eq_some_iff.1 hm
      exact .inr ⟨fun e' => e e'.symm, om', h2, h3.symm⟩
  have hlv : ∀ om : Ob, (om.frO l (.dat f k es)).live → om.live := fun om h => by cases om <;> exact h
  have hblk : ∀ b, blk (ρ l) = some b → c.w0.heap.size ≤ b ∧ b < w.heap.size := fun b hb => by
    refine ⟨?_, hc.lt l _ b hl trivial hb⟩
    rcases hc.wr l _ b hl trivial hb with h | h
    · exact h
    · exact absurd h.1 hL
  refine ⟨ρ, S', ⟨hc.tm, hc.df, fun t v ht => ?_, fun m om hm => ?_, fun m m' om om' b h2 h3 h4 h5 h6 h7 => ?_, fun m om b g h2 h3 h4 => ?_, fun m om b h2 h3 h4 => ?_, fun m om b h2 h3 h4 => ?_, ?_, ?_, ?_, ?_, fun m hm => ?_, hc.fm⟩⟩
  · rw [show (St.mk (frT l (.dat f k es) T) ((l, .dead) :: frO l (.dat f k es) O)).T = frT l (.dat f k es) T from rfl, lk_frT] at ht
    obtain ⟨v0, hv0, rfl⟩ := Option.map_eq_some_iff.1 ht
    exact ((hc.T t v0 hv0).fr hS (fun _ => hdat)).mono (fun _ _ h => h) (fun _ _ _ => rfl) hU (fun _ _ => rfl)
  · rcases hsp m om hm with ⟨_, rfl⟩ | ⟨hne, om', h2, rfl⟩
    · trivial
    · have hob := hc.O m om' h2
      cases om' with
      | box cs =>
        obtain ⟨b, ty, ys, h3, h4, h5, h6⟩ := hob
        exact ⟨b, ty, ys, h3, h4, h5, (RepL.fr hS (fun _ => hdat) _ _ h6).mono (fun _ _ h => h) (fun _ _ _ => rfl) hU (fun _ _ => rfl)⟩
      | row e k cs => exact hob.mono hS (fun _ _ _ => rfl) hU (fun _ _ => rfl) (by simp [St.U, h2]) (fun _ _ => rfl)
      | rowd e k f es => exact hob.mono hS (fun _ _ _ => rfl) hU (fun _ _ => rfl) (by simp [St.U, h2]) (fun _ _ => rfl)
      | mp es => exact hob.mono hS (fun _ _ _ => rfl) hU (fun _ _ => rfl) (by simp [St.U, h2]) (fun _ _ => rfl)
      | dead => trivial
  · rcases hsp m om h2 with ⟨_, rfl⟩ | ⟨n1, o1, k1, rfl⟩
    · exact h4.elim
    · rcases hsp m' om' h3 with ⟨_, rfl⟩ | ⟨n2, o2, k2, rfl⟩
      · exact h5.elim
      · exact hc.dj m m' o1 o2 b k1 k2 (hlv _ h4) (hlv _ h5) h6 h7
  · rcases hsp m om h2 with ⟨_, rfl⟩ | ⟨n1, o1, k1, rfl⟩
    · exact h3.elim
    · rintro (h5 | ⟨_, h5⟩)
      · exact hc.dS m o1 b g k1 (hlv _ h3) h4 h5
      · exact n1 (hc.dj m l o1 _ b k1 hl (hlv _ h3) trivial h4 h5)
  · rcases hsp m om h2 with ⟨_, rfl⟩ | ⟨n1, o1, k1, rfl⟩
    · exact h3.elim
    · exact hc.wr m o1 b k1 (hlv _ h3) h4
  · rcases hsp m om h2 with ⟨_, rfl⟩ | ⟨n1, o1, k1, rfl⟩
    · exact h3.elim
    · exact hc.lt m o1 b k1 (hlv _ h3) h4
  · rintro b ⟨h2 | ⟨e1, h2⟩, h3 | ⟨e2, h3⟩⟩
    · exact hc.SS b ⟨h2, h3⟩
    · exact hc.dS l _ b true hl trivial h3 h2
    · exact hc.dS l _ b false hl trivial h2 h3
    · rw [← e1] at e2; cases e2
  · rintro g b (h2 | ⟨_, h2⟩)
    · exact hc.Sb g b h2
    · exact (hblk b h2).2
  · rintro b (h2 | ⟨_, h2⟩)
    · exact hc.Sn b h2
    · exact (hblk b h2).1
  · rintro b (h2 | ⟨_, h2⟩)
    · exact hc.So b h2
    · exact .inr (hblk b h2).1
  · obtain ⟨h2, h3⟩ := hc.lo m hm
    exact ⟨hU m h2, h3⟩

end
end Go.Proofs.Ytdecgkhdbfgldaa
