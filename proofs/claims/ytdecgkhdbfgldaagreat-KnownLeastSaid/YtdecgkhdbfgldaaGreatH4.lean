/- Part 4 of the proof: SymY, SymZ, SymZb, SymZf, SymZd, SymZe. -/
import Derived.Test.YtdecgkhdbfgldaaGreatH3
import Derived.Lib.AppendStr
import Derived.Lib.SlBytesRow
import Derived.Lib.BufferRead
import Derived.Shelf.SlSortCmp.NoneTotal
set_option linter.unusedVariables false
set_option linter.unusedSimpArgs false
namespace Go.Proofs.YtdecgkhdbfgldaaGreat
open Go
def btL (l : List UInt8) : List (List D) := l.map fun b => [.imm (.int .u8 b.toNat)]
theorem btL_length (l : List UInt8) : (btL l).length = l.length := by simp [btL]
theorem btL_len1 (l : List UInt8) : ∀ d ∈ btL l, d.length = 1 := fun d hd => by obtain ⟨b, _, rfl⟩ := List.mem_map.1 hd; rfl
theorem btL_cells {w : World} {ρ : Nat → Value} {S : Bool → Nat → Prop} {U : Nat → Prop} {f : Bool} : ∀ (l : List UInt8), RepL w ρ S U (lift f (btL l).flatten) (l.map fun b => Value.int .u8 b.toNat)
  | [] => by simp [btL, lift, RepL]
  | b :: l => by
    have ih := btL_cells (w := w) (ρ := ρ) (S := S) (U := U) (f := f) l
    simp only [btL, List.map_cons, List.flatten_cons, lift, List.map_append] at ih ⊢
    simp only [List.map_nil, List.singleton_append, List.cons_append, List.nil_append, RepL, List.map_cons]
    exact ⟨_, _, rfl, by simp only [D.av, Rep], ih⟩
theorem btL_back {w : World} {ρ : Nat → Value} {S : Bool → Nat → Prop} {U : Nat → Prop} {f : Bool} : ∀ (l : List UInt8) (xs : List Value), RepL w ρ S U (lift f (btL l).flatten) xs → xs = l.map fun b => Value.int .u8 b.toNat
  | [], xs, h => by simpa [btL, lift, RepL] using h
  | b :: l, xs, h => by
    simp only [btL, List.map_cons, List.flatten_cons, lift, List.map_append, List.map_nil, List.singleton_append, List.cons_append, List.nil_append, RepL, D.av, Rep] at h
    obtain ⟨y, ys, rfl, rfl, h⟩ := h
    rw [List.map_cons, btL_back (w := w) (ρ := ρ) (S := S) (U := U) (f := f) l ys (by simpa only [btL, lift] using h)]
theorem run_append_own_string_at {P : Program} (w : World) (t u ty e : TypeId) (i : TypeInfo) (ht : P.underlying t = some (.slice e)) (hu : P.underlying u = some .string) (hi : P.info? e = some i) (hz : i.zero = some (.int .u8 0)) (hsize : i.size = 1) (hby : i.bytes = 1)
    (v : Value) (n : Nat) (xs : List Value) (hown : w.ownsRow 0 e 1 v n xs) (s : ByteArray) (hb : n + s.size ≤ 140737488355328) :
    ∃ v' w', (Builtin.append_ #[t, u] ty #[v, .string s]).run P w = .ok v' w' ∧ w'.ownsRow 0 e 1 v' (n + s.size) (xs ++ Lib.strCells s) ∧ w.grownBy w' v.ownBlock ∧ (v'.ownBlock = v.ownBlock ∨ v'.ownBlock = some w.heap.size) := by
  have h63 : n + s.size ≤ maxLen := by simp only [maxLen]; omega
  obtain ⟨v', w', h1, h2, h3, h4⟩ := Lib.run_append_own_string (P := P) w 0 t u ty e i ht hu hi hz hsize hby v n xs hown s h63 hb (Nat.zero_le _)
  refine ⟨v', w', h1, h2, h3, ?_⟩
  rcases hown.2 with ⟨rfl, rfl⟩ | ⟨g, cap, cur, rfl, _, hg, hnc, hcm, hcs, htake⟩
  · by_cases hs : s.size = 0
    · rw [h4.2 ⟨rfl, hs⟩]; exact .inl rfl
    · have hr := run_append_nil_string (P := P) w t u ty e i (.int .u8 0) ht hu hi hz s (by omega) (by omega) (by rw [hby]; omega)
      rw [hr] at h1
      cases h1
      exact .inr rfl
  · have hxl : xs.length = n := by simpa using hown.1
    by_cases hroom : n + s.size ≤ cap
    · have hr := Lib.run_append_room_string (P := P) w t u ty e i ht hu hi hsize g n cap cur hg s hroom (by simp at hcs; omega)
      rw [hr] at h1
      cases h1
      exact .inl rfl
    · have hr := Lib.run_append_grow_string (P := P) w t u ty e i (.int .u8 0) ht hu hi hz ⟨g, 0, none⟩ n cap xs (by rw [hsize]; simpa using hxl) (hown.cells (g := g) rfl) s (by omega) (by omega) (by rw [hby]; exact growslice_fits (by omega) (by omega))
      rw [hr] at h1
      cases h1
      exact .inr rfl
section
variable {P : Program} {c : Ctx} {N : Nat} {Q : Exit → St → Prop} {σ : St} {o : Oper}
theorem append_str {s x : Operand} {t u e : TypeId} {l l' : Nat} {f : Bool} {es : List (List D)} {bs : ByteArray} {T : List (Nat × AV)} {O : List (Nat × Ob)} (ty : TyA P t e 1 1) (hz0 : (P.info? e).map (·.zero) = some (some (.int .u8 0))) (hus : P.underlying u = some .string)
    (ho : o.op = .call { callee := .builtin .append, args := #[s, x], argTypes := #[t, u] }) (hdN : ∀ d, o.dst = some d → d < N)
    (hs : ev T s = some (.row l)) (hl : ok O l = some (.rowd e 1 f es)) (hL : ¬ c.L l) (hl' : ok O l' = none)
    (hx : ev T x = some (.imm (.string bs))) (hb : es.length + bs.size ≤ 140737488355328) :
    AOp P c N o ⟨T, O⟩ (fun σ2 => σ2 = St.add ⟨T, O⟩ o.dst (.row l') [(l', .rowd e 1 f (es ++ btL bs.data.toList)), (l, .dead)]) := by
  rintro a w ⟨ρ, S, hc⟩
  have hev := ev_rep hc hs
  simp only [Rep] at hev
  obtain ⟨hUl, hse, _⟩ := hev
  obtain ⟨hes, xs, how, h1, hr⟩ := hc.O l _ hl
  have hxe := ev_rep hc hx
  simp only [Rep] at hxe
  obtain ⟨i, z, hi1, hi2, hi3, hi4, hi5, hi6⟩ := ty.info
  have hz1 : z = .int .u8 0 := by
    rw [hi2] at hz0
    simp only [Option.map_some, Option.some.injEq, hi3] at hz0
    exact hz0
  subst hz1
  obtain ⟨v', w', hrun, how0, hgr, hat⟩ := run_append_own_string_at (P := P) w t u o.type e i hi1 hus hi2 hi3 hi4 hi5 (ρ l) es.length xs how bs hb
  obtain ⟨us, hus2, how', hone, hrep⟩ : ∃ us : List Value, us = Lib.strCells bs ∧ w'.ownsRow 0 e 1 v' (es.length + bs.size) (xs ++ us) ∧ (∀ u ∈ us, u.oneCell' = true) ∧ RepL w ρ S (St.U ⟨T, O⟩) (lift f (btL bs.data.toList).flatten) us :=
    ⟨_, rfl, how0, Lib.strCells_oneCell bs, btL_cells _⟩
  have hown := owns_own how
  have hown' := owns_own how'
  rw [hown] at hgr hat
  rw [hown'] at hat
  have hf : Far (fun b => blk (ρ l) = some b) w w' := ⟨hgr.os, hgr.tape, hgr.output, hgr.size, fun b hb hne => hgr.block b hb (fun e => hne e.symm), run_drawn _ _ _ _ hrun⟩
  -- the old row is no more
  have hll : l ≠ l' := fun e => by subst e; rw [hl] at hl'; cases hl'
  have hokd : ∀ m ob, ok ((l, Ob.dead) :: O) m = some ob → ob.live → ok O m = some ob ∧ m ≠ l := fun m ob hm hv => by
    rw [ok_cons] at hm
    split at hm
    · cases hm; exact hv.elim
    · rename_i hne; exact ⟨hm, fun e => hne e.symm⟩
  have hUd : ∀ m, St.U ⟨T, O⟩ m → St.U ⟨T, (l, .dead) :: O⟩ m := fun m hm => U_cons m hm
  have hc1 : Conc c N ⟨T, (l, .dead) :: O⟩ a w ρ S := by
    refine ⟨hc.tm, hc.df, fun t v ht => (hc.T t v ht).mono (fun _ _ h => h) (fun _ _ _ => rfl) hUd (fun _ _ => rfl), fun m ob hm => ?_, fun m m' ob ob' b h1 h2 h3 h4 => hc.dj m m' ob ob' b (hokd m ob h1 h3).1 (hokd m' ob' h2 h4).1 h3 h4, fun m ob b f h1 h2 => hc.dS m ob b f (hokd m ob h1 h2).1 h2, fun m ob b h1 h2 => hc.wr m ob b (hokd m ob h1 h2).1 h2, fun m ob b h1 h2 => hc.lt m ob b (hokd m ob h1 h2).1 h2, hc.SS, hc.Sb, hc.Sn, hc.So, fun m hm => ⟨?_, (hc.lo m hm).2⟩, hc.fm⟩
    · by_cases hv : ob.live
      · obtain ⟨h1, h2⟩ := hokd m ob hm hv
        exact (hc.O m ob h1).mono (fun _ _ h => h) (fun _ _ _ => rfl) hUd (fun _ _ => rfl) (by simp [St.U, h1]) (fun _ _ => rfl)
      · cases ob <;> simp [Ob.live] at hv; trivial
    · have := (hc.lo m hm).1
      simp only [ok_cons]
      split
      · rfl
      · exact this
  have hne : ∀ m ob, ok ((l, Ob.dead) :: O) m = some ob → ob.live → m ≠ l := fun m ob hm hv => (hokd m ob hm hv).2
  have hlock : ¬ c.L l := hL
  have hwr : ∀ b, blk (ρ l) = some b → c.w0.heap.size ≤ b := fun b hb => by
    rcases hc.wr l _ b hl trivial hb with h | h
    · exact h
    · exact absurd h.1 hlock
  have hc2 : Conc c N ⟨T, (l, .dead) :: O⟩ a w' ρ S := hc1.grow hf (fun f b hS e => hc.dS l _ b f hl trivial e hS) (fun m ob b hm hv hb e => hne m ob hm hv (hc.dj m l ob _ b (hokd m ob hm hv).1 hl hv trivial hb e)) (fun b hb e => by have := hwr b e; omega)
  have hsz := hf.size
  have hblk : ∀ b, blk v' = some b → b < w'.heap.size ∧ c.w0.heap.size ≤ b ∧ (∀ f, ¬ S f b) ∧ ∀ m om, ok ((l, Ob.dead) :: O) m = some om → om.live → blk (ρ m) ≠ some b := by
    intro b hb
    have hlt : b < w'.heap.size := by
      obtain ⟨_, _, _, hh, _⟩ := row_cells how' hb
      exact (Array.getElem?_eq_some_iff.1 hh).1
    rcases hat with h | h
    · rw [h] at hb
      exact ⟨hlt, hwr b hb, fun f hS => hc.dS l _ b f hl trivial hb hS, fun m om hm hv e => hne m om hm hv (hc.dj m l om _ b (hokd m om hm hv).1 hl hv trivial e hb)⟩
    · rw [h] at hb; simp only [Option.some.injEq] at hb; subst hb
      have := hc.fm.size
      exact ⟨hlt, this, fun f hS => Nat.lt_irrefl _ (hc.Sb f _ hS), fun m om hm hv e => Nat.lt_irrefl _ (hc.lt m om _ (hokd m om hm hv).1 hv e)⟩
  have hS' : ∀ f b, S f b → w'.heap[b]? = w.heap[b]? := fun f b hb => hf.block b (hc.Sb f b hb) (fun e => hc.dS l _ b f hl trivial e hb)
  have hcells : RepL w' (upd ρ l' v') S (St.U ⟨T, (l', .rowd e 1 f (es ++ btL bs.data.toList)) :: (l, .dead) :: O⟩) (lift f (es ++ btL bs.data.toList).flatten) (xs ++ us) := by
    have h8 : lift f (es ++ btL bs.data.toList).flatten = lift f es.flatten ++ lift f (btL bs.data.toList).flatten := by simp [lift]
    rw [h8]
    exact (RepL.move (p := fun _ => false) (fun _ _ h => h) hS' (fun _ h => by cases h) _ _ (allLs_lift _ _ _) hr).append (RepL.move (p := fun _ => false) (fun _ _ h => h) hS' (fun _ h => by cases h) _ _ (allLs_lift _ _ _) hrep)
  have hc3 : Conc c N ⟨T, (l', .rowd e 1 f (es ++ btL bs.data.toList)) :: (l, .dead) :: O⟩ a w' (upd ρ l' v') S := by
    refine hc2.addOb (by rw [ok_cons, if_neg hll]; exact hl') hblk ⟨?_, xs ++ us, ?_, ?_, hcells⟩
    · intro d hd
      rcases List.mem_append.1 hd with h | h
      · exact hes d h
      · exact btL_len1 _ d h
    · rw [upd_same, List.length_append, btL_length, Array.length_toList]; exact how'
    · intro y hy
      rcases List.mem_append.1 hy with h | h
      · exact h1 y h
      · exact hone y h
  have hput := hc3.put (dst := o.dst) (v := .row l') (x := v') hdN (by
    simp only [Rep]
    obtain ⟨A', cc, hv⟩ := owns_slice how'
    exact ⟨by simp [St.U, ok_cons], (upd_same ρ l' v').symm, A', _, cc, hv⟩)
  have hex : (execOp a.eval o).run P w = .ok (.value v') w' := by
    simp only [execOp, ho, resolve]
    simp [Sem.run_bind, invoke, builtin, hse, hxe, hrun]
  unfold Oper.wp
  rw [hex]
  refine ⟨_, ⟨_, _, hput⟩, ?_⟩
  cases o.dst <;> rfl
theorem awps_append_str {ops : Array Oper} {rest : List Oper} {s x : Operand} {t u e : TypeId} {l d : Nat} {f : Bool} {es : List (List D)} {bs : ByteArray} {T : List (Nat × AV)} {O : List (Nat × Ob)} (l' : Nat) (ty : TyA P t e 1 1) (hz0 : (P.info? e).map (·.zero) = some (some (.int .u8 0))) (hus : P.underlying u = some .string) (hg : o.guard = none) (hd : o.dst = some d) (hN : d < N)
    (ho : o.op = .call { callee := .builtin .append, args := #[s, x], argTypes := #[t, u] }) (hs : ev T s = some (.row l)) (hl : ok O l = some (.rowd e 1 f es)) (hL : ¬ c.L l) (hl' : ok O l' = none) (hx : ev T x = some (.imm (.string bs))) (hb : es.length + bs.size ≤ 140737488355328)
    (K : awps P c N ops rest Q ⟨(d, .row l') :: T, (l', .rowd e 1 f (es ++ btL bs.data.toList)) :: (l, .dead) :: O⟩) : awps P c N ops (o :: rest) Q ⟨T, O⟩ := by
  refine awps_op hg fun a w hc => Oper.wp_mono ?_ (append_str (l' := l') ty hz0 hus ho (by intro e he; rw [hd] at he; cases he; exact hN) hs hl hL hl' hx hb a w hc)
  rintro a w ⟨σ2, h2, rfl⟩
  refine ⟨_, h2, ?_⟩
  simpa [St.add, hd] using K
theorem stp_conv_bytes {s d e : TypeId} {x : Operand} {l : Nat} {f : Bool} {bs : List UInt8} (ho : o.op = .convert s d x) (hs : P.underlying s = some (.slice e)) (he : P.underlying e = some (.int .u8)) (hd : P.underlying d = some .string)
    (hx : ev σ.T x = some (.row l)) (hl : ok σ.O l = some (.rowd e 1 f (btL bs))) : Stp P c N o σ [l] (.imm (.string ⟨bs.toArray⟩)) [] := by
  refine stp_value fun σ' h1 h2 st w ρ S hc => ⟨_, ?_, by simp only [Rep]; rfl⟩
  have hx' := ev_rep hc (h1 x (by simp [ho, Op.operands]) _ hx)
  simp only [Rep] at hx'
  obtain ⟨hes, xs, how, h3, hr⟩ := hc.O l _ (h2 l (by simp) _ hl)
  have hxs := btL_back _ _ hr
  subst hxs
  rw [btL_length] at how
  have hsz : (ByteArray.mk bs.toArray).size = bs.length := by simp [ByteArray.size]
  simp only [execOp, ho, hx'.2.1]
  rcases how.2 with ⟨h7, h8⟩ | ⟨g, cap, cur, h7, _, _, _, _, _⟩
  · have hnil : bs = [] := List.eq_nil_of_length_eq_zero h8
    subst hnil
    rw [h7]
    have := Lib.run_convert_nil_bytes (P := P) w s d e 0 hs he hd
    simp [Sem.run_bind, this]
  · have hB : Lib.Bytes w g 0 ⟨bs.toArray⟩ := fun i hi => by
      rw [Nat.zero_add]
      refine row_cells_get how (by rw [h7]; rfl) i _ ?_
      rw [hsz] at hi
      simp [List.getElem?_map, List.getElem?_eq_getElem hi]
      rfl
    have := Lib.run_convert_whole (P := P) w s e d hs he hd g 0 ⟨bs.toArray⟩ hB cap
    rw [hsz] at this
    rw [h7]
    simp [Sem.run_bind, this]
end
end Go.Proofs.YtdecgkhdbfgldaaGreat

set_option linter.unusedVariables false
set_option linter.unusedSimpArgs false
namespace Go.Proofs.YtdecgkhdbfgldaaGreat
open Go
mutual
def ShD : D → D → Prop
  | .imm v, d' => ∃ v', d' = .imm v' ∧ SpV v v'
  | .sl k es, d' => ∃ es', d' = .sl k es' ∧ (es' = [] ∨ ShEs es es')
def ShEs : List (List D) → List (List D) → Prop
  | [], es' => es' = []
  | e :: es, es' => ∃ e' es'', es' = e' :: es'' ∧ ShCs e e' ∧ ShEs es es''
def ShCs : List D → List D → Prop
  | [], ds' => ds' = []
  | d :: ds, ds' => ∃ d' ds'', ds' = d' :: ds'' ∧ ShD d d' ∧ ShCs ds ds''
end
mutual
theorem ShD.refl : ∀ d : D, ShD d d
  | .imm v => by simp only [ShD]; exact ⟨v, rfl, .inl rfl⟩
  | .sl k es => by simp only [ShD]; exact ⟨es, rfl, .inr (ShEs.refl es)⟩
theorem ShEs.refl : ∀ es : List (List D), ShEs es es
  | [] => by simp only [ShEs]
  | e :: es => by simp only [ShEs]; exact ⟨e, es, rfl, ShCs.refl e, ShEs.refl es⟩
theorem ShCs.refl : ∀ ds : List D, ShCs ds ds
  | [] => by simp only [ShCs]
  | d :: ds => by simp only [ShCs]; exact ⟨d, ds, rfl, ShD.refl d, ShCs.refl ds⟩
end
theorem ShEs.length : ∀ {es es' : List (List D)}, ShEs es es' → es'.length = es.length
  | [], es', h => by simp only [ShEs] at h; rw [h]
  | e :: es, es', h => by simp only [ShEs] at h; obtain ⟨e', es'', rfl, _, h⟩ := h; simp [h.length]
theorem ShCs.length : ∀ {ds ds' : List D}, ShCs ds ds' → ds'.length = ds.length
  | [], es', h => by simp only [ShCs] at h; rw [h]
  | e :: es, es', h => by simp only [ShCs] at h; obtain ⟨e', es'', rfl, _, h⟩ := h; simp [h.length]
theorem SpB.cell {w w' : World} {b off : Nat} {v : Value} (h : SpB w.heap[b]? w'.heap[b]?) (hv : w.cell? ⟨b, off, none⟩ = some v) : ∃ v', w'.cell? ⟨b, off, none⟩ = some v' ∧ SpV v v' := by
  rcases h with h | ⟨cur, cur', ty, fr, h1, h2, hs, h⟩
  · exact ⟨v, by rw [World.cell?_of_block (w := w) h]; exact hv, .inl rfl⟩
  · simp only [World.cell?, h1] at hv
    have hv : cur[off]? = some v := by simpa using hv
    have hlt : off < cur'.size := by have := (Array.getElem?_eq_some_iff.1 hv).1; omega
    refine ⟨cur'[off], ?_, h off v _ hv (Array.getElem?_eq_getElem hlt)⟩
    simp only [World.cell?, h2]
    simp [hlt]
theorem SpB.al {w w' : World} {b k off : Nat} (h : SpB w.heap[b]? w'.heap[b]?) (ha : Al w b k off) : Al w' b k off := by
  rcases h with h | ⟨cur, cur', ty, fr, h1, h2, hs, h⟩
  · exact ha.of_block h
  · obtain ⟨h3, cur0, ty0, fr0, h4, h5⟩ := ha
    rw [h1] at h4; cases h4
    exact ⟨h3, cur', ty, fr, h2, h5⟩
theorem SpV.one {x y : Value} (h : SpV x y) (hx : x.oneCell' = true) : y.oneCell' = true := by
  rcases h with rfl | ⟨_, _, _, rfl, rfl⟩ | ⟨_, _, rfl, rfl⟩ | ⟨_, _, _, rfl, rfl⟩
  · exact hx
  · rfl
  · rfl
  · rfl
mutual
theorem RepD.sp {w w' : World} {F : Bool} {S : Nat → Prop} (hw : ∀ b, S b → SpB w.heap[b]? w'.heap[b]?) : ∀ (d : D) (x : Value), RepD w F S d x → ∃ d', ShD d d' ∧ RepD w' F S d' x
  | .imm v, x, h => ⟨.imm v, ShD.refl _, by simpa [RepD] using h⟩
  | .sl k es, x, h => by
    simp only [RepD] at h
    obtain ⟨A, n, c, rfl, hn, hc, hm, h⟩ := h
    rcases h with h | ⟨b, off, hA, hb, hal, h⟩
    · exact ⟨.sl k es, ShD.refl _, by simp only [RepD]; exact ⟨A, n, c, rfl, hn, hc, hm, .inl h⟩⟩
    · obtain ⟨es', h1, h2⟩ := RepEs.sp hw b k hb off es h
      refine ⟨.sl k es', by simp only [ShD]; exact ⟨es', rfl, .inr h1⟩, ?_⟩
      simp only [RepD]
      exact ⟨A, n, c, rfl, by rw [h1.length]; exact hn, hc, hm, .inr ⟨b, off, hA, hb, fun e => (hw b hb).al (hal e), h2⟩⟩
theorem RepEs.sp {w w' : World} {F : Bool} {S : Nat → Prop} (hw : ∀ b, S b → SpB w.heap[b]? w'.heap[b]?) (b k : Nat) (hb : S b) : ∀ (off : Nat) (es : List (List D)), RepEs w F S b k off es → ∃ es', ShEs es es' ∧ RepEs w' F S b k off es'
  | _, [], _ => ⟨[], by simp only [ShEs], by simp [RepEs]⟩
  | off, e :: es, h => by
    simp only [RepEs] at h
    obtain ⟨e', h1, h2⟩ := RepCs.sp hw b hb off e h.1.2
    obtain ⟨es', h3, h4⟩ := RepEs.sp hw b k hb (off + k) es h.2
    refine ⟨e' :: es', by simp only [ShEs]; exact ⟨e', es', rfl, h1, h3⟩, ?_⟩
    simp only [RepEs]
    exact ⟨⟨by rw [h1.length]; exact h.1.1, h2⟩, h4⟩
theorem RepCs.sp {w w' : World} {F : Bool} {S : Nat → Prop} (hw : ∀ b, S b → SpB w.heap[b]? w'.heap[b]?) (b : Nat) (hb : S b) : ∀ (off : Nat) (ds : List D), RepCs w F S b off ds → ∃ ds', ShCs ds ds' ∧ RepCs w' F S b off ds'
  | _, [], _ => ⟨[], by simp only [ShCs], by simp [RepCs]⟩
  | off, d :: ds, h => by
    simp only [RepCs] at h
    obtain ⟨⟨v, hv, h1, hd⟩, h⟩ := h
    obtain ⟨ds', h3, h4⟩ := RepCs.sp hw b hb (off + 1) ds h
    obtain ⟨v', hv', hs⟩ := (hw b hb).cell hv
    have key : ∃ d', ShD d d' ∧ RepD w' F S d' v' := by
      have hsame : v' = v → ∃ d', ShD d d' ∧ RepD w' F S d' v' := fun e => by rw [e]; exact RepD.sp hw d v hd
      cases d with
      | imm u =>
        simp only [RepD] at hd; subst hd
        exact ⟨.imm v', by simp only [ShD]; exact ⟨v', rfl, hs⟩, by simp [RepD]⟩
      | sl k es =>
        rcases hs with hs | ⟨_, _, _, hs, _⟩ | ⟨_, _, hs, _⟩ | ⟨A, n, c, hs, rfl⟩
        · exact hsame hs
        · simp only [RepD] at hd; obtain ⟨_, _, _, h5, _⟩ := hd; rw [hs] at h5; cases h5
        · simp only [RepD] at hd; obtain ⟨_, _, _, h5, _⟩ := hd; rw [hs] at h5; cases h5
        · exact ⟨.sl k [], by simp only [ShD]; exact ⟨[], rfl, .inl rfl⟩, by simp only [RepD]; exact ⟨none, 0, 0, rfl, rfl, Nat.le_refl _, Nat.zero_le _, .inl rfl⟩⟩
    obtain ⟨d', h5, h6⟩ := key
    refine ⟨d' :: ds', by simp only [ShCs]; exact ⟨d', ds', rfl, h5, h3⟩, ?_⟩
    simp only [RepCs]
    exact ⟨⟨v', hv', hs.one h1, h6⟩, h4⟩
end
mutual
def ShV : AV → AV → Prop
  | .any, v' => v' = .any
  | .imm v, v' => v' = .imm v
  | .dat f k es, v' => ∃ es', v' = .dat f k es' ∧ (if f = true then ShEs es es' else es' = es)
  | .agg cs, v' => ∃ cs', v' = .agg cs' ∧ ShL cs cs'
  | .ptr l off, v' => v' = .ptr l off
  | .elp f cs, v' => ∃ cs', v' = .elp f cs' ∧ (if f = true then ShCs cs cs' else cs' = cs)
  | .row l, v' => v' = .row l
  | .fn f cs, v' => ∃ cs', v' = .fn f cs' ∧ ShL cs cs'
  | .map l, v' => v' = .map l
  | .tup cs, v' => ∃ cs', v' = .tup cs' ∧ ShL cs cs'
  | .vw l off n c, v' => v' = .vw l off n c
def ShL : List AV → List AV → Prop
  | [], vs' => vs' = []
  | v :: vs, vs' => ∃ v' vs'', vs' = v' :: vs'' ∧ ShV v v' ∧ ShL vs vs''
end
mutual
theorem ShV.refl : ∀ v : AV, ShV v v
  | .any => by simp only [ShV]
  | .imm v => by simp only [ShV]
  | .dat f k es => by simp only [ShV]; exact ⟨es, rfl, by split; exact ShEs.refl es; rfl⟩
  | .agg cs => by simp only [ShV]; exact ⟨cs, rfl, ShL.refl cs⟩
  | .ptr l off => by simp only [ShV]
  | .elp f cs => by simp only [ShV]; exact ⟨cs, rfl, by split; exact ShCs.refl cs; rfl⟩
  | .row l => by simp only [ShV]
  | .fn f cs => by simp only [ShV]; exact ⟨cs, rfl, ShL.refl cs⟩
  | .map l => by simp only [ShV]
  | .tup cs => by simp only [ShV]; exact ⟨cs, rfl, ShL.refl cs⟩
  | .vw l off n c => by simp only [ShV]
theorem ShL.refl : ∀ vs : List AV, ShL vs vs
  | [] => by simp only [ShL]
  | v :: vs => by simp only [ShL]; exact ⟨v, vs, rfl, ShV.refl v, ShL.refl vs⟩
end
theorem ShL.length : ∀ {vs vs' : List AV}, ShL vs vs' → vs'.length = vs.length
  | [], es', h => by simp only [ShL] at h; rw [h]
  | e :: es, es', h => by simp only [ShL] at h; obtain ⟨e', es'', rfl, _, h⟩ := h; simp [h.length]
mutual
theorem Rep.sp {w w' : World} {ρ : Nat → Value} {S : Bool → Nat → Prop} {U : Nat → Prop} (hT : ∀ b, S true b → SpB w.heap[b]? w'.heap[b]?) (hF : ∀ b, S false b → w'.heap[b]? = w.heap[b]?) : ∀ (v : AV) (x : Value), Rep w ρ S U v x → ∃ v', ShV v v' ∧ Rep w' ρ S U v' x
  | .any, x, h => ⟨.any, ShV.refl _, by simp [Rep]⟩
  | .imm v, x, h => ⟨.imm v, ShV.refl _, by simpa [Rep] using h⟩
  | .dat f k es, x, h => by
    simp only [Rep] at h
    cases f with
    | false => exact ⟨_, ShV.refl _, by simp only [Rep]; exact RepD.mono id (fun _ h => h) hF _ _ h⟩
    | true =>
      obtain ⟨d', h1, h2⟩ := RepD.sp hT _ _ h
      simp only [ShD] at h1
      obtain ⟨es', rfl, h1⟩ := h1
      by_cases he : es' = []
      · -- the slice itself is az it was: its length tells
        have hlen : es.length = 0 := by
          subst he
          simp only [RepD] at h h2
          obtain ⟨A, n, c, hx, hn, _⟩ := h
          obtain ⟨A', n', c', hx', hn', _⟩ := h2
          rw [hx] at hx'; cases hx'; rw [← hn, hn']; rfl
        have he2 : es = [] := List.eq_nil_of_length_eq_zero hlen
        subst he; subst he2
        exact ⟨.dat true k [], ShV.refl _, by simp only [Rep]; exact h2⟩
      · exact ⟨.dat true k es', by simp only [ShV]; exact ⟨es', rfl, by simpa using h1.resolve_left he⟩, by simp only [Rep]; exact h2⟩
  | .agg cs, x, h => by
    simp only [Rep] at h
    obtain ⟨xs, hx, h1, h⟩ := h
    obtain ⟨cs', h2, h3⟩ := RepL.sp hT hF cs xs h
    exact ⟨.agg cs', by simp only [ShV]; exact ⟨cs', rfl, h2⟩, by simp only [Rep]; exact ⟨xs, hx, h1, h3⟩⟩
  | .ptr l off, x, h => ⟨.ptr l off, ShV.refl _, by simpa only [Rep] using h⟩
  | .elp f cs, x, h => by
    simp only [Rep] at h
    obtain ⟨b, off, hx, hb, h⟩ := h
    cases f with
    | false => exact ⟨_, ShV.refl _, by simp only [Rep]; exact ⟨b, off, hx, hb, RepCs.mono id (fun _ h => h) hF b hb off cs h⟩⟩
    | true =>
      obtain ⟨cs', h1, h2⟩ := RepCs.sp hT b hb off cs h
      exact ⟨.elp true cs', by simp only [ShV]; exact ⟨cs', rfl, by simpa using h1⟩, by simp only [Rep]; exact ⟨b, off, hx, hb, h2⟩⟩
  | .row l, x, h => ⟨.row l, ShV.refl _, by simpa only [Rep] using h⟩
  | .fn f cs, x, h => by
    simp only [Rep] at h
    obtain ⟨xs, hx, h⟩ := h
    obtain ⟨cs', h2, h3⟩ := RepL.sp hT hF cs xs h
    exact ⟨.fn f cs', by simp only [ShV]; exact ⟨cs', rfl, h2⟩, by simp only [Rep]; exact ⟨xs, hx, h3⟩⟩
  | .map l, x, h => ⟨.map l, ShV.refl _, by simpa only [Rep] using h⟩
  | .tup cs, x, h => by
    simp only [Rep] at h
    obtain ⟨xs, hx, h⟩ := h
    obtain ⟨cs', h2, h3⟩ := RepL.sp hT hF cs xs h
    exact ⟨.tup cs', by simp only [ShV]; exact ⟨cs', rfl, h2⟩, by simp only [Rep]; exact ⟨xs, hx, h3⟩⟩
  | .vw l off n c, x, h => ⟨.vw l off n c, ShV.refl _, by simpa only [Rep] using h⟩
theorem RepL.sp {w w' : World} {ρ : Nat → Value} {S : Bool → Nat → Prop} {U : Nat → Prop} (hT : ∀ b, S true b → SpB w.heap[b]? w'.heap[b]?) (hF : ∀ b, S false b → w'.heap[b]? = w.heap[b]?) : ∀ (vs : List AV) (xs : List Value), RepL w ρ S U vs xs → ∃ vs', ShL vs vs' ∧ RepL w' ρ S U vs' xs
  | [], xs, h => ⟨[], by simp only [ShL], by simpa [RepL] using h⟩
  | v :: vs, xs, h => by
    simp only [RepL] at h
    obtain ⟨y, ys, hx, h1, h2⟩ := h
    obtain ⟨v', h3, h4⟩ := Rep.sp hT hF v y h1
    obtain ⟨vs', h5, h6⟩ := RepL.sp hT hF vs ys h2
    exact ⟨v' :: vs', by simp only [ShL]; exact ⟨v', vs', rfl, h3, h5⟩, by simp only [RepL]; exact ⟨y, ys, hx, h4, h6⟩⟩
end
def ShOb : Ob → Ob → Prop
  | .box cs, o' => ∃ cs', o' = .box cs' ∧ ShL cs cs'
  | .row e k cs, o' => ∃ cs', o' = .row e k cs' ∧ ShL cs cs'
  | .rowd e k f es, o' => o' = if f = true then .dead else .rowd e k f es
  | .mp P k ks, o' => o' = .mp P k ks
  | .dead, o' => o' = .dead
  | .arr e k f es, o' => o' = if f = true then .dead else .arr e k f es
  | .mx it P k kvs cur, o' => o' = .mx it P k kvs cur
def ShT : List (Nat × AV) → List (Nat × AV) → Prop
  | [], T' => T' = []
  | (t, v) :: T, T' => ∃ v' T'', T' = (t, v') :: T'' ∧ ShV v v' ∧ ShT T T''
def ShO : List (Nat × Ob) → List (Nat × Ob) → Prop
  | [], O' => O' = []
  | (t, v) :: O, O' => ∃ v' O'', O' = (t, v') :: O'' ∧ ShOb v v' ∧ ShO O O''
theorem ShOb.live {o o' : Ob} (h : ShOb o o') (hl : o'.live) : o.live := by
  cases o with
  | box cs => trivial
  | row e k cs => trivial
  | rowd e k f es => trivial
  | mp P k ks => trivial
  | dead => simp only [ShOb] at h; rw [h] at hl; exact hl
  | arr e k f es => trivial
  | mx it P k kvs cur => trivial
theorem ShOb.ex (o : Ob) : ∃ o', ShOb o o' := by
  cases o with
  | box cs => exact ⟨.box cs, cs, rfl, ShL.refl cs⟩
  | row e k cs => exact ⟨.row e k cs, cs, rfl, ShL.refl cs⟩
  | rowd e k f es => exact ⟨_, rfl⟩
  | mp P k ks => exact ⟨_, rfl⟩
  | dead => exact ⟨_, rfl⟩
  | arr e k f es => exact ⟨_, rfl⟩
  | mx it P k kvs cur => exact ⟨_, rfl⟩
theorem ShT.build {R : Nat → AV → Prop} {R' : Nat → AV → Prop} (hR : ∀ t v, R t v → ∃ v', ShV v v' ∧ R' t v') : ∀ (T : List (Nat × AV)) (p : Nat → Prop), (∀ t v, ¬ p t → lk T t = some v → R t v) → ∃ T', ShT T T' ∧ ∀ t v, ¬ p t → lk T' t = some v → R' t v
  | [], p, h => ⟨[], by simp only [ShT], fun t v _ hv => by simp [lk] at hv⟩
  | (s, v) :: T, p, h => by
    obtain ⟨T'', h1, h2⟩ := ShT.build hR T (fun t => p t ∨ t = s) (fun t u hp hu => h t u (fun k => hp (.inl k)) (by rw [lk_cons, if_neg (fun e => hp (.inr e.symm))]; exact hu))
    obtain ⟨v', h3, h4⟩ : ∃ v', ShV v v' ∧ (¬ p s → R' s v') := by
      by_cases hp : p s
      · exact ⟨v, ShV.refl v, fun k => absurd hp k⟩
      · obtain ⟨v', h3, h4⟩ := hR s v (h s v hp (by rw [lk_cons, if_pos rfl]))
        exact ⟨v', h3, fun _ => h4⟩
    refine ⟨(s, v') :: T'', by simp only [ShT]; exact ⟨v', T'', rfl, h3, h1⟩, fun t u hp hu => ?_⟩
    rw [lk_cons] at hu
    split at hu
    · rename_i e; subst e; cases hu; exact h4 hp
    · rename_i e; exact h2 t u (fun k => k.elim hp (fun k => e k.symm)) hu
theorem ShO.build {R : Nat → Ob → Prop} {R' : Nat → Ob → Prop} (hR : ∀ t v, R t v → ∃ v', ShOb v v' ∧ R' t v') : ∀ (T : List (Nat × Ob)) (p : Nat → Prop), (∀ t v, ¬ p t → ok T t = some v → R t v) → ∃ T', ShO T T' ∧ ∀ t v, ¬ p t → ok T' t = some v → R' t v
  | [], p, h => ⟨[], by simp only [ShO], fun t v _ hv => by simp [ok] at hv⟩
  | (s, v) :: T, p, h => by
    obtain ⟨T'', h1, h2⟩ := ShO.build hR T (fun t => p t ∨ t = s) (fun t u hp hu => h t u (fun k => hp (.inl k)) (by rw [ok_cons, if_neg (fun e => hp (.inr e.symm))]; exact hu))
    obtain ⟨v', h3, h4⟩ : ∃ v', ShOb v v' ∧ (¬ p s → R' s v') := by
      by_cases hp : p s
      · obtain ⟨v', h3⟩ := ShOb.ex v
        exact ⟨v', h3, fun k => absurd hp k⟩
      · obtain ⟨v', h3, h4⟩ := hR s v (h s v hp (by rw [ok_cons, if_pos rfl]))
        exact ⟨v', h3, fun _ => h4⟩
    refine ⟨(s, v') :: T'', by simp only [ShO]; exact ⟨v', T'', rfl, h3, h1⟩, fun t u hp hu => ?_⟩
    rw [ok_cons] at hu
    split at hu
    · rename_i e; subst e; cases hu; exact h4 hp
    · rename_i e; exact h2 t u (fun k => k.elim hp (fun k => e k.symm)) hu
theorem ShO.inD : ∀ {O O' : List (Nat × Ob)}, ShO O O' → ∀ l, (ok O' l).isSome = (ok O l).isSome
  | [], O', h, l => by simp only [ShO] at h; rw [h]
  | (s, v) :: O, O', h, l => by
    simp only [ShO] at h
    obtain ⟨v', O'', rfl, _, h⟩ := h
    simp only [ok_cons]
    split
    · rfl
    · exact h.inD l
theorem ShO.get : ∀ {O O' : List (Nat × Ob)}, ShO O O' → ∀ {l : Nat} {o' : Ob}, ok O' l = some o' → ∃ o, ok O l = some o ∧ ShOb o o'
  | [], O', h, l, o', ho => by simp only [ShO] at h; rw [h] at ho; simp [ok] at ho
  | (s, v) :: O, O', h, l, o', ho => by
    simp only [ShO] at h
    obtain ⟨v', O'', rfl, h1, h⟩ := h
    rw [ok_cons] at ho ⊢
    split at ho
    · rename_i e; rw [if_pos e]; cases ho; exact ⟨v, rfl, h1⟩
    · rename_i e; rw [if_neg e]; exact h.get ho
section
variable {P : Program} {c : Ctx} {N : Nat} {Q : Exit → St → Prop} {σ : St} {o : Oper}
end
end Go.Proofs.YtdecgkhdbfgldaaGreat

set_option linter.unusedVariables false
set_option linter.unusedSimpArgs false
namespace Go.Proofs.YtdecgkhdbfgldaaGreat
open Go
section
variable {P : Program} {c : Ctx} {N : Nat} {Q : Exit → St → Prop} {σ : St} {o : Oper}
theorem stp_load_rowdi {x : Operand} {t : TypeId} {l off n k : Nat} {b f : Bool} {e : TypeId} {es : List (List D)} {d : List D} {v : AV} (i j : Nat) (ho : o.op = .load t x) (ht : tfB P t b n = true) (hx : ev σ.T x = some (.ptr l off)) (hl : ok σ.O l = some (.rowd e k f es))
    (hoff : off = i * k + j) (hi : es[i]? = some d) (hn : Nat.ble (j + n) k = true) (h0 : Nat.ble 1 n = true) (hv : mkA b n ((lift f d).drop j |>.take n) = some v) : Stp P c N o σ [l] v [] := by
  have hn := Nat.le_of_ble_eq_true hn
  have h0 := Nat.le_of_ble_eq_true h0
  refine stp_value fun σ' h1 h2 a w ρ S hc => ?_
  obtain ⟨g, hg, hx'⟩ := eval_ptr hc (h1 x (by simp [ho, Op.operands]) _ hx)
  obtain ⟨hes, xs, how, h1x, hr⟩ := hc.O l _ (h2 l (by simp) _ hl)
  obtain ⟨cap, cur, h5, h6, h7, h8, h9, h10, h11⟩ := row_cells how hg
  have hil : i < es.length := (List.getElem?_eq_some_iff.1 hi).1
  have hle : i * k + k ≤ es.length * k := by rw [← Nat.succ_mul]; exact Nat.mul_le_mul_right _ hil
  have e1 : (xs.drop off).take n = (((xs.drop (i * k)).take k).drop j).take n := by
    rw [List.drop_take, List.take_take, Nat.min_eq_left (by omega), List.drop_drop, hoff]
  refine ⟨mkV b ((xs.drop off).take n), ?_, ?_⟩
  · simp only [execOp, ho, hx', Instr.loadAt, Instr.sureAddr]
    have := run_loadVar_cells (P := P) ht w g off ((xs.drop off).take n) (by simp; omega) (fun j v hv => row_cells_get how hg _ _ (take_get hv))
    simp [Sem.run_bind, this]
  · rw [e1]
    exact rep_mkA hv (fun y hy => h1x y (List.mem_of_mem_drop (List.mem_of_mem_take (List.mem_of_mem_drop (List.mem_of_mem_take hy))))) (((repL_elem hes hr i d hi).drop j).take n)
end
end Go.Proofs.YtdecgkhdbfgldaaGreat

set_option linter.unusedVariables false
set_option linter.unusedSimpArgs false
namespace Go.Proofs.YtdecgkhdbfgldaaGreat
open Go Go.Maps Go.WideMaps Go.RowKit
def mvDel (kl : Lit) (kvs : List (Lit × List D)) : List (Lit × List D) := kvs.filter fun p => !p.1.sameKey kl
def mvPut (kl : Lit) (ds : List D) (kvs : List (Lit × List D)) : List (Lit × List D) := (kl, ds) :: mvDel kl kvs
theorem mvDel_mem {kl : Lit} (hk : WideAt.IsKeyLit kl) {kvs : List (Lit × List D)} {p : Lit × List D} : p ∈ mvDel kl kvs ↔ p ∈ kvs ∧ p.1 ≠ kl := by
  simp only [mvDel, List.mem_filter, Bool.not_eq_true']
  refine and_congr_right fun _ => ⟨fun h e => ?_, fun h => Maps.sameKey_ne h⟩
  rw [e, WideAt.sameKey_self hk] at h; cases h
theorem mvDel_nodup {kl : Lit} {kvs : List (Lit × List D)} (h : (kvs.map (·.1)).Nodup) : ((mvDel kl kvs).map (·.1)).Nodup := h.sublist ((List.filter_sublist).map _)
theorem mvPut_nodup {kl : Lit} (hk : WideAt.IsKeyLit kl) {ds : List D} {kvs : List (Lit × List D)} (h : (kvs.map (·.1)).Nodup) : ((mvPut kl ds kvs).map (·.1)).Nodup := by
  simp only [mvPut, List.map_cons, List.nodup_cons]
  refine ⟨fun hm => ?_, mvDel_nodup h⟩
  obtain ⟨p, hp, e⟩ := List.mem_map.1 hm
  exact ((mvDel_mem hk).1 hp).2 e
theorem owns_tight {w : World} {P : Program} {k : TypeId} {r n : Nat} {Dt : DataW Value} {ks : List Lit} (K : Keyed P k) (h : w.ownsMap P k RV r n Dt) (hno : ∀ kl, kl ∉ ks → ∀ z, Dt.atKey kl z = z) : ∃ n', w.ownsMap P k RV r n' Dt ∧ n' ≤ ks.length := by
  obtain ⟨es, e1, hp, hkey⟩ := h.entries K
  have hown := h
  obtain ⟨es0, clock, hb, F, hs, hD⟩ := h
  refine ⟨es.length, ⟨es0, clock, hb, F, ?_, hD⟩, ?_⟩
  · rw [e1, DataW.map.injEq] at hD
    rw [hD, length_sorted]; simp
  · have hnd : (es.map (·.1)).Nodup := by
      rw [List.Nodup, List.pairwise_map]; exact hp
    have := hnd.length_le_of_subset (l₂ := ks) (fun kl hkl => by
      obtain ⟨p, hpm, rfl⟩ := List.mem_map.1 hkl
      apply Classical.byContradiction
      intro hn
      have hf := Maps.has_false_of_atKey (hno p.1 hn)
      have ht : Maps.has Dt p.1 = true := by
        rw [e1]; exact List.any_eq_true.2 ⟨p, hpm, WideAt.sameKey_self (hkey p hpm)⟩
      rw [hf] at ht; cases ht)
    simpa using this
theorem entry_congr {P : Program} {w1 w2 : World} {r b s c : Nat} {seen : Array Nat} {v : Value} (hr : w2.heap[r]? = w1.heap[r]?) (hb : w2.heap[b]? = w1.heap[b]?) (hi : w1.heap[r]? = some (.mapIter (some b) s seen c)) (h : (Instr.entry (.pointer (some ⟨r, 0, none⟩))).run P w1 = .ok v w1) : (Instr.entry (.pointer (some ⟨r, 0, none⟩))).run P w2 = .ok v w2 := by
  rw [hi] at hr
  simp only [Instr.entry, getObj, Sem.run_bind, Sem.run, hi, hr, Result.andThen] at h ⊢
  cases hs : seen.back? with
  | none => simp [hs, stuck, Sem.run] at h
  | some stamp =>
    simp only [hs, Sem.run_bind, Sem.run, hb] at h ⊢
    cases hm : w1.heap[b]? with
    | none => simp [hm, Result.andThen] at h
    | some ob =>
      simp only [hm] at h ⊢
      cases ob with
      | map es clock =>
        simp only [Result.andThen] at h ⊢
        by_cases hc : (clock != c) = true
        · simp only [hc, if_true] at h
          simp [unsupported, Sem.run, Sem.run_bind] at h
        · simp only [hc] at h ⊢
          cases hf : es.find? (fun x => x.born == stamp) with
          | none => simp [hf, unsupported, Sem.run] at h
          | some e => 
            simp [hf] at h ⊢
            exact h
      | _ => simp [Result.andThen, stuck, Sem.run] at h
section
variable {P : Program} {c : Ctx} {N : Nat} {Q : Exit → St → Prop} {σ : St} {o : Oper}
theorem Conc.fixOb {T : List (Nat × AV)} {O : List (Nat × Ob)} {a : Act} {w : World} {ρ : Nat → Value} {S : Bool → Nat → Prop} (hc : Conc c N ⟨T, O⟩ a w ρ S) {l b : Nat} {ob : Ob} (hl : ok O l = some ob) (hv : ob.live) (hL : ¬ c.L l) (hb : blk (ρ l) = some b) : Conc c N ⟨T, (l, .dead) :: O⟩ a w ρ (fun g x => S g x ∨ (g = false ∧ x = b)) := by
  have hS : ∀ g x, S g x → S g x ∨ (g = false ∧ x = b) := fun _ _ h => .inl h
  have hokd : ∀ m ob, ok ((l, Ob.dead) :: O) m = some ob → ob.live → ok O m = some ob ∧ m ≠ l := fun m ob hm hv => by
    rw [ok_cons] at hm
    split at hm
    · cases hm; exact hv.elim
    · rename_i hne; exact ⟨hm, fun e => hne e.symm⟩
  have hU : ∀ m, St.U ⟨T, O⟩ m → St.U ⟨T, (l, .dead) :: O⟩ m := fun m hm => U_cons m hm
  refine ⟨hc.tm, hc.df, fun t v ht => (hc.T t v ht).mono hS (fun _ _ _ => rfl) hU (fun _ _ => rfl), fun m om hm => ?_, fun m m' om om' x h1 h2 h3 h4 => hc.dj m m' om om' x (hokd m om h1 h3).1 (hokd m' om' h2 h4).1 h3 h4, fun m om x f h1 h2 h3 h4 => ?_, fun m om x h1 h2 => hc.wr m om x (hokd m om h1 h2).1 h2, fun m om x h1 h2 => hc.lt m om x (hokd m om h1 h2).1 h2, fun x h => ?_, fun f x h => ?_, fun x h => ?_, fun x h => ?_, fun m hm => ⟨?_, (hc.lo m hm).2⟩, hc.fm.mono (fun g x h => ⟨g, .inl h⟩) (fun x h => h.elim .inl (fun h => by cases h.1))⟩
  · by_cases hv2 : om.live
    · obtain ⟨h1, h2⟩ := hokd m om hm hv2
      exact (hc.O m om h1).mono hS (fun _ _ _ => rfl) hU (fun _ _ => rfl) (by simp [St.U, h1]) (fun _ _ => rfl)
    · cases om <;> simp [Ob.live] at hv2; trivial
  · obtain ⟨k1, k2⟩ := hokd m om h1 h2
    rcases h4 with h4 | ⟨_, rfl⟩
    · exact hc.dS m om x f k1 h2 h3 h4
    · exact k2 (hc.dj m l om ob _ k1 hl h2 hv h3 hb)
  · rcases h with ⟨h1 | h1, h2 | h2⟩
    · exact hc.SS x ⟨h1, h2⟩
    · obtain ⟨_, rfl⟩ := h2; exact hc.dS l ob _ true hl hv hb h1
    · cases h1.1
    · cases h1.1
  · rcases h with h | ⟨_, rfl⟩
    · exact hc.Sb f x h
    · exact hc.lt l ob _ hl hv hb
  · rcases h with h | h
    · exact hc.Sn x h
    · cases h.1
  · rcases h with h | ⟨_, rfl⟩
    · exact hc.So x h
    · rcases hc.wr l ob _ hl hv hb with h | h
      · exact .inr h
      · exact absurd h.1 hL
  · have := (hc.lo m hm).1
    simp only [ok_cons]
    split
    · rfl
    · exact this
theorem stp_makeMx {t k : TypeId} (l : Nat) (ho : o.op = .makeMap t none) (K : Keyed P k) : Stp P c N o σ [] (.map l) [(l, .mx false P k [] none)] := by
  rintro hd σ' _ _ hn
  refine aop_new (p0 := fun b => .map (some b)) hd (hn _ (List.mem_singleton.2 rfl)) fun a w ρ S hc => ?_; refine ⟨.map #[] 0, ?_, rfl, fun ρ' U' hρ hU hl hp => ⟨?_, ?_⟩⟩
  · simp only [execOp, ho, Option.map_none]
    simp [Sem.run_bind, run_makeMap]
  · simp only [ObOk, MxOk, Bool.false_eq_true, if_false]
    exact ⟨w.heap.size, 0, .map [], hp, K, World.ownsMap_made w P k RV, Nat.le_refl _, List.Pairwise.nil, fun _ _ _ => rfl, fun p hp => by cases hp⟩
  · simp only [Rep]
    exact ⟨hl, hp.symm, _, rfl⟩
theorem rep_rvD {w : World} {ρ : Nat → Value} {S : Bool → Nat → Prop} {U : Nat → Prop} {ds : List D} {v : Value} (h : Rep w ρ S U (.agg (lift false ds)) v) : RvD w (S false) ds v := by
  simp only [Rep] at h
  obtain ⟨xs, h1, h2, h3⟩ := h
  refine ⟨xs, h1, h2, by have := h3.length; simpa [lift] using this, fun i d x hd hx => ?_⟩
  obtain ⟨y, hy, hr⟩ := h3.get (i := i) (v := D.av false d) (by simp [lift, hd])
  rw [hx] at hy; cases hy
  cases d with
  | imm v => simpa [D.av, Rep, RepD] using hr
  | sl k es => simpa only [D.av, Rep] using hr
theorem rvD_rep {w : World} {ρ : Nat → Value} {S : Bool → Nat → Prop} {U : Nat → Prop} {ds : List D} {v : Value} (h : RvD w (S false) ds v) : Rep w ρ S U (.agg (lift false ds)) v := by
  obtain ⟨xs, rfl, h2, h3, h4⟩ := h
  simp only [Rep]
  refine ⟨xs, rfl, h2, ?_⟩
  have key : ∀ (ds : List D) (xs : List Value), xs.length = ds.length → (∀ (i : Nat) (d : D) (x : Value), ds[i]? = some d → xs[i]? = some x → RepD w false (S false) d x) → RepL w ρ S U (lift false ds) xs := by
    intro ds
    induction ds with
    | nil => intro xs hl _; have := List.eq_nil_of_length_eq_zero (by simpa using hl); subst this; simp [lift, RepL]
    | cons d ds ih =>
      intro xs hl h
      match xs, hl with
      | x :: xs, hl =>
        have h0 := h 0 d x rfl rfl
        have ht := ih xs (by simpa using hl) (fun i d' x' hd hx => h (i + 1) d' x' (by simpa using hd) (by simpa using hx))
        simp only [lift, List.map_cons, RepL]
        refine ⟨x, xs, rfl, ?_, ht⟩
        cases d with
        | imm v => simpa [D.av, Rep, RepD] using h0
        | sl k es => simpa only [D.av, Rep] using h0
  exact key ds xs h3 h4
theorem awps_mxSet {ops : Array Oper} {rest : List Oper} {t k e : TypeId} {x y z : Operand} {l : Nat} {kvs : List (Lit × List D)} {kv : AV} {key : Value} {kl : Lit} {ds : List D} {T : List (Nat × AV)} {O : List (Nat × Ob)} (hg : o.guard = none) (ho : o.op = .mapUpdate t x y z) (hd : o.dst = none) (ht : P.underlying t = some (.map k e))
    (hx : ev T x = some (.map l)) (hl : ok O l = some (.mx false P k kvs none)) (hy : ev T y = some kv) (hkv : kv.val = some key) (hz : ev T z = some (.agg (lift false ds))) (hkey : keyOf P k key = some kl) (hn : kvs.length < maxLen)
    (K : awps P c N ops rest Q ⟨T, (l, .mx false P k (mvPut kl ds kvs) none) :: O⟩) : awps P c N ops (o :: rest) Q ⟨T, O⟩ := by
  refine awps_op hg ?_
  rintro a w ⟨ρ, S, hc⟩
  have hx' := ev_rep hc hx
  have hy' := val_rep hkv (ev_rep hc hy)
  have hz' := rep_rvD (ev_rep hc hz)
  simp only [Rep] at hx'
  obtain ⟨hU, hxe, r', hr'⟩ := hx'
  have hob := hc.O l _ hl
  simp only [ObOk, MxOk, Bool.false_eq_true, if_false] at hob
  obtain ⟨r, n, Dt, hr, KK, hown, hnn, hnd, hno, hval⟩ := hob
  rw [hr] at hxe
  obtain ⟨w', hrun, hown2, hgrow⟩ := hown.update KK ht (Nat.lt_of_le_of_lt hnn hn) hkey (val := a.eval z) (d := .held (a.eval z)) (ps := []) rfl
  have hf : Far (fun b => blk (ρ l) = some b) w w' := by
    refine ⟨hgrow.os, hgrow.tape, hgrow.output, hgrow.size, fun i hi hb => hgrow.block i hi fun e => hb ?_, run_drawn _ _ _ _ hrun⟩
    rw [hr]; simpa [blk] using e.symm
  have hkl := KK.key hkey
  have hIs : Maps.IsMap Dt := hown.isMap
  have hSb : ∀ b, S false b → w'.heap[b]? = w.heap[b]? := fun b hb => hf.block b (hc.Sb _ b hb) (fun e => hc.dS l _ b _ hl trivial e hb)
  have hkeys : ∀ u, u ∉ (mvPut kl ds kvs).map (·.1) → u ≠ kl ∧ u ∉ kvs.map (·.1) := fun u hu => by
    simp only [mvPut, List.map_cons, List.mem_cons, not_or] at hu
    refine ⟨hu.1, fun hm => hu.2 ?_⟩
    obtain ⟨p, hp, rfl⟩ := List.mem_map.1 hm
    exact List.mem_map.2 ⟨p, (mvDel_mem hkl).2 ⟨hp, hu.1⟩, rfl⟩
  have hno2 : ∀ u, u ∉ (mvPut kl ds kvs).map (·.1) → ∀ z', (Dt.put kl (.held (a.eval z))).atKey u z' = z' := fun u hu z' => by
    rw [atKey_put_other (hkeys u hu).1]; exact hno u (hkeys u hu).2 z'
  obtain ⟨n', hown3, hn'⟩ := owns_tight KK hown2 hno2
  have hob2 : ObOk w' ρ S (St.U ⟨T, (l, .mx false P k (mvPut kl ds kvs) none) :: O⟩) l (.mx false P k (mvPut kl ds kvs) none) := by
    simp only [ObOk, MxOk, Bool.false_eq_true, if_false]
    refine ⟨r, n', _, hr, KK, hown3, by simpa using hn', mvPut_nodup hkl hnd, hno2, fun p hp => ?_⟩
    rcases List.mem_cons.1 hp with rfl | hp
    · exact ⟨_, fun z' => atKey_put_same hIs hkl _ z', hz'.mono (fun _ h => h) hSb⟩
    · obtain ⟨hp1, hp2⟩ := (mvDel_mem hkl).1 hp
      obtain ⟨x, h1, h2⟩ := hval p hp1
      exact ⟨x, fun z' => by rw [atKey_put_other hp2]; exact h1 z', h2.mono (fun _ h => h) hSb⟩
  have hex : (execOp a.eval o).run P w = .ok .skip w' := by
    simp only [execOp, ho, hxe, hy']
    simp [Sem.run_bind, hrun]
  unfold Oper.wp
  rw [hex]
  have hput : a.put o.dst undef = a := by rw [hd]; rfl
  simp only [Oper.upon, hput]
  exact ⟨_, ⟨ρ, S, hc.modOb hl trivial hf hob2⟩, K⟩
theorem awps_mxDel {ops : Array Oper} {rest : List Oper} {t k e : TypeId} {x y : Operand} {l : Nat} {kvs : List (Lit × List D)} {kv : AV} {key : Value} {kl : Lit} {T : List (Nat × AV)} {O : List (Nat × Ob)} (hg : o.guard = none) (ho : o.op = .call { callee := .builtin .delete, args := #[x, y], argTypes := #[t, k] }) (hd : o.dst = none) (ht : P.underlying t = some (.map k e))
    (hx : ev T x = some (.map l)) (hl : ok O l = some (.mx false P k kvs none)) (hy : ev T y = some kv) (hkv : kv.val = some key) (hkey : keyOf P k key = some kl)
    (K : awps P c N ops rest Q ⟨T, (l, .mx false P k (mvDel kl kvs) none) :: O⟩) : awps P c N ops (o :: rest) Q ⟨T, O⟩ := by
  refine awps_op hg ?_
  rintro a w ⟨ρ, S, hc⟩
  have hx' := ev_rep hc hx
  have hy' := val_rep hkv (ev_rep hc hy)
  simp only [Rep] at hx'
  obtain ⟨hU, hxe, r', hr'⟩ := hx'
  have hob := hc.O l _ hl
  simp only [ObOk, MxOk, Bool.false_eq_true, if_false] at hob
  obtain ⟨r, n, Dt, hr, KK, hown, hnn, hnd, hno, hval⟩ := hob
  rw [hr] at hxe
  obtain ⟨w', hrun, hown2, hmt⟩ := hown.drop KK ht hkey o.type
  have hgrow := hmt.grown
  have hf : Far (fun b => blk (ρ l) = some b) w w' := by
    refine ⟨hgrow.os, hgrow.tape, hgrow.output, hgrow.size, fun i hi hb => hgrow.block i hi fun e => hb ?_, run_drawn _ _ _ _ hrun⟩
    rw [hr]; simpa [blk] using e.symm
  have hkl := KK.key hkey
  have hSb : ∀ b, S false b → w'.heap[b]? = w.heap[b]? := fun b hb => hf.block b (hc.Sb _ b hb) (fun e => hc.dS l _ b _ hl trivial e hb)
  have hno2 : ∀ u, u ∉ (mvDel kl kvs).map (·.1) → ∀ z', (Dt.del kl).atKey u z' = z' := fun u hu z' => by
    by_cases hukl : u = kl
    · subst hukl; exact atKey_del_same z'
    · rw [atKey_del_other hukl]
      refine hno u (fun hm => hu ?_) z'
      obtain ⟨p, hp, rfl⟩ := List.mem_map.1 hm
      exact List.mem_map.2 ⟨p, (mvDel_mem hkl).2 ⟨hp, hukl⟩, rfl⟩
  obtain ⟨n', hown3, hn'⟩ := owns_tight KK hown2 hno2
  have hob2 : ObOk w' ρ S (St.U ⟨T, (l, .mx false P k (mvDel kl kvs) none) :: O⟩) l (.mx false P k (mvDel kl kvs) none) := by
    simp only [ObOk, MxOk, Bool.false_eq_true, if_false]
    refine ⟨r, n', _, hr, KK, hown3, by simpa using hn', mvDel_nodup hnd, hno2, fun p hp => ?_⟩
    obtain ⟨hp1, hp2⟩ := (mvDel_mem hkl).1 hp
    obtain ⟨x, h1, h2⟩ := hval p hp1
    exact ⟨x, fun z' => by rw [atKey_del_other hp2]; exact h1 z', h2.mono (fun _ h => h) hSb⟩
  have hex : (execOp a.eval o).run P w = .ok (.value (.tuple #[])) w' := by
    simp only [execOp, ho, resolve]
    simp [Sem.run_bind, invoke, builtin, hxe, hy', hrun]
  unfold Oper.wp
  rw [hex]
  have hput : a.put o.dst (.tuple #[]) = a := by rw [hd]; rfl
  simp only [Oper.upon, hput]
  exact ⟨_, ⟨ρ, S, hc.modOb hl trivial hf hob2⟩, K⟩
theorem awps_mxRange {ops : Array Oper} {rest : List Oper} {t k e : TypeId} {x : Operand} {l l' d : Nat} {kvs : List (Lit × List D)} {T : List (Nat × AV)} {O : List (Nat × Ob)} (hg : o.guard = none) (ho : o.op = .range t x) (hd : o.dst = some d) (hdN : d < N) (ht : P.underlying t = some (.map k e))
    (hx : ev T x = some (.map l)) (hl : ok O l = some (.mx false P k kvs none)) (hL : ¬ c.L l) (hl' : ok O l' = none)
    (K : awps P c N ops rest Q ⟨(d, .ptr l' 0) :: T, (l', .mx true P k kvs none) :: (l, .dead) :: O⟩) : awps P c N ops (o :: rest) Q ⟨T, O⟩ := by
  refine awps_op hg ?_
  rintro a w ⟨ρ, S, hc⟩
  have hx' := ev_rep hc hx
  simp only [Rep] at hx'
  obtain ⟨hU, hxe, r', hr'⟩ := hx'
  have hob := hc.O l _ hl
  simp only [ObOk, MxOk, Bool.false_eq_true, if_false] at hob
  obtain ⟨r, n, Dt, hr, KK, hown, hnn, hnd, hno, hval⟩ := hob
  rw [hr] at hxe
  obtain ⟨w', hrun, hrg, hgrow, hsz⟩ := hown.range KK ht
  have hf : Far (fun _ => False) w w' := ⟨hgrow.os, hgrow.tape, hgrow.output, hgrow.size, fun i hi _ => hgrow.block i hi (by simp), run_drawn _ _ _ _ hrun⟩
  have hc1 := hc.fixOb hl trivial hL (b := r) (by rw [hr]; rfl)
  have hc2 := hc1.grow hf (fun _ _ _ h => h) (fun _ _ _ _ _ _ h => h) (fun _ _ h => h.elim)
  have hll : ¬ l = l' := fun e => by subst e; rw [hl] at hl'; cases hl'
  have hl2 : ok ((l, Ob.dead) :: O) l' = none := by rw [ok_cons, if_neg hll]; exact hl'
  have hlr : r < w.heap.size := hc.lt l _ r hl trivial (by rw [hr]; rfl)
  have hSb : ∀ b, S false b → w'.heap[b]? = w.heap[b]? := fun b hb => hf.block b (hc.Sb _ b hb) (fun h => h)
  have hc3 := hc2.addOb (p := .pointer (some ⟨w.heap.size, 0, none⟩)) (ob := .mx true P k kvs none) hl2 (fun b hb => by
    simp only [blk, Option.some.injEq] at hb
    subst hb
    refine ⟨by omega, hc.fm.size, fun f hS => ?_, fun m om hm hv e => ?_⟩
    · rcases hS with hS | ⟨_, hS⟩
      · exact Nat.lt_irrefl _ (hc.Sb f _ hS)
      · omega
    · exact Nat.lt_irrefl _ (hc1.lt m om _ hm hv e)) (by
    simp only [ObOk, MxOk, if_true, upd_same]
    refine ⟨w.heap.size, r, n, _, Dt, Maps.has Dt, rfl, by first | exact .inr ⟨rfl, rfl⟩ | simp, KK, hrg, hnd, fun kl => ⟨fun h => ?_, fun h => ?_⟩, fun p hp => ?_, fun ds h => by cases h⟩
    · apply Classical.byContradiction
      intro hn
      rw [Maps.has_false_of_atKey (hno kl hn)] at h; cases h
    · obtain ⟨p, hp, rfl⟩ := List.mem_map.1 h
      obtain ⟨x, h1, _⟩ := hval p hp
      exact Maps.has_true_of_atKey h1
    · obtain ⟨x, h1, h2⟩ := hval p hp
      exact ⟨x, h1, h2.mono (fun _ h => .inl h) hSb⟩)
  have hex : (execOp a.eval o).run P w = .ok (.value (.pointer (some ⟨w.heap.size, 0, none⟩))) w' := by
    simp only [execOp, ho, hxe]
    simp [Sem.run_bind, hrun]
  unfold Oper.wp
  rw [hex]
  have hput := hc3.put (dst := some d) (v := .ptr l' 0) (x := .pointer (some ⟨w.heap.size, 0, none⟩)) (fun e he => by cases he; exact hdN) (by
    simp only [Rep]
    exact ⟨by simp [St.U, ok_cons], w.heap.size, by rw [upd_same]; rfl, rfl⟩)
  simp only [Oper.upon, hd]
  exact ⟨_, ⟨_, _, hput⟩, K⟩
theorem awps_mxNext {ops : Array Oper} {rest : List Oper} {k : TypeId} {x : Operand} {l d : Nat} {kvs : List (Lit × List D)} {cur : Option (List D)} {T : List (Nat × AV)} {O : List (Nat × Ob)} (hg : o.guard = none) (ho : o.op = .next x false) (hd : o.dst = some d) (hdN : d < N)
    (hx : ev T x = some (.ptr l 0)) (hl : ok O l = some (.mx true P k kvs cur))
    (K0 : kvs = [] → awps P c N ops rest Q ⟨(d, .tup [.imm (.bool false)]) :: T, O⟩)
    (K1 : ∀ p : Lit × List D, p ∈ kvs → awps P c N ops rest Q ⟨(d, .tup [.imm (.bool true), .any, .any]) :: T, (l, .mx true P k (mvDel p.1 kvs) (some p.2)) :: O⟩) : awps P c N ops (o :: rest) Q ⟨T, O⟩ := by
  refine awps_op hg ?_
  rintro a w ⟨ρ, S, hc⟩
  have hx' := ev_rep hc hx
  simp only [Rep] at hx'
  obtain ⟨hU, g, hgb, hxe⟩ := hx'
  have hob := hc.O l _ hl
  simp only [ObOk, MxOk, if_true] at hob
  obtain ⟨r, b, n, cnt, Dt, left, hr, hSfb, KK, hrg, hnd, hleft, hval, _⟩ := hob
  rw [hr] at hgb
  simp only [blk, Option.some.injEq] at hgb
  subst hgb
  rcases hrg.next KK o.type with ⟨_, hno, hrun⟩ | ⟨key, v, kl, y, w', cnt', hkey, hlk, hRv, hat, hrun, hrg', _, hgrow, hsz, hen⟩
  · have hnil : kvs = [] := by
      cases kvs with
      | nil => rfl
      | cons p kvs =>
        have := (hleft p.1).2 (by simp)
        rw [hno] at this; cases this
    have hex : (execOp a.eval o).run P w = .ok (.value (.tuple #[.bool false])) w := by
      simp only [execOp, ho, hxe]
      simp [Sem.run_bind, hrun]
    unfold Oper.wp
    rw [hex]
    have hput := hc.put (dst := some d) (v := .tup [.imm (.bool false)]) (x := .tuple #[.bool false]) (fun e he => by cases he; exact hdN) (by
      simp only [Rep, RepL]
      exact ⟨[.bool false], rfl, _, _, rfl, rfl, rfl⟩)
    simp only [Oper.upon, hd]
    exact ⟨_, ⟨_, _, hput⟩, K0 hnil⟩
  · simp only [RV, Option.some.injEq] at hRv
    subst hRv
    obtain ⟨p, hp, hpk⟩ := List.mem_map.1 ((hleft kl).1 hlk)
    have hkl := KK.key hkey
    obtain ⟨xv, hx1, hx2⟩ := hval p hp
    have hxv : xv = v := by
      have h1 := hx1 .nil
      rw [hpk, hat .nil] at h1
      simpa using h1.symm
    subst hxv
    have hf : Far (fun b => blk (ρ l) = some b) w w' := by
      refine ⟨hgrow.os, hgrow.tape, hgrow.output, hgrow.size, fun i hi hb => hgrow.block i hi fun e => hb ?_, run_drawn _ _ _ _ hrun⟩
      rw [hr]; simpa [blk] using e.symm
    have hSb : ∀ b, S false b → w'.heap[b]? = w.heap[b]? := fun b hb => hf.block b (hc.Sb _ b hb) (fun e => hc.dS l _ b _ hl trivial e hb)
    have hrg2 := hrg'
    obtain ⟨es0, clock0, since0, seen0, c00, hb0, _, _, _, hr0, _⟩ := hrg2
    have hob2 : ObOk w' ρ S (St.U ⟨T, (l, .mx true P k (mvDel kl kvs) (some p.2)) :: O⟩) l (.mx true P k (mvDel kl kvs) (some p.2)) := by
      simp only [ObOk, MxOk, if_true]
      refine ⟨r, b, n, cnt', Dt, _, hr, hSfb, KK, hrg', mvDel_nodup hnd, fun u => ?_, fun q hq => ?_, fun ds hds => ?_⟩
      · simp only [Bool.and_eq_true, Bool.not_eq_true']
        constructor
        · rintro ⟨h1, h2⟩
          obtain ⟨q, hq, rfl⟩ := List.mem_map.1 ((hleft u).1 h1)
          exact List.mem_map.2 ⟨q, (mvDel_mem hkl).2 ⟨hq, fun e => by rw [e, WideAt.sameKey_self hkl] at h2; cases h2⟩, rfl⟩
        · intro h
          obtain ⟨q, hq, rfl⟩ := List.mem_map.1 h
          obtain ⟨h1, h2⟩ := (mvDel_mem hkl).1 hq
          exact ⟨(hleft q.1).2 (List.mem_map.2 ⟨q, h1, rfl⟩), Maps.sameKey_ne h2⟩
      · obtain ⟨z, h1, h2⟩ := hval q ((mvDel_mem hkl).1 hq).1
        exact ⟨z, h1, h2.mono (fun _ h => h) hSb⟩
      · cases hds
        exact ⟨key, xv, hx2.mono (fun _ h => h) hSb, fun w2 e1 e2 => entry_congr e1 e2 hr0 hen⟩
    have hex : (execOp a.eval o).run P w = .ok (.value (.tuple #[.bool true, key, xv])) w' := by
      simp only [execOp, ho, hxe]
      simp [Sem.run_bind, hrun]
    unfold Oper.wp
    rw [hex]
    have hput := (hc.modOb hl trivial hf hob2).put (dst := some d) (v := .tup [.imm (.bool true), .any, .any]) (x := .tuple #[.bool true, key, xv]) (fun e he => by cases he; exact hdN) (by
      simp only [Rep, RepL]
      exact ⟨[.bool true, key, xv], rfl, _, _, rfl, rfl, _, _, rfl, trivial, _, _, rfl, trivial, rfl⟩)
    simp only [Oper.upon, hd]
    have hK1 := K1 p hp
    rw [hpk] at hK1
    exact ⟨_, ⟨_, _, hput⟩, hK1⟩
theorem stp_mxEntry {k : TypeId} {x : Operand} {l : Nat} {kvs : List (Lit × List D)} {ds : List D} (ho : o.op = .entry x) (hx : ev σ.T x = some (.ptr l 0)) (hl : ok σ.O l = some (.mx true P k kvs (some ds))) : Stp P c N o σ [l] (.tup [.any, .agg (lift false ds)]) [] := by
  refine stp_value fun σ' h1 h2 a w ρ S hc => ?_
  have hx' := ev_rep hc (h1 x (by simp [ho, Op.operands]) _ hx)
  simp only [Rep] at hx'
  obtain ⟨hU, g, hgb, hxe⟩ := hx'
  have hob := hc.O l _ (h2 l (by simp) _ hl)
  simp only [ObOk, MxOk, if_true] at hob
  obtain ⟨r, b, n, cnt, Dt, left, hr, hSfb, KK, hrg, hnd, hleft, hval, hcur⟩ := hob
  rw [hr] at hgb
  simp only [blk, Option.some.injEq] at hgb
  subst hgb
  obtain ⟨key, xv, h3, h4⟩ := hcur ds rfl
  refine ⟨.tuple #[key, xv], ?_, ?_⟩
  · simp only [execOp, ho, hxe]
    simp [Sem.run_bind, h4 w rfl rfl]
  · simp only [Rep, RepL]
    refine ⟨[key, xv], rfl, _, _, rfl, trivial, _, _, rfl, ?_, rfl⟩
    have := rvD_rep (ρ := ρ) (U := σ'.U) h3
    simpa only [Rep] using this
end
end Go.Proofs.YtdecgkhdbfgldaaGreat

set_option linter.unusedVariables false
set_option linter.unusedSimpArgs false
namespace Go.Proofs.YtdecgkhdbfgldaaGreat
open Go Go.Sort Go.Lib
theorem far_grow {w w' : World} (h : Far0 (fun _ => False) w w') (hd : w.drawn ≤ w'.drawn) : ∃ q os', w' = grow (w.drewN q) os' := by
  refine ⟨w'.drawn - w.drawn, w'.heap.extract w.heap.size w'.heap.size, ?_⟩
  have hh : w'.heap = w.heap ++ w'.heap.extract w.heap.size w'.heap.size := by
    apply Array.ext_getElem?
    intro i
    by_cases hi : i < w.heap.size
    · rw [Array.getElem?_append_left hi]; exact h.block i hi (fun h => h)
    · have h1 := h.size
      rw [Array.getElem?_append_right (by omega)]
      simp only [Array.getElem?_extract]
      by_cases h2 : i < w'.heap.size
      · rw [if_pos (by omega), show w.heap.size + (i - w.heap.size) = i by omega]
      · rw [if_neg (by omega), Array.getElem?_eq_none (by omega)]
  have e : w.drawn + (w'.drawn - w.drawn) = w'.drawn := by omega
  cases w; cases w'
  simp only [grow, World.drewN] at *
  obtain ⟨h1, h2, h3, _, _⟩ := h
  simp only at h1 h2 h3 hh e
  subst h1; subst h2; subst h3
  rw [e]
  exact congrArg (fun hp => World.mk hp _ _ _ _) hh
theorem pf_call {P : Program} {g : FuncId} {args : List AV} {u : Value} (h : ACx true P g args [] (fun r O => r = .imm u ∧ O = [])) {w : World} {xs : List Value} {ρ : Nat → Value} {S : Nat → Prop} {U : Nat → Prop}
    (hargs : RepL w ρ (fun f b => f = false ∧ S b) U args xs) (hall : AV.allLs (fun _ => false) args = true) (hS : ∀ b, S b → b < w.heap.size) :
    Calls P g xs.toArray w fun e w' => e = .returned u ∧ ∃ q os', w' = grow (w.drewN q) os' := by
  let cc : Ctx := ⟨w, fun _ => False, S, ρ, fun l => inD [] l = true, fun _ => False, True, fun _ => False⟩
  have hall2 : RepL w ρ (fun f b => f = false ∧ S b) (St.U ⟨argT 0 args, []⟩) args xs :=
    RepL.gen (p := fun _ => false) (q := fun _ => true) (fun _ _ _ h => h) (fun _ _ _ _ => rfl) (fun _ h => by cases h) _ _ hall (allQs_true _) hargs
  have hent : Conc cc args.length ⟨argT 0 args, []⟩ ⟨xs.toArray, []⟩ w ρ (fun f b => f = false ∧ S b) := by
    refine ⟨by have := hall2.length; simpa using this, rfl, fun t v ht => ?_, fun l ob' hl => by simp [ok] at hl, fun l l' ob ob' b h1 => by simp [ok] at h1, fun l ob b f h1 => by simp [ok] at h1, fun l ob b h1 => by simp [ok] at h1, fun l ob b h1 => by simp [ok] at h1, fun b h => (by cases h.1.1), fun f b h => hS b h.2, fun b h => (by cases h.1), fun b h => .inl h.2, fun l hl => by simp [cc, inD, ok] at hl, Fm.start (c := cc) (fun _ h => h.elim) (fun _ h => h.elim) (fun b h => (by cases h.1))⟩
    obtain ⟨j, h1, y, hy, hv⟩ := lk_argT 0 hall2 t v ht
    have : xs.toArray.getD t undef = y := by
      rw [Array.getD_eq_getD_getElem?]
      simp only [List.getElem?_toArray]
      rw [h1, Nat.zero_add, hy]; rfl
    simp only
    rw [this]; exact hv
  refine (h cc w xs ρ _ rfl (fun l => Iff.rfl) ⟨fun b h => (by cases h.1), fun b h => h⟩ ⟨⟨fun _ => rfl⟩⟩ hent).mono ?_
  rintro e w' ⟨y, r, O', rfl, ⟨rfl, rfl⟩, ρ', S', hc⟩
  have hy := hc.T 0 (.imm u) rfl
  simp only [Rep] at hy
  have hy2 : y = u := hy
  exact ⟨by rw [hy2], far_grow hc.fm.toFar0 (hc.fm.dr trivial)⟩
end Go.Proofs.YtdecgkhdbfgldaaGreat

set_option linter.unusedVariables false
set_option linter.unusedSimpArgs false
namespace Go.Proofs.YtdecgkhdbfgldaaGreat
open Go Go.Sort Go.Lib Go.Shelf
section
variable {α : Type} [Inhabited α] (enc : α → List Value) (k : Nat) (w : World) (blk off m : Nat) (dk : Array α) (os : Array Obj)
theorem sortW_other {b : Nat} (hb : b < w.heap.size) (hne : b ≠ blk) : (sortWorldK enc k w blk off m dk os).heap[b]? = w.heap[b]? := by
  simp only [sortWorldK, grow, putRowK, putRow, mapBlock, Go.Sort.ahead]
  rw [Array.getElem?_append_left (by simpa using hb), Array.getElem?_modify, if_neg (fun e => hne e.symm)]
theorem sortW_blk {cur : Array Value} {ty : TypeId} {fr : Nat × Nat} (h : w.heap[blk]? = some (.cells cur ty fr)) : (sortWorldK enc k w blk off m dk os).heap[blk]? = some (.cells (putCells id off (flatK enc k dk) cur) ty fr) := by
  have hb : blk < w.heap.size := (Array.getElem?_eq_some_iff.1 h).1
  simp only [sortWorldK, grow, putRowK, putRow, mapBlock, Go.Sort.ahead]
  rw [Array.getElem?_append_left (by simpa using hb), Array.getElem?_modify, if_pos rfl, h]
  rfl
theorem sortW_far : Far (fun b => b = blk) w (sortWorldK enc k w blk off m dk os) :=
  ⟨rfl, rfl, rfl, by simp [sortWorldK, grow, putRowK, putRow, mapBlock, Go.Sort.ahead], fun b hb hne => sortW_other enc k w blk off m dk os hb hne, by simp [sortWorldK, grow, putRowK, putRow, mapBlock, Go.Sort.ahead]⟩
end
theorem flat_get {β : Type} {k : Nat} (hk : 0 < k) : ∀ {L : List (List β)}, (∀ x ∈ L, x.length = k) → ∀ t : Nat, L.flatten[t]? = (L[t / k]?).bind (·[t % k]?)
  | [], _, t => by simp
  | x :: L, h, t => by
    have hx : x.length = k := h x (by simp)
    rw [List.flatten_cons]
    by_cases ht : t < k
    · rw [List.getElem?_append_left (by omega), Nat.div_eq_of_lt ht, Nat.mod_eq_of_lt ht]; rfl
    · obtain ⟨t', rfl⟩ : ∃ t', t = t' + k := ⟨t - k, by omega⟩
      rw [List.getElem?_append_right (by omega), hx, Nat.add_sub_cancel, flat_get hk (fun y hy => h y (by simp [hy])) t', Nat.add_div_right _ hk, Nat.add_mod_right]; rfl
theorem flatK_list {α : Type} [Inhabited α] {enc : α → List Value} {k : Nat} (h0 : 0 < k) (hk : ∀ x, (enc x).length = k) (d : Array α) : flatK enc k d = (d.toList.map enc).flatten.toArray := by
  have hlen : ∀ (L : List α), (L.map enc).flatten.length = L.length * k := by
    intro L
    induction L with
    | nil => simp
    | cons a L ih => rw [List.map_cons, List.flatten_cons, List.length_append, ih, hk, List.length_cons, Nat.add_mul, Nat.one_mul, Nat.add_comm]
  refine ext_get! (by simp only [size_flatK, List.size_toArray]; rw [hlen]; simp) fun t ht => ?_
  have ht' : t < d.size * k := by simpa using ht
  have hd : t / k < d.size := Nat.div_lt_of_lt_mul (by rw [Nat.mul_comm]; exact ht')
  have hm : t % k < k := Nat.mod_lt _ h0
  rw [get_flatK _ _ _ t ht']
  have hg := flat_get h0 (L := d.toList.map enc) (by intro x hx; obtain ⟨y, _, rfl⟩ := List.mem_map.1 hx; exact hk y) t
  have e1 : (d.toList.map enc)[t / k]? = some (enc d[t / k]) := by simp [hd]
  rw [e1] at hg
  have e2 : (enc d[t / k])[t % k]? = some ((enc d[t / k])[t % k]'(by rw [hk]; exact hm)) := List.getElem?_eq_getElem _
  simp only [Option.bind_some] at hg
  rw [e2] at hg
  rw [getElem!_pos d _ hd, getElem!_pos (enc d[t / k]) _ (by rw [hk]; exact hm)]
  have hlt : t < (d.toList.map enc).flatten.length := (List.getElem?_eq_some_iff.1 hg).1
  have e3 := (List.getElem?_eq_some_iff.1 hg).2
  rw [getElem!_pos _ t (by simpa using hlt)]
  simpa using e3.symm
theorem put_take {F cur : Array Value} (h : F.size ≤ cur.size) : (putCells id 0 F cur).size = cur.size ∧ (putCells id 0 F cur).toList.take F.size = F.toList := by
  refine ⟨by simp [putCells], ?_⟩
  apply List.ext_getElem?
  intro t
  rw [List.getElem?_take]
  by_cases ht : t < F.size
  · have hc : t < cur.size := by omega
    rw [if_pos ht]
    simp [putCells, ht, hc]
  · rw [if_neg ht, List.getElem?_eq_none (by simpa using ht)]
theorem extract_all {β : Type} (A : Array β) {n : Nat} (h : A.size = n) : A.extract 0 n = A := by subst h; simp
theorem sort_core {P : Program} {R : Ren} (L : SlLaysF0.n6 P R) {k : Nat} (hk0 : 0 < k) (aE : ∀ w, (isAgg (R.t 24)).run P w = .ok true w) (zE : ∀ w, (Go.sizeOf (R.t 24)).run P w = .ok k w) {g : FuncId} (eg : ∀ args w, (callFunc g args).run P w = .ok (.enter g args) w)
    {e : TypeId} {X : Type} {toD : X → List D} {es : List X} {cf : X → X → Int} {w : World} {v : Value} {xs : List Value} {Sx : Nat → Prop} {ρ : Nat → Value}
    (hlt : es.length < 4611686018427387904) (how : w.ownsRow 0 e k v es.length xs) (hone : ∀ y ∈ xs, y.oneCell' = true)
    (hel : ∀ (i : Nat) (x : X), es[i]? = some x → RepL w ρ (fun f b => f = false ∧ Sx b) (fun _ => False) (lift false (toD x)) ((xs.drop (i * k)).take k))
    (hSx : ∀ b, Sx b → b < w.heap.size ∧ blk v ≠ some b)
    (hcmp : ∀ x ∈ es, ∀ y ∈ es, ACx true P g [.agg (lift false (toD x)), .agg (lift false (toD y))] [] (fun r O => r = .imm (.int .i64 (cf x y)) ∧ O = []))
    (hirr : ∀ x ∈ es, ¬ cf x x < 0) (htr : ∀ x ∈ es, ∀ y ∈ es, ∀ z ∈ es, cf x y < 0 → cf y z < 0 → cf x z < 0) (hnt : ∀ x ∈ es, ∀ y ∈ es, ∀ z ∈ es, ¬ cf x y < 0 → ¬ cf y z < 0 → ¬ cf x z < 0) :
    Calls P (R.f 6) #[v, .func (.func g) #[] #[]] w fun e' w' => e' = .returned (.tuple #[]) ∧ ∃ ps : List (X × List Value), (ps.map (·.1)).Perm es ∧ (ps.map (·.1)).Pairwise (fun x y => ¬ cf y x < 0) ∧ (∀ p ∈ ps, ∃ i, es[i]? = some p.1 ∧ p.2 = (xs.drop (i * k)).take k) ∧ Far (fun b => blk v = some b) w w' ∧ w'.ownsRow 0 e k v ps.length (ps.map (·.2)).flatten := by
  rcases Nat.eq_zero_or_pos es.length with hz | hpos
  · have hnil : es = [] := List.eq_nil_of_length_eq_zero hz
    obtain ⟨A, cc, hv⟩ := owns_slice how
    rw [hz] at hv
    subst hv
    have hcall := AnyF.slices_SortFunc_none L A cc (.func (.func g) #[] #[]) w
    refine hcall.mono ?_
    rintro e' w' ⟨rfl, rfl⟩
    subst hnil
    refine ⟨rfl, [], .refl _, List.Pairwise.nil, by simp, Far.refl _ _, ?_⟩
    have hx : xs = [] := List.eq_nil_of_length_eq_zero (by have := how.1; simpa using this)
    rw [hx] at how
    exact how
  · rcases how.2 with ⟨_, hn⟩ | ⟨b, cap, cur, hv, _, hh, hcap, hmax, hcs, htk⟩
    · omega
    · subst hv
      have hlen : xs.length = es.length * k := how.1
      haveI : Inhabited (Fin es.length) := ⟨⟨0, hpos⟩⟩
      let enc : Fin es.length → List Value := fun i => (xs.drop (i.1 * k)).take k
      have hik : ∀ i : Fin es.length, i.1 * k + k ≤ xs.length := fun i => by
        have := Nat.mul_le_mul_right k (show i.1 + 1 ≤ es.length from i.2)
        rw [Nat.add_mul, Nat.one_mul] at this
        omega
      have hk : ∀ i, (enc i).length = k := fun i => by
        have := hik i
        simp only [enc, List.length_take, List.length_drop]; omega
      have h1 : ∀ i, ∀ v ∈ enc i, v.oneCell' = true := fun i v hv' => hone v (List.mem_of_mem_drop (List.mem_of_mem_take hv'))
      have hel2 : ∀ i : Fin es.length, RepL w ρ (fun f b => f = false ∧ Sx b) (fun _ => False) (lift false (toD es[i.1])) (enc i) := fun i => hel i.1 es[i.1] (by simp)
      let d : Array (Fin es.length) := Array.ofFn id
      have hds : d.size = es.length := by simp [d]
      have hbs : b < w.heap.size := (Array.getElem?_eq_some_iff.1 hh).1
      have hne : ∀ b', Sx b' → b' ≠ b := fun b' hb' e' => (hSx b' hb').2 (by rw [e']; rfl)
      have hxs : ∀ t, t < es.length * k → cur[t]? = some xs[t]! := fun t ht => by
        have : xs[t]? = some xs[t]! := by rw [getElem!_pos xs t (by omega)]; exact List.getElem?_eq_getElem _
        rw [← this, ← htk, List.getElem?_take, if_pos ht]; simp
      have hH : HoldsK enc k w b 0 d := by
        intro t ht
        rw [size_flatK, hds] at ht
        have hq : t / k < es.length := Nat.div_lt_of_lt_mul (by rw [Nat.mul_comm]; exact ht)
        have hm : t % k < k := Nat.mod_lt _ hk0
        rw [get_flatK _ _ _ t (by rw [hds]; exact ht)]
        have ed : d[t / k]! = ⟨t / k, hq⟩ := by rw [getElem!_pos d _ (by rw [hds]; exact hq)]; simp [d]
        have ee : (enc d[t / k]!)[t % k]! = xs[t]! := by
          rw [ed, getElem!_pos _ _ (by rw [hk]; exact hm), getElem!_pos xs t (by omega)]
          simp only [enc, List.getElem_take, List.getElem_drop]
          congr 1
          exact Nat.div_add_mod' t k
        rw [ee]
        refine ⟨?_, ?_⟩
        · simp only [World.cell?, hh]
          simpa using hxs t ht
        · simp [World.frozen?, hh]
      have hO : SWO (ltOf fun i j : Fin es.length => cf es[i.1] es[j.1]) :=
        ⟨fun i => by simpa [ltOf] using hirr _ (List.getElem_mem i.2), fun i j q h2 h3 => by
          simp only [ltOf, decide_eq_true_eq] at h2 h3 ⊢
          exact htr _ (List.getElem_mem i.2) _ (List.getElem_mem j.2) _ (List.getElem_mem q.2) h2 h3, fun i j q h2 h3 => by
          simp only [ltOf, decide_eq_false_iff_not] at h2 h3 ⊢
          exact hnt _ (List.getElem_mem i.2) _ (List.getElem_mem j.2) _ (List.getElem_mem q.2) h2 h3⟩
      have hcl : CmpLays P g #[] enc k (fun i j : Fin es.length => cf es[i.1] es[j.1]) b 0 d.size w := by
        intro m os dk hdk i j
        have hmv : ∀ i : Fin es.length, RepL (sortWorldK enc k w b 0 m dk os) ρ (fun f b => f = false ∧ Sx b) (fun _ => False) (lift false (toD es[i.1])) (enc i) := fun i =>
          RepL.gen (p := fun _ => false) (q := fun f => true) (fun f b' _ hb => hb) (fun f b' _ hb => sortW_other enc k w b 0 m dk os (hSx _ hb.2).1 (hne _ hb.2)) (fun _ h => by cases h) _ _ (allLs_lift _ _ _) (allQs_true _) (hel2 i)
        have := pf_call (S := Sx) (U := fun _ => False) (w := sortWorldK enc k w b 0 m dk os) (xs := [.agg (enc i).toArray, .agg (enc j).toArray]) (ρ := ρ) (hcmp _ (List.getElem_mem i.2) _ (List.getElem_mem j.2)) (by
          simp only [RepL, Rep]
          exact ⟨_, _, rfl, ⟨enc i, rfl, h1 i, hmv i⟩, _, _, rfl, ⟨enc j, rfl, h1 j, hmv j⟩, rfl⟩) (by simp [AV.allLs, AV.allL, allLs_lift]) (fun b' hb' => Nat.lt_of_lt_of_le (hSx b' hb').1 (sortW_far enc k w b 0 m dk os).size)
        simpa using this
      have hcall := AnyQ.slices_SortFunc L k aE zE enc hk h1 (fun i j : Fin es.length => cf es[i.1] es[j.1]) hO g #[] b 0 cap d w eg hcl hH hbs (by rw [hds]; exact hlt)
      rw [hds] at hcall
      refine hcall.mono ?_
      rintro e' w' ⟨rfl, d', n, os, hperm, hsort, rfl⟩
      have hd's : d'.size = es.length := by rw [hperm.1, hds]
      let ps : List (X × List Value) := d'.toList.map (fun i => (es[i.1], enc i))
      have hps1 : ps.map (·.1) = d'.toList.map (fun i => es[i.1]) := by simp [ps, Function.comp_def]
      have hps2 : ps.map (·.2) = d'.toList.map enc := by simp [ps, Function.comp_def]
      have hpl : ps.length = es.length := by simp [ps, hd's]
      have hp : (ps.map (·.1)).Perm es := by
        rw [hps1]
        have h2 := hperm.2.2
        rw [extract_all d' hd's, extract_all d hds] at h2
        have h3 := h2.map (fun i : Fin es.length => es[i.1])
        have h4 : d.toList.map (fun i : Fin es.length => es[i.1]) = es := by
          apply List.ext_getElem
          · simp [d]
          · intro t h5 h6; simp [d]
        rw [h4] at h3
        exact h3
      have hpw : (ps.map (·.1)).Pairwise (fun x y => ¬ cf y x < 0) := by
        rw [hps1, List.pairwise_iff_getElem]
        intro i j hi hj hij
        have hi' : i < d'.size := by simpa using hi
        have hj' : j < d'.size := by simpa using hj
        have h2 := hsort i j (Nat.zero_le _) hij (by omega)
        rw [getElem!_pos d' i hi', getElem!_pos d' j hj'] at h2
        simpa [ltOf] using h2
      have hflat : flatK enc k d' = (d'.toList.map enc).flatten.toArray := flatK_list hk0 hk d'
      have hFs : (flatK enc k d').size = es.length * k := by rw [size_flatK, hd's]
      have hcsz : (flatK enc k d').size ≤ cur.size := by rw [hFs, hcs]; exact Nat.mul_le_mul_right _ hcap
      have hput := put_take hcsz
      refine ⟨rfl, ps, hp, hpw, ?_, ?_, ?_⟩
      · intro p hp
        obtain ⟨i, _, rfl⟩ := List.mem_map.1 hp
        exact ⟨i.1, by simp, rfl⟩
      · have := sortW_far enc k w b 0 n d' os
        exact ⟨this.os, this.tape, this.output, this.size, fun b' hb' hne' => this.block b' hb' (fun e' => hne' (by rw [e']; rfl)), this.dr⟩
      · rw [hps2, hpl]
        have hsz2 : (d'.toList.map enc).flatten.length = es.length * k := by
          have := congrArg Array.size hflat
          rw [hFs] at this
          simpa using this.symm
        refine ⟨hsz2, .inr ⟨b, cap, _, rfl, Nat.zero_le _, sortW_blk enc k w b 0 n d' os hh, hcap, hmax, by rw [hput.1]; exact hcs, ?_⟩⟩
        rw [← hFs, hput.2, hflat]
theorem awps_sort {P : Program} {R : Ren} (L : SlLaysF0.n6 P R) {c : Ctx} {N : Nat} {Q : Exit → St → Prop} {o : Oper} {ops : Array Oper} {rest : List Oper} {x s y : Operand} {tys : Array TypeId} {T : List (Nat × AV)} {O : List (Nat × Ob)} {k : Nat} (hk0 : 0 < k) (ht : tfB P (R.t 24) true k = true) {sf g : FuncId} (hsf : R.f 6 = sf) (eg : Enters P g) (esf : Enters P sf)
    {e : TypeId} {l : Nat} {f : Bool} {X : Type} {toD : X → List D} {es : List X} {cf : X → X → Int}
    (hg : o.guard = none) (ho : o.op = .call { callee := .value x, args := #[s, y], argTypes := tys }) (hdN : ∀ d, o.dst = some d → d < N)
    (hx : ev T x = some (.fn sf [])) (hs : ev T s = some (.row l)) (hy : ev T y = some (.fn g [])) (hl : ok O l = some (.rowd e k f (es.map toD))) (hlt : es.length < 4611686018427387904)
    (hcmp : ∀ x ∈ es, ∀ y ∈ es, ACx true P g [.agg (lift false (toD x)), .agg (lift false (toD y))] [] (fun r O => r = .imm (.int .i64 (cf x y)) ∧ O = []))
    (hirr : ∀ x ∈ es, ¬ cf x x < 0) (htr : ∀ x ∈ es, ∀ y ∈ es, ∀ z ∈ es, cf x y < 0 → cf y z < 0 → cf x z < 0) (hnt : ∀ x ∈ es, ∀ y ∈ es, ∀ z ∈ es, ¬ cf x y < 0 → ¬ cf y z < 0 → ¬ cf x z < 0)
    (K : ∀ es' : List X, es'.Perm es → es'.Pairwise (fun x y => ¬ cf y x < 0) → awps P c N ops rest Q (St.put ⟨T, (l, .rowd e k f (es'.map toD)) :: O⟩ o.dst (.tup []))) : awps P c N ops (o :: rest) Q ⟨T, O⟩ := by
  obtain ⟨dt, it, u1, u2, u3, u4, _⟩ := tf_spec ht
  have aE : ∀ w, (isAgg (R.t 24)).run P w = .ok true w := fun w => by rw [isAgg_run u1, u3]
  have zE : ∀ w, (Go.sizeOf (R.t 24)).run P w = .ok k w := fun w => by simp [Go.sizeOf, typeInfo, u2, u4]
  refine awps_op hg ?_
  rintro a w ⟨ρ, S, hc⟩
  have h1 := ev_rep hc hx
  have h2 := ev_rep hc hs
  have h3 := ev_rep hc hy
  simp only [Rep, RepL] at h1 h2 h3
  obtain ⟨_, hxe, rfl⟩ := h1
  obtain ⟨_, hse, _⟩ := h2
  obtain ⟨_, hye, rfl⟩ := h3
  obtain ⟨hes, xs, how, hone, hrep⟩ := hc.O l _ hl
  rw [List.length_map] at how
  have hel0 : ∀ (i : Nat) (x : X), es[i]? = some x → RepL w ρ S (St.U ⟨T, O⟩) (lift f (toD x)) ((xs.drop (i * k)).take k) := fun i x hi => repL_elem hes hrep i (toD x) (by simp [hi])
  have hcore := sort_core L hk0 aE zE eg (toD := toD) (es := es) (cf := cf) (Sx := utS S false) (ρ := ρ) hlt how hone (fun i x hi => by
    have := RepL.ut _ _ (hel0 i x hi)
    rw [uts_lift] at this
    exact RepL.gen (p := fun _ => false) (q := fun f => !f) (fun f b hf hb => by
      have : f = false := by simpa using hf
      subst this; exact ⟨rfl, hb⟩) (fun _ _ _ _ => rfl) (fun _ h => by cases h) _ _ (allLs_lift _ _ _) (allQs_lift _ _ (by rfl) _) this) (fun b hb => by
    obtain ⟨_, hb⟩ := hb
    rcases hb with hb | hb
    · exact ⟨hc.Sb _ b hb, fun e' => hc.dS l _ b _ hl trivial e' hb⟩
    · exact ⟨hc.Sb _ b hb, fun e' => hc.dS l _ b _ hl trivial e' hb⟩) hcmp hirr htr hnt
  have hex : (execOp a.eval o).run P w = .ok (.enter sf #[ρ l, .func (.func g) #[] #[]]) w := by
    simp only [execOp, ho, resolve]
    simp [Sem.run_bind, hxe, hse, hye, Deferred.ofValue, invoke, esf _ _]
  unfold Oper.wp
  rw [hex]
  simp only [Oper.upon_enter]
  rw [hsf] at hcore
  refine Calls.mono hcore ?_
  rintro e' w' ⟨rfl, ps, hp, hpw, hpi, hfar, how'⟩
  simp only
  refine ⟨_, ?_, K (ps.map (·.1)) hp hpw⟩
  have hU2 : ∀ m, St.U ⟨T, O⟩ m → St.U ⟨T, (l, .rowd e k f ((ps.map (·.1)).map toD)) :: O⟩ m := fun m hm => U_cons m hm
  have hmv : ∀ vs zs, RepL w ρ S (St.U ⟨T, O⟩) vs zs → RepL w' ρ S (St.U ⟨T, (l, .rowd e k f ((ps.map (·.1)).map toD)) :: O⟩) vs zs := fun vs zs hz =>
    hz.mono (fun _ _ h => h) (fun g b hb' => hfar.block b (hc.Sb g b hb') (fun e' => hc.dS l _ b g hl trivial e' hb')) hU2 (fun _ _ => rfl)
  have hob : ObOk w' ρ S (St.U ⟨T, (l, .rowd e k f ((ps.map (·.1)).map toD)) :: O⟩) l (.rowd e k f ((ps.map (·.1)).map toD)) := by
    refine ⟨fun d hd => ?_, (ps.map (·.2)).flatten, by simpa using how', fun y hy => ?_, hmv _ _ ?_⟩
    · obtain ⟨x, hx, rfl⟩ := List.mem_map.1 hd
      exact hes _ (List.mem_map.2 ⟨x, hp.mem_iff.1 hx, rfl⟩)
    · obtain ⟨z, hz, hyz⟩ := List.mem_flatten.1 hy
      obtain ⟨p, hp1, rfl⟩ := List.mem_map.1 hz
      obtain ⟨i, _, h5⟩ := hpi p hp1
      rw [h5] at hyz
      exact hone y (List.mem_of_mem_drop (List.mem_of_mem_take hyz))
    · have : ∀ qs : List (X × List Value), (∀ p ∈ qs, ∃ i, es[i]? = some p.1 ∧ p.2 = (xs.drop (i * k)).take k) → RepL w ρ S (St.U ⟨T, O⟩) (lift f ((qs.map (·.1)).map toD).flatten) (qs.map (·.2)).flatten := by
        intro qs
        induction qs with
        | nil => intro _; simp [lift, RepL]
        | cons q qs ih =>
          intro hq
          obtain ⟨i, h5, h6⟩ := hq q (by simp)
          have h8 : lift f (((q :: qs).map (·.1)).map toD).flatten = lift f (toD q.1) ++ lift f ((qs.map (·.1)).map toD).flatten := by simp [lift]
          rw [h8, List.map_cons, List.flatten_cons, h6]
          exact (hel0 i q.1 h5).append (ih fun p hp => hq p (by simp [hp]))
      exact this ps hpi
  have hput := (hc.modOb hl trivial hfar hob).put (dst := o.dst) (v := .tup []) (x := .tuple #[]) hdN (by simp only [Rep, RepL]; exact ⟨[], rfl, rfl⟩)
  refine ⟨ρ, S, ?_⟩
  cases hd : o.dst with
  | none => rw [hd] at hput; exact hput
  | some d => rw [hd] at hput; exact hput
end Go.Proofs.YtdecgkhdbfgldaaGreat
