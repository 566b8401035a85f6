/- Part 4 of the proof: SymY, SymZ, SymZb. -/
import Derived.Test.YtdecgkhdbfgldaaGreatC3
import Derived.Lib.AppendStr
import Derived.Lib.SlBytesRow
import Derived.Lib.BufferRead
set_option linter.unusedVariables false
set_option linter.unusedSimpArgs false
namespace Go.Proofs.YtdecgkhdbfgldaaGreat
open Go
def btL (l : List UInt8) : List (List D) := l.map fun b => [.imm (.int .u8 b.toNat)]
theorem btL_length (l : List UInt8) : (btL l).length = l.length := by simp [btL]
theorem btL_len1 (l : List UInt8) : ∀ d ∈ btL l, d.length = 1 := fun d hd => by obtain ⟨b, _, rfl⟩ := List.mem_map.1 hd; rfl
theorem btL_cells {w : World} {ρ : Nat → Value} {S : Bool → Nat → Prop} {U : Nat → Prop} {f : Bool} : ∀ (l : List UInt8), RepL w ρ S U (lift f (btL l).flatten) (l.map fun b => Value.int .u8 b.toNat)
  | [] => by simp [btL, lift, RepL]
  | b :: l => by
    have ih := btL_cells (w := w) (ρ := ρ) (S := S) (U := U) (f := f) l
    simp only [btL, List.map_cons, List.flatten_cons, lift, List.map_append] at ih ⊢
    simp only [List.map_nil, List.singleton_append, List.cons_append, List.nil_append, RepL, List.map_cons]
    exact ⟨_, _, rfl, by simp only [D.av, Rep], ih⟩
theorem btL_back {w : World} {ρ : Nat → Value} {S : Bool → Nat → Prop} {U : Nat → Prop} {f : Bool} : ∀ (l : List UInt8) (xs : List Value), RepL w ρ S U (lift f (btL l).flatten) xs → xs = l.map fun b => Value.int .u8 b.toNat
  | [], xs, h => by simpa [btL, lift, RepL] using h
  | b :: l, xs, h => by
    simp only [btL, List.map_cons, List.flatten_cons, lift, List.map_append, List.map_nil, List.singleton_append, List.cons_append, List.nil_append, RepL, D.av, Rep] at h
    obtain ⟨y, ys, rfl, rfl, h⟩ := h
    rw [List.map_cons, btL_back (w := w) (ρ := ρ) (S := S) (U := U) (f := f) l ys (by simpa only [btL, lift] using h)]
theorem run_append_own_string_at {P : Program} (w : World) (t u ty e : TypeId) (i : TypeInfo) (ht : P.underlying t = some (.slice e)) (hu : P.underlying u = some .string) (hi : P.info? e = some i) (hz : i.zero = some (.int .u8 0)) (hsize : i.size = 1) (hby : i.bytes = 1)
    (v : Value) (n : Nat) (xs : List Value) (hown : w.ownsRow 0 e 1 v n xs) (s : ByteArray) (hb : n + s.size ≤ 140737488355328) :
    ∃ v' w', (Builtin.append_ #[t, u] ty #[v, .string s]).run P w = .ok v' w' ∧ w'.ownsRow 0 e 1 v' (n + s.size) (xs ++ Lib.strCells s) ∧ w.grownBy w' v.ownBlock ∧ (v'.ownBlock = v.ownBlock ∨ v'.ownBlock = some w.heap.size) := by
  have h63 : n + s.size ≤ maxLen := by simp only [maxLen]; omega
  obtain ⟨v', w', h1, h2, h3, h4⟩ := Lib.run_append_own_string (P := P) w 0 t u ty e i ht hu hi hz hsize hby v n xs hown s h63 hb (Nat.zero_le _)
  refine ⟨v', w', h1, h2, h3, ?_⟩
  rcases hown.2 with ⟨rfl, rfl⟩ | ⟨g, cap, cur, rfl, _, hg, hnc, hcm, hcs, htake⟩
  · by_cases hs : s.size = 0
    · rw [h4.2 ⟨rfl, hs⟩]; exact .inl rfl
    · have hr := run_append_nil_string (P := P) w t u ty e i (.int .u8 0) ht hu hi hz s (by omega) (by omega) (by rw [hby]; omega)
      rw [hr] at h1
      cases h1
      exact .inr rfl
  · have hxl : xs.length = n := by simpa using hown.1
    by_cases hroom : n + s.size ≤ cap
    · have hr := Lib.run_append_room_string (P := P) w t u ty e i ht hu hi hsize g n cap cur hg s hroom (by simp at hcs; omega)
      rw [hr] at h1
      cases h1
      exact .inl rfl
    · have hr := Lib.run_append_grow_string (P := P) w t u ty e i (.int .u8 0) ht hu hi hz ⟨g, 0, none⟩ n cap xs (by rw [hsize]; simpa using hxl) (hown.cells (g := g) rfl) s (by omega) (by omega) (by rw [hby]; exact growslice_fits (by omega) (by omega))
      rw [hr] at h1
      cases h1
      exact .inr rfl
section
variable {P : Program} {c : Ctx} {N : Nat} {Q : Exit → St → Prop} {σ : St} {o : Oper}
theorem append_str {s x : Operand} {t u e : TypeId} {l l' : Nat} {f : Bool} {es : List (List D)} {bs : ByteArray} {T : List (Nat × AV)} {O : List (Nat × Ob)} (ty : TyA P t e 1 1) (hz0 : (P.info? e).map (·.zero) = some (some (.int .u8 0))) (hus : P.underlying u = some .string)
    (ho : o.op = .call { callee := .builtin .append, args := #[s, x], argTypes := #[t, u] }) (hdN : ∀ d, o.dst = some d → d < N)
    (hs : ev T s = some (.row l)) (hl : ok O l = some (.rowd e 1 f es)) (hL : ¬ c.L l) (hl' : ok O l' = none)
    (hx : ev T x = some (.imm (.string bs))) (hb : es.length + bs.size ≤ 140737488355328) :
    AOp P c N o ⟨T, O⟩ (fun σ2 => σ2 = St.add ⟨T, O⟩ o.dst (.row l') [(l', .rowd e 1 f (es ++ btL bs.data.toList)), (l, .dead)]) := by
  rintro a w ⟨ρ, S, hc⟩
  have hev := ev_rep hc hs
  simp only [Rep] at hev
  obtain ⟨hUl, hse, _⟩ := hev
  obtain ⟨hes, xs, how, h1, hr⟩ := hc.O l _ hl
  have hxe := ev_rep hc hx
  simp only [Rep] at hxe
  obtain ⟨i, z, hi1, hi2, hi3, hi4, hi5, hi6⟩ := ty.info
  have hz1 : z = .int .u8 0 := by
    rw [hi2] at hz0
    simp only [Option.map_some, Option.some.injEq, hi3] at hz0
    exact hz0
  subst hz1
  obtain ⟨v', w', hrun, how0, hgr, hat⟩ := run_append_own_string_at (P := P) w t u o.type e i hi1 hus hi2 hi3 hi4 hi5 (ρ l) es.length xs how bs hb
  obtain ⟨us, hus2, how', hone, hrep⟩ : ∃ us : List Value, us = Lib.strCells bs ∧ w'.ownsRow 0 e 1 v' (es.length + bs.size) (xs ++ us) ∧ (∀ u ∈ us, u.oneCell' = true) ∧ RepL w ρ S (St.U ⟨T, O⟩) (lift f (btL bs.data.toList).flatten) us :=
    ⟨_, rfl, how0, Lib.strCells_oneCell bs, btL_cells _⟩
  have hown := owns_own how
  have hown' := owns_own how'
  rw [hown] at hgr hat
  rw [hown'] at hat
  have hf : Far (fun b => blk (ρ l) = some b) w w' := ⟨hgr.os, hgr.tape, hgr.output, hgr.size, fun b hb hne => hgr.block b hb (fun e => hne e.symm), run_drawn _ _ _ _ hrun⟩
  -- the old row is no more
  have hll : l ≠ l' := fun e => by subst e; rw [hl] at hl'; cases hl'
  have hokd : ∀ m ob, ok ((l, Ob.dead) :: O) m = some ob → ob.live → ok O m = some ob ∧ m ≠ l := fun m ob hm hv => by
    rw [ok_cons] at hm
    split at hm
    · cases hm; exact hv.elim
    · rename_i hne; exact ⟨hm, fun e => hne e.symm⟩
  have hUd : ∀ m, St.U ⟨T, O⟩ m → St.U ⟨T, (l, .dead) :: O⟩ m := fun m hm => U_cons m hm
  have hc1 : Conc c N ⟨T, (l, .dead) :: O⟩ a w ρ S := by
    refine ⟨hc.tm, hc.df, fun t v ht => (hc.T t v ht).mono (fun _ _ h => h) (fun _ _ _ => rfl) hUd (fun _ _ => rfl), fun m ob hm => ?_, fun m m' ob ob' b h1 h2 h3 h4 => hc.dj m m' ob ob' b (hokd m ob h1 h3).1 (hokd m' ob' h2 h4).1 h3 h4, fun m ob b f h1 h2 => hc.dS m ob b f (hokd m ob h1 h2).1 h2, fun m ob b h1 h2 => hc.wr m ob b (hokd m ob h1 h2).1 h2, fun m ob b h1 h2 => hc.lt m ob b (hokd m ob h1 h2).1 h2, hc.SS, hc.Sb, hc.Sn, hc.So, fun m hm => ⟨?_, (hc.lo m hm).2⟩, hc.fm⟩
    · by_cases hv : ob.live
      · obtain ⟨h1, h2⟩ := hokd m ob hm hv
        exact (hc.O m ob h1).mono (fun _ _ h => h) (fun _ _ _ => rfl) hUd (fun _ _ => rfl) (by simp [St.U, h1]) (fun _ _ => rfl)
      · cases ob <;> simp [Ob.live] at hv; trivial
    · have := (hc.lo m hm).1
      simp only [ok_cons]
      split
      · rfl
      · exact this
  have hne : ∀ m ob, ok ((l, Ob.dead) :: O) m = some ob → ob.live → m ≠ l := fun m ob hm hv => (hokd m ob hm hv).2
  have hlock : ¬ c.L l := hL
  have hwr : ∀ b, blk (ρ l) = some b → c.w0.heap.size ≤ b := fun b hb => by
    rcases hc.wr l _ b hl trivial hb with h | h
    · exact h
    · exact absurd h.1 hlock
  have hc2 : Conc c N ⟨T, (l, .dead) :: O⟩ a w' ρ S := hc1.grow hf (fun f b hS e => hc.dS l _ b f hl trivial e hS) (fun m ob b hm hv hb e => hne m ob hm hv (hc.dj m l ob _ b (hokd m ob hm hv).1 hl hv trivial hb e)) (fun b hb e => by have := hwr b e; omega)
  have hsz := hf.size
  have hblk : ∀ b, blk v' = some b → b < w'.heap.size ∧ c.w0.heap.size ≤ b ∧ (∀ f, ¬ S f b) ∧ ∀ m om, ok ((l, Ob.dead) :: O) m = some om → om.live → blk (ρ m) ≠ some b := by
    intro b hb
    have hlt : b < w'.heap.size := by
      obtain ⟨_, _, _, hh, _⟩ := row_cells how' hb
      exact (Array.getElem?_eq_some_iff.1 hh).1
    rcases hat with h | h
    · rw [h] at hb
      exact ⟨hlt, hwr b hb, fun f hS => hc.dS l _ b f hl trivial hb hS, fun m om hm hv e => hne m om hm hv (hc.dj m l om _ b (hokd m om hm hv).1 hl hv trivial e hb)⟩
    · rw [h] at hb; simp only [Option.some.injEq] at hb; subst hb
      have := hc.fm.size
      exact ⟨hlt, this, fun f hS => Nat.lt_irrefl _ (hc.Sb f _ hS), fun m om hm hv e => Nat.lt_irrefl _ (hc.lt m om _ (hokd m om hm hv).1 hv e)⟩
  have hS' : ∀ f b, S f b → w'.heap[b]? = w.heap[b]? := fun f b hb => hf.block b (hc.Sb f b hb) (fun e => hc.dS l _ b f hl trivial e hb)
  have hcells : RepL w' (upd ρ l' v') S (St.U ⟨T, (l', .rowd e 1 f (es ++ btL bs.data.toList)) :: (l, .dead) :: O⟩) (lift f (es ++ btL bs.data.toList).flatten) (xs ++ us) := by
    have h8 : lift f (es ++ btL bs.data.toList).flatten = lift f es.flatten ++ lift f (btL bs.data.toList).flatten := by simp [lift]
    rw [h8]
    exact (RepL.move (p := fun _ => false) (fun _ _ h => h) hS' (fun _ h => by cases h) _ _ (allLs_lift _ _ _) hr).append (RepL.move (p := fun _ => false) (fun _ _ h => h) hS' (fun _ h => by cases h) _ _ (allLs_lift _ _ _) hrep)
  have hc3 : Conc c N ⟨T, (l', .rowd e 1 f (es ++ btL bs.data.toList)) :: (l, .dead) :: O⟩ a w' (upd ρ l' v') S := by
    refine hc2.addOb (by rw [ok_cons, if_neg hll]; exact hl') hblk ⟨?_, xs ++ us, ?_, ?_, hcells⟩
    · intro d hd
      rcases List.mem_append.1 hd with h | h
      · exact hes d h
      · exact btL_len1 _ d h
    · rw [upd_same, List.length_append, btL_length, Array.length_toList]; exact how'
    · intro y hy
      rcases List.mem_append.1 hy with h | h
      · exact h1 y h
      · exact hone y h
  have hput := hc3.put (dst := o.dst) (v := .row l') (x := v') hdN (by
    simp only [Rep]
    obtain ⟨A', cc, hv⟩ := owns_slice how'
    exact ⟨by simp [St.U, ok_cons], (upd_same ρ l' v').symm, A', _, cc, hv⟩)
  have hex : (execOp a.eval o).run P w = .ok (.value v') w' := by
    simp only [execOp, ho, resolve]
    simp [Sem.run_bind, invoke, builtin, hse, hxe, hrun]
  unfold Oper.wp
  rw [hex]
  refine ⟨_, ⟨_, _, hput⟩, ?_⟩
  cases o.dst <;> rfl
theorem awps_append_str {ops : Array Oper} {rest : List Oper} {s x : Operand} {t u e : TypeId} {l d : Nat} {f : Bool} {es : List (List D)} {bs : ByteArray} {T : List (Nat × AV)} {O : List (Nat × Ob)} (l' : Nat) (ty : TyA P t e 1 1) (hz0 : (P.info? e).map (·.zero) = some (some (.int .u8 0))) (hus : P.underlying u = some .string) (hg : o.guard = none) (hd : o.dst = some d) (hN : d < N)
    (ho : o.op = .call { callee := .builtin .append, args := #[s, x], argTypes := #[t, u] }) (hs : ev T s = some (.row l)) (hl : ok O l = some (.rowd e 1 f es)) (hL : ¬ c.L l) (hl' : ok O l' = none) (hx : ev T x = some (.imm (.string bs))) (hb : es.length + bs.size ≤ 140737488355328)
    (K : awps P c N ops rest Q ⟨(d, .row l') :: T, (l', .rowd e 1 f (es ++ btL bs.data.toList)) :: (l, .dead) :: O⟩) : awps P c N ops (o :: rest) Q ⟨T, O⟩ := by
  refine awps_op hg fun a w hc => Oper.wp_mono ?_ (append_str (l' := l') ty hz0 hus ho (by intro e he; rw [hd] at he; cases he; exact hN) hs hl hL hl' hx hb a w hc)
  rintro a w ⟨σ2, h2, rfl⟩
  refine ⟨_, h2, ?_⟩
  simpa [St.add, hd] using K
theorem stp_conv_bytes {s d e : TypeId} {x : Operand} {l : Nat} {f : Bool} {bs : List UInt8} (ho : o.op = .convert s d x) (hs : P.underlying s = some (.slice e)) (he : P.underlying e = some (.int .u8)) (hd : P.underlying d = some .string)
    (hx : ev σ.T x = some (.row l)) (hl : ok σ.O l = some (.rowd e 1 f (btL bs))) : Stp P c N o σ [l] (.imm (.string ⟨bs.toArray⟩)) [] := by
  refine stp_value fun σ' h1 h2 st w ρ S hc => ⟨_, ?_, by simp only [Rep]; rfl⟩
  have hx' := ev_rep hc (h1 x (by simp [ho, Op.operands]) _ hx)
  simp only [Rep] at hx'
  obtain ⟨hes, xs, how, h3, hr⟩ := hc.O l _ (h2 l (by simp) _ hl)
  have hxs := btL_back _ _ hr
  subst hxs
  rw [btL_length] at how
  have hsz : (ByteArray.mk bs.toArray).size = bs.length := by simp [ByteArray.size]
  simp only [execOp, ho, hx'.2.1]
  rcases how.2 with ⟨h7, h8⟩ | ⟨g, cap, cur, h7, _, _, _, _, _⟩
  · have hnil : bs = [] := List.eq_nil_of_length_eq_zero h8
    subst hnil
    rw [h7]
    have := Lib.run_convert_nil_bytes (P := P) w s d e 0 hs he hd
    simp [Sem.run_bind, this]
  · have hB : Lib.Bytes w g 0 ⟨bs.toArray⟩ := fun i hi => by
      rw [Nat.zero_add]
      refine row_cells_get how (by rw [h7]; rfl) i _ ?_
      rw [hsz] at hi
      simp [List.getElem?_map, List.getElem?_eq_getElem hi]
      rfl
    have := Lib.run_convert_whole (P := P) w s e d hs he hd g 0 ⟨bs.toArray⟩ hB cap
    rw [hsz] at this
    rw [h7]
    simp [Sem.run_bind, this]
end
end Go.Proofs.YtdecgkhdbfgldaaGreat

set_option linter.unusedVariables false
set_option linter.unusedSimpArgs false
namespace Go.Proofs.YtdecgkhdbfgldaaGreat
open Go
mutual
def ShD : D → D → Prop
  | .imm v, d' => ∃ v', d' = .imm v' ∧ SpV v v'
  | .sl k es, d' => ∃ es', d' = .sl k es' ∧ (es' = [] ∨ ShEs es es')
def ShEs : List (List D) → List (List D) → Prop
  | [], es' => es' = []
  | e :: es, es' => ∃ e' es'', es' = e' :: es'' ∧ ShCs e e' ∧ ShEs es es''
def ShCs : List D → List D → Prop
  | [], ds' => ds' = []
  | d :: ds, ds' => ∃ d' ds'', ds' = d' :: ds'' ∧ ShD d d' ∧ ShCs ds ds''
end
mutual
theorem ShD.refl : ∀ d : D, ShD d d
  | .imm v => by simp only [ShD]; exact ⟨v, rfl, .inl rfl⟩
  | .sl k es => by simp only [ShD]; exact ⟨es, rfl, .inr (ShEs.refl es)⟩
theorem ShEs.refl : ∀ es : List (List D), ShEs es es
  | [] => by simp only [ShEs]
  | e :: es => by simp only [ShEs]; exact ⟨e, es, rfl, ShCs.refl e, ShEs.refl es⟩
theorem ShCs.refl : ∀ ds : List D, ShCs ds ds
  | [] => by simp only [ShCs]
  | d :: ds => by simp only [ShCs]; exact ⟨d, ds, rfl, ShD.refl d, ShCs.refl ds⟩
end
theorem ShEs.length : ∀ {es es' : List (List D)}, ShEs es es' → es'.length = es.length
  | [], es', h => by simp only [ShEs] at h; rw [h]
  | e :: es, es', h => by simp only [ShEs] at h; obtain ⟨e', es'', rfl, _, h⟩ := h; simp [h.length]
theorem ShCs.length : ∀ {ds ds' : List D}, ShCs ds ds' → ds'.length = ds.length
  | [], es', h => by simp only [ShCs] at h; rw [h]
  | e :: es, es', h => by simp only [ShCs] at h; obtain ⟨e', es'', rfl, _, h⟩ := h; simp [h.length]
theorem SpB.cell {w w' : World} {b off : Nat} {v : Value} (h : SpB w.heap[b]? w'.heap[b]?) (hv : w.cell? ⟨b, off, none⟩ = some v) : ∃ v', w'.cell? ⟨b, off, none⟩ = some v' ∧ SpV v v' := by
  rcases h with h | ⟨cur, cur', ty, fr, h1, h2, hs, h⟩
  · exact ⟨v, by rw [World.cell?_of_block (w := w) h]; exact hv, .inl rfl⟩
  · simp only [World.cell?, h1] at hv
    have hv : cur[off]? = some v := by simpa using hv
    have hlt : off < cur'.size := by have := (Array.getElem?_eq_some_iff.1 hv).1; omega
    refine ⟨cur'[off], ?_, h off v _ hv (Array.getElem?_eq_getElem hlt)⟩
    simp only [World.cell?, h2]
    simp [hlt]
theorem SpB.al {w w' : World} {b k off : Nat} (h : SpB w.heap[b]? w'.heap[b]?) (ha : Al w b k off) : Al w' b k off := by
  rcases h with h | ⟨cur, cur', ty, fr, h1, h2, hs, h⟩
  · exact ha.of_block h
  · obtain ⟨h3, cur0, ty0, fr0, h4, h5⟩ := ha
    rw [h1] at h4; cases h4
    exact ⟨h3, cur', ty, fr, h2, h5⟩
theorem SpV.one {x y : Value} (h : SpV x y) (hx : x.oneCell' = true) : y.oneCell' = true := by
  rcases h with rfl | ⟨_, _, _, rfl, rfl⟩ | ⟨_, _, rfl, rfl⟩ | ⟨_, _, _, rfl, rfl⟩
  · exact hx
  · rfl
  · rfl
  · rfl
mutual
theorem RepD.sp {w w' : World} {F : Bool} {S : Nat → Prop} (hw : ∀ b, S b → SpB w.heap[b]? w'.heap[b]?) : ∀ (d : D) (x : Value), RepD w F S d x → ∃ d', ShD d d' ∧ RepD w' F S d' x
  | .imm v, x, h => ⟨.imm v, ShD.refl _, by simpa [RepD] using h⟩
  | .sl k es, x, h => by
    simp only [RepD] at h
    obtain ⟨A, n, c, rfl, hn, hc, hm, h⟩ := h
    rcases h with h | ⟨b, off, hA, hb, hal, h⟩
    · exact ⟨.sl k es, ShD.refl _, by simp only [RepD]; exact ⟨A, n, c, rfl, hn, hc, hm, .inl h⟩⟩
    · obtain ⟨es', h1, h2⟩ := RepEs.sp hw b k hb off es h
      refine ⟨.sl k es', by simp only [ShD]; exact ⟨es', rfl, .inr h1⟩, ?_⟩
      simp only [RepD]
      exact ⟨A, n, c, rfl, by rw [h1.length]; exact hn, hc, hm, .inr ⟨b, off, hA, hb, fun e => (hw b hb).al (hal e), h2⟩⟩
theorem RepEs.sp {w w' : World} {F : Bool} {S : Nat → Prop} (hw : ∀ b, S b → SpB w.heap[b]? w'.heap[b]?) (b k : Nat) (hb : S b) : ∀ (off : Nat) (es : List (List D)), RepEs w F S b k off es → ∃ es', ShEs es es' ∧ RepEs w' F S b k off es'
  | _, [], _ => ⟨[], by simp only [ShEs], by simp [RepEs]⟩
  | off, e :: es, h => by
    simp only [RepEs] at h
    obtain ⟨e', h1, h2⟩ := RepCs.sp hw b hb off e h.1.2
    obtain ⟨es', h3, h4⟩ := RepEs.sp hw b k hb (off + k) es h.2
    refine ⟨e' :: es', by simp only [ShEs]; exact ⟨e', es', rfl, h1, h3⟩, ?_⟩
    simp only [RepEs]
    exact ⟨⟨by rw [h1.length]; exact h.1.1, h2⟩, h4⟩
theorem RepCs.sp {w w' : World} {F : Bool} {S : Nat → Prop} (hw : ∀ b, S b → SpB w.heap[b]? w'.heap[b]?) (b : Nat) (hb : S b) : ∀ (off : Nat) (ds : List D), RepCs w F S b off ds → ∃ ds', ShCs ds ds' ∧ RepCs w' F S b off ds'
  | _, [], _ => ⟨[], by simp only [ShCs], by simp [RepCs]⟩
  | off, d :: ds, h => by
    simp only [RepCs] at h
    obtain ⟨⟨v, hv, h1, hd⟩, h⟩ := h
    obtain ⟨ds', h3, h4⟩ := RepCs.sp hw b hb (off + 1) ds h
    obtain ⟨v', hv', hs⟩ := (hw b hb).cell hv
    have key : ∃ d', ShD d d' ∧ RepD w' F S d' v' := by
      have hsame : v' = v → ∃ d', ShD d d' ∧ RepD w' F S d' v' := fun e => by rw [e]; exact RepD.sp hw d v hd
      cases d with
      | imm u =>
        simp only [RepD] at hd; subst hd
        exact ⟨.imm v', by simp only [ShD]; exact ⟨v', rfl, hs⟩, by simp [RepD]⟩
      | sl k es =>
        rcases hs with hs | ⟨_, _, _, hs, _⟩ | ⟨_, _, hs, _⟩ | ⟨A, n, c, hs, rfl⟩
        · exact hsame hs
        · simp only [RepD] at hd; obtain ⟨_, _, _, h5, _⟩ := hd; rw [hs] at h5; cases h5
        · simp only [RepD] at hd; obtain ⟨_, _, _, h5, _⟩ := hd; rw [hs] at h5; cases h5
        · exact ⟨.sl k [], by simp only [ShD]; exact ⟨[], rfl, .inl rfl⟩, by simp only [RepD]; exact ⟨none, 0, 0, rfl, rfl, Nat.le_refl _, Nat.zero_le _, .inl rfl⟩⟩
    obtain ⟨d', h5, h6⟩ := key
    refine ⟨d' :: ds', by simp only [ShCs]; exact ⟨d', ds', rfl, h5, h3⟩, ?_⟩
    simp only [RepCs]
    exact ⟨⟨v', hv', hs.one h1, h6⟩, h4⟩
end
mutual
def ShV : AV → AV → Prop
  | .any, v' => v' = .any
  | .imm v, v' => v' = .imm v
  | .dat f k es, v' => ∃ es', v' = .dat f k es' ∧ (if f = true then ShEs es es' else es' = es)
  | .agg cs, v' => ∃ cs', v' = .agg cs' ∧ ShL cs cs'
  | .ptr l off, v' => v' = .ptr l off
  | .elp f cs, v' => ∃ cs', v' = .elp f cs' ∧ (if f = true then ShCs cs cs' else cs' = cs)
  | .row l, v' => v' = .row l
  | .fn f cs, v' => ∃ cs', v' = .fn f cs' ∧ ShL cs cs'
  | .map l, v' => v' = .map l
  | .tup cs, v' => ∃ cs', v' = .tup cs' ∧ ShL cs cs'
  | .vw l off n c, v' => v' = .vw l off n c
def ShL : List AV → List AV → Prop
  | [], vs' => vs' = []
  | v :: vs, vs' => ∃ v' vs'', vs' = v' :: vs'' ∧ ShV v v' ∧ ShL vs vs''
end
mutual
theorem ShV.refl : ∀ v : AV, ShV v v
  | .any => by simp only [ShV]
  | .imm v => by simp only [ShV]
  | .dat f k es => by simp only [ShV]; exact ⟨es, rfl, by split; exact ShEs.refl es; rfl⟩
  | .agg cs => by simp only [ShV]; exact ⟨cs, rfl, ShL.refl cs⟩
  | .ptr l off => by simp only [ShV]
  | .elp f cs => by simp only [ShV]; exact ⟨cs, rfl, by split; exact ShCs.refl cs; rfl⟩
  | .row l => by simp only [ShV]
  | .fn f cs => by simp only [ShV]; exact ⟨cs, rfl, ShL.refl cs⟩
  | .map l => by simp only [ShV]
  | .tup cs => by simp only [ShV]; exact ⟨cs, rfl, ShL.refl cs⟩
  | .vw l off n c => by simp only [ShV]
theorem ShL.refl : ∀ vs : List AV, ShL vs vs
  | [] => by simp only [ShL]
  | v :: vs => by simp only [ShL]; exact ⟨v, vs, rfl, ShV.refl v, ShL.refl vs⟩
end
theorem ShL.length : ∀ {vs vs' : List AV}, ShL vs vs' → vs'.length = vs.length
  | [], es', h => by simp only [ShL] at h; rw [h]
  | e :: es, es', h => by simp only [ShL] at h; obtain ⟨e', es'', rfl, _, h⟩ := h; simp [h.length]
mutual
theorem Rep.sp {w w' : World} {ρ : Nat → Value} {S : Bool → Nat → Prop} {U : Nat → Prop} (hT : ∀ b, S true b → SpB w.heap[b]? w'.heap[b]?) (hF : ∀ b, S false b → w'.heap[b]? = w.heap[b]?) : ∀ (v : AV) (x : Value), Rep w ρ S U v x → ∃ v', ShV v v' ∧ Rep w' ρ S U v' x
  | .any, x, h => ⟨.any, ShV.refl _, by simp [Rep]⟩
  | .imm v, x, h => ⟨.imm v, ShV.refl _, by simpa [Rep] using h⟩
  | .dat f k es, x, h => by
    simp only [Rep] at h
    cases f with
    | false => exact ⟨_, ShV.refl _, by simp only [Rep]; exact RepD.mono id (fun _ h => h) hF _ _ h⟩
    | true =>
      obtain ⟨d', h1, h2⟩ := RepD.sp hT _ _ h
      simp only [ShD] at h1
      obtain ⟨es', rfl, h1⟩ := h1
      by_cases he : es' = []
      · -- the slice itself is as it was: its length tells
        have hlen : es.length = 0 := by
          subst he
          simp only [RepD] at h h2
          obtain ⟨A, n, c, hx, hn, _⟩ := h
          obtain ⟨A', n', c', hx', hn', _⟩ := h2
          rw [hx] at hx'; cases hx'; rw [← hn, hn']; rfl
        have he2 : es = [] := List.eq_nil_of_length_eq_zero hlen
        subst he; subst he2
        exact ⟨.dat true k [], ShV.refl _, by simp only [Rep]; exact h2⟩
      · exact ⟨.dat true k es', by simp only [ShV]; exact ⟨es', rfl, by simpa using h1.resolve_left he⟩, by simp only [Rep]; exact h2⟩
  | .agg cs, x, h => by
    simp only [Rep] at h
    obtain ⟨xs, hx, h1, h⟩ := h
    obtain ⟨cs', h2, h3⟩ := RepL.sp hT hF cs xs h
    exact ⟨.agg cs', by simp only [ShV]; exact ⟨cs', rfl, h2⟩, by simp only [Rep]; exact ⟨xs, hx, h1, h3⟩⟩
  | .ptr l off, x, h => ⟨.ptr l off, ShV.refl _, by simpa only [Rep] using h⟩
  | .elp f cs, x, h => by
    simp only [Rep] at h
    obtain ⟨b, off, hx, hb, h⟩ := h
    cases f with
    | false => exact ⟨_, ShV.refl _, by simp only [Rep]; exact ⟨b, off, hx, hb, RepCs.mono id (fun _ h => h) hF b hb off cs h⟩⟩
    | true =>
      obtain ⟨cs', h1, h2⟩ := RepCs.sp hT b hb off cs h
      exact ⟨.elp true cs', by simp only [ShV]; exact ⟨cs', rfl, by simpa using h1⟩, by simp only [Rep]; exact ⟨b, off, hx, hb, h2⟩⟩
  | .row l, x, h => ⟨.row l, ShV.refl _, by simpa only [Rep] using h⟩
  | .fn f cs, x, h => by
    simp only [Rep] at h
    obtain ⟨xs, hx, h⟩ := h
    obtain ⟨cs', h2, h3⟩ := RepL.sp hT hF cs xs h
    exact ⟨.fn f cs', by simp only [ShV]; exact ⟨cs', rfl, h2⟩, by simp only [Rep]; exact ⟨xs, hx, h3⟩⟩
  | .map l, x, h => ⟨.map l, ShV.refl _, by simpa only [Rep] using h⟩
  | .tup cs, x, h => by
    simp only [Rep] at h
    obtain ⟨xs, hx, h⟩ := h
    obtain ⟨cs', h2, h3⟩ := RepL.sp hT hF cs xs h
    exact ⟨.tup cs', by simp only [ShV]; exact ⟨cs', rfl, h2⟩, by simp only [Rep]; exact ⟨xs, hx, h3⟩⟩
  | .vw l off n c, x, h => ⟨.vw l off n c, ShV.refl _, by simpa only [Rep] using h⟩
theorem RepL.sp {w w' : World} {ρ : Nat → Value} {S : Bool → Nat → Prop} {U : Nat → Prop} (hT : ∀ b, S true b → SpB w.heap[b]? w'.heap[b]?) (hF : ∀ b, S false b → w'.heap[b]? = w.heap[b]?) : ∀ (vs : List AV) (xs : List Value), RepL w ρ S U vs xs → ∃ vs', ShL vs vs' ∧ RepL w' ρ S U vs' xs
  | [], xs, h => ⟨[], by simp only [ShL], by simpa [RepL] using h⟩
  | v :: vs, xs, h => by
    simp only [RepL] at h
    obtain ⟨y, ys, hx, h1, h2⟩ := h
    obtain ⟨v', h3, h4⟩ := Rep.sp hT hF v y h1
    obtain ⟨vs', h5, h6⟩ := RepL.sp hT hF vs ys h2
    exact ⟨v' :: vs', by simp only [ShL]; exact ⟨v', vs', rfl, h3, h5⟩, by simp only [RepL]; exact ⟨y, ys, hx, h4, h6⟩⟩
end
def ShOb : Ob → Ob → Prop
  | .box cs, o' => ∃ cs', o' = .box cs' ∧ ShL cs cs'
  | .row e k cs, o' => ∃ cs', o' = .row e k cs' ∧ ShL cs cs'
  | .rowd e k f es, o' => o' = if f = true then .dead else .rowd e k f es
  | .mp P k ks, o' => o' = .mp P k ks
  | .dead, o' => o' = .dead
  | .arr e k f es, o' => o' = if f = true then .dead else .arr e k f es
def ShT : List (Nat × AV) → List (Nat × AV) → Prop
  | [], T' => T' = []
  | (t, v) :: T, T' => ∃ v' T'', T' = (t, v') :: T'' ∧ ShV v v' ∧ ShT T T''
def ShO : List (Nat × Ob) → List (Nat × Ob) → Prop
  | [], O' => O' = []
  | (t, v) :: O, O' => ∃ v' O'', O' = (t, v') :: O'' ∧ ShOb v v' ∧ ShO O O''
theorem ShOb.live {o o' : Ob} (h : ShOb o o') (hl : o'.live) : o.live := by
  cases o with
  | box cs => trivial
  | row e k cs => trivial
  | rowd e k f es => trivial
  | mp P k ks => trivial
  | dead => simp only [ShOb] at h; rw [h] at hl; exact hl
  | arr e k f es => trivial
theorem ShOb.ex (o : Ob) : ∃ o', ShOb o o' := by
  cases o with
  | box cs => exact ⟨.box cs, cs, rfl, ShL.refl cs⟩
  | row e k cs => exact ⟨.row e k cs, cs, rfl, ShL.refl cs⟩
  | rowd e k f es => exact ⟨_, rfl⟩
  | mp P k ks => exact ⟨_, rfl⟩
  | dead => exact ⟨_, rfl⟩
  | arr e k f es => exact ⟨_, rfl⟩
theorem ShT.build {R : Nat → AV → Prop} {R' : Nat → AV → Prop} (hR : ∀ t v, R t v → ∃ v', ShV v v' ∧ R' t v') : ∀ (T : List (Nat × AV)) (p : Nat → Prop), (∀ t v, ¬ p t → lk T t = some v → R t v) → ∃ T', ShT T T' ∧ ∀ t v, ¬ p t → lk T' t = some v → R' t v
  | [], p, h => ⟨[], by simp only [ShT], fun t v _ hv => by simp [lk] at hv⟩
  | (s, v) :: T, p, h => by
    obtain ⟨T'', h1, h2⟩ := ShT.build hR T (fun t => p t ∨ t = s) (fun t u hp hu => h t u (fun k => hp (.inl k)) (by rw [lk_cons, if_neg (fun e => hp (.inr e.symm))]; exact hu))
    obtain ⟨v', h3, h4⟩ : ∃ v', ShV v v' ∧ (¬ p s → R' s v') := by
      by_cases hp : p s
      · exact ⟨v, ShV.refl v, fun k => absurd hp k⟩
      · obtain ⟨v', h3, h4⟩ := hR s v (h s v hp (by rw [lk_cons, if_pos rfl]))
        exact ⟨v', h3, fun _ => h4⟩
    refine ⟨(s, v') :: T'', by simp only [ShT]; exact ⟨v', T'', rfl, h3, h1⟩, fun t u hp hu => ?_⟩
    rw [lk_cons] at hu
    split at hu
    · rename_i e; subst e; cases hu; exact h4 hp
    · rename_i e; exact h2 t u (fun k => k.elim hp (fun k => e k.symm)) hu
theorem ShO.build {R : Nat → Ob → Prop} {R' : Nat → Ob → Prop} (hR : ∀ t v, R t v → ∃ v', ShOb v v' ∧ R' t v') : ∀ (T : List (Nat × Ob)) (p : Nat → Prop), (∀ t v, ¬ p t → ok T t = some v → R t v) → ∃ T', ShO T T' ∧ ∀ t v, ¬ p t → ok T' t = some v → R' t v
  | [], p, h => ⟨[], by simp only [ShO], fun t v _ hv => by simp [ok] at hv⟩
  | (s, v) :: T, p, h => by
    obtain ⟨T'', h1, h2⟩ := ShO.build hR T (fun t => p t ∨ t = s) (fun t u hp hu => h t u (fun k => hp (.inl k)) (by rw [ok_cons, if_neg (fun e => hp (.inr e.symm))]; exact hu))
    obtain ⟨v', h3, h4⟩ : ∃ v', ShOb v v' ∧ (¬ p s → R' s v') := by
      by_cases hp : p s
      · obtain ⟨v', h3⟩ := ShOb.ex v
        exact ⟨v', h3, fun k => absurd hp k⟩
      · obtain ⟨v', h3, h4⟩ := hR s v (h s v hp (by rw [ok_cons, if_pos rfl]))
        exact ⟨v', h3, fun _ => h4⟩
    refine ⟨(s, v') :: T'', by simp only [ShO]; exact ⟨v', T'', rfl, h3, h1⟩, fun t u hp hu => ?_⟩
    rw [ok_cons] at hu
    split at hu
    · rename_i e; subst e; cases hu; exact h4 hp
    · rename_i e; exact h2 t u (fun k => k.elim hp (fun k => e k.symm)) hu
theorem ShO.inD : ∀ {O O' : List (Nat × Ob)}, ShO O O' → ∀ l, (ok O' l).isSome = (ok O l).isSome
  | [], O', h, l => by simp only [ShO] at h; rw [h]
  | (s, v) :: O, O', h, l => by
    simp only [ShO] at h
    obtain ⟨v', O'', rfl, _, h⟩ := h
    simp only [ok_cons]
    split
    · rfl
    · exact h.inD l
theorem ShO.get : ∀ {O O' : List (Nat × Ob)}, ShO O O' → ∀ {l : Nat} {o' : Ob}, ok O' l = some o' → ∃ o, ok O l = some o ∧ ShOb o o'
  | [], O', h, l, o', ho => by simp only [ShO] at h; rw [h] at ho; simp [ok] at ho
  | (s, v) :: O, O', h, l, o', ho => by
    simp only [ShO] at h
    obtain ⟨v', O'', rfl, h1, h⟩ := h
    rw [ok_cons] at ho ⊢
    split at ho
    · rename_i e; rw [if_pos e]; cases ho; exact ⟨v, rfl, h1⟩
    · rename_i e; rw [if_neg e]; exact h.get ho
section
variable {P : Program} {c : Ctx} {N : Nat} {Q : Exit → St → Prop} {σ : St} {o : Oper}
end
end Go.Proofs.YtdecgkhdbfgldaaGreat

set_option linter.unusedVariables false
set_option linter.unusedSimpArgs false
namespace Go.Proofs.YtdecgkhdbfgldaaGreat
open Go
section
variable {P : Program} {c : Ctx} {N : Nat} {Q : Exit → St → Prop} {σ : St} {o : Oper}
theorem cellsLift {f : Bool} {v : AV} {vs : List AV} {d : List D} (h : v.cellsOf = some vs) (h2 : toDs f vs = some d) : vs = lift f d := toDs_lift h2
theorem stp_load_rowdi {x : Operand} {t : TypeId} {l off n k : Nat} {b f : Bool} {e : TypeId} {es : List (List D)} {d : List D} {v : AV} (i j : Nat) (ho : o.op = .load t x) (ht : tfB P t b n = true) (hx : ev σ.T x = some (.ptr l off)) (hl : ok σ.O l = some (.rowd e k f es))
    (hoff : off = i * k + j) (hi : es[i]? = some d) (hn : Nat.ble (j + n) k = true) (h0 : Nat.ble 1 n = true) (hv : mkA b n ((lift f d).drop j |>.take n) = some v) : Stp P c N o σ [l] v [] := by
  have hn := Nat.le_of_ble_eq_true hn
  have h0 := Nat.le_of_ble_eq_true h0
  refine stp_value fun σ' h1 h2 a w ρ S hc => ?_
  obtain ⟨g, hg, hx'⟩ := eval_ptr hc (h1 x (by simp [ho, Op.operands]) _ hx)
  obtain ⟨hes, xs, how, h1x, hr⟩ := hc.O l _ (h2 l (by simp) _ hl)
  obtain ⟨cap, cur, h5, h6, h7, h8, h9, h10, h11⟩ := row_cells how hg
  have hil : i < es.length := (List.getElem?_eq_some_iff.1 hi).1
  have hle : i * k + k ≤ es.length * k := by rw [← Nat.succ_mul]; exact Nat.mul_le_mul_right _ hil
  have e1 : (xs.drop off).take n = (((xs.drop (i * k)).take k).drop j).take n := by
    rw [List.drop_take, List.take_take, Nat.min_eq_left (by omega), List.drop_drop, hoff]
  refine ⟨mkV b ((xs.drop off).take n), ?_, ?_⟩
  · simp only [execOp, ho, hx', Instr.loadAt, Instr.sureAddr]
    have := run_loadVar_cells (P := P) ht w g off ((xs.drop off).take n) (by simp; omega) (fun j v hv => row_cells_get how hg _ _ (take_get hv))
    simp [Sem.run_bind, this]
  · rw [e1]
    exact rep_mkA hv (fun y hy => h1x y (List.mem_of_mem_drop (List.mem_of_mem_take (List.mem_of_mem_drop (List.mem_of_mem_take hy))))) (((repL_elem hes hr i d hi).drop j).take n)
theorem flat_set {α : Type} {k : Nat} : ∀ (es : List (List α)) (i : Nat) (d : List α), (∀ x ∈ es, x.length = k) → d.length = k → i < es.length → (es.set i d).flatten = splice es.flatten (i * k) d
  | [], i, d, _, _, h => by simp at h
  | e :: es, 0, d, h, hd, _ => by
    have he : e.length = k := h e (by simp)
    simp only [List.set_cons_zero, List.flatten_cons, splice, Nat.zero_mul, List.take_zero, List.nil_append, Nat.zero_add]
    rw [List.drop_append, hd, he, Nat.sub_self, List.drop_zero, List.drop_of_length_le (by omega), List.nil_append]
  | e :: es, i + 1, d, h, hd, hi => by
    have he : e.length = k := h e (by simp)
    have ih := flat_set es i d (fun x hx => h x (by simp [hx])) hd (by simpa using hi)
    simp only [List.set_cons_succ, List.flatten_cons, ih, splice]
    have e1 : (i + 1) * k = e.length + i * k := by rw [Nat.succ_mul, he]; omega
    have e2 : e.length + i * k + d.length = e.length + (i * k + d.length) := by omega
    rw [e1, List.take_length_add_append, e2, List.drop_length_add_append]
    simp [List.append_assoc]
theorem awps_storeRowd {ops : Array Oper} {rest : List Oper} {x y : Operand} {t e : TypeId} {b f : Bool} {k l off n : Nat} {es : List (List D)} {v : AV} {vs : List AV} {d : List D} {T : List (Nat × AV)} {O : List (Nat × Ob)} (i : Nat) (hg : o.guard = none) (ho : o.op = .store t x y) (hd : o.dst = none) (ht : tfB P t b n = true)
    (hx : ev T x = some (.ptr l off)) (hl : ok O l = some (.rowd e k f es)) (hoff : off = i * k) (hi : i < es.length) (hy : ev T y = some v) (hv : v.cellsOf = some vs) (hvd : toDs f vs = some d) (hn : vs.length = n) (hk : n = k) (h0 : Nat.ble 1 n = true)
    (K : awps P c N ops rest Q ⟨T, (l, .rowd e k f (es.set i d)) :: O⟩) : awps P c N ops (o :: rest) Q ⟨T, O⟩ := by
  refine awps_op hg ?_
  rintro a w ⟨ρ, S, hc⟩
  have h0' := Nat.le_of_ble_eq_true h0
  subst hk
  subst hoff
  obtain ⟨g, hgb, hx'⟩ := eval_ptr hc hx
  have hy' := ev_rep hc hy
  obtain ⟨us, hus, hu1, hur⟩ := rep_cellsOf hv hy'
  have hul := hur.length
  have hvl := cellsLift hv hvd
  have hdl : d.length = n := by rw [← hn, hvl]; simp [lift]
  obtain ⟨hes, xs, how, h1, hr⟩ := hc.O l _ hl
  obtain ⟨cap, cur, h5, h6, h7, h8, h9, h10, h11⟩ := row_cells how hgb
  have h6' : w.heap[g]? = some (.cells cur.toList.toArray e (0, 0)) := by simpa using h6
  have hcl : cur.toList.length = cap * n := by simpa using h9
  have hmk : es.length * n ≤ cap * n := Nat.mul_le_mul_right n h7
  have hik : i * n + n ≤ es.length * n := by rw [← Nat.succ_mul]; exact Nat.mul_le_mul_right _ hi
  have hf : Far (fun b => blk (ρ l) = some b) w (w.setRow g (splice cur.toList (i * n) us).toArray) := by
    rw [h5]; exact far_setRow w g _
  have hrun := run_storeVar_at ht w g (i * n) e (a.eval y) us cur.toList hus hu1 (by omega) h6' (by omega)
  have hex : (execOp a.eval o).run P w = .ok .skip (w.setRow g (splice cur.toList (i * n) us).toArray) := by
    simp only [execOp, ho, Instr.storeAt, hx', Instr.sureAddr]
    simp [Sem.run_bind, hrun]
  have hrU : ∀ vs zs, RepL w ρ S (St.U ⟨T, O⟩) vs zs → RepL (w.setRow g (splice cur.toList (i * n) us).toArray) ρ S (St.U ⟨T, (l, .rowd e n f (es.set i d)) :: O⟩) vs zs := fun vs zs h =>
    h.mono (fun _ _ h => h) (fun f b hb => hf.block b (hc.Sb f b hb) (fun e => hc.dS l _ b f hl trivial e hb)) U_cons (fun _ _ => rfl)
  have hnew := hc.modOb hl trivial hf (ob' := .rowd e n f (es.set i d)) (by
    refine ⟨fun x hx => ?_, splice xs (i * n) us, ⟨?_, .inr ⟨g, cap, (splice cur.toList (i * n) us).toArray, by rw [List.length_set]; exact h5, Nat.zero_le _, setRow_heap w g _ _ e _ h6', by simpa using h7, h8, ?_, ?_⟩⟩, ?_, ?_⟩
    · rcases List.mem_or_eq_of_mem_set hx with h | h
      · exact hes x h
      · rw [h]; exact hdl
    · rw [splice_length (by omega), List.length_set]; exact h11
    · simp only [List.size_toArray]; rw [splice_length (by omega)]; exact hcl
    · simp only [List.length_set]
      rw [splice_take (by omega) (by omega), h10]
    · intro y hy
      simp only [splice, List.mem_append] at hy
      rcases hy with (hy | hy) | hy
      · exact h1 y (List.mem_of_mem_take hy)
      · exact hu1 y hy
      · exact h1 y (List.mem_of_mem_drop hy)
    · refine hrU _ _ ?_
      rw [flat_set es i d hes hdl hi]
      have e1 : lift f (splice es.flatten (i * n) d) = (lift f es.flatten).take (i * n) ++ vs ++ (lift f es.flatten).drop (i * n + us.length) := by
        rw [hul, hn, hvl]; simp [splice, lift, hdl]
      rw [e1, splice]
      exact ((hr.take (i * n)).append hur).append (hr.drop _))
  unfold Oper.wp
  rw [hex]
  simp only [Oper.upon_skip]
  refine ⟨_, ?_, K⟩
  rw [hd]; exact ⟨ρ, S, hnew⟩
theorem awp_cut {x y : Code} (mid : St) (h1 : awp P c N x (thenQ (fun σ' => Sub c N σ' mid) Q) σ) (h2 : awp P c N y Q mid) : awp P c N (.seq x y) Q σ :=
  awp_seq (awp_mono (fun e σ' h => by
    cases e with
    | normal => exact awp_sub h h2
    | _ => exact h) h1)
theorem thenQ_cut {mid : St} (h : Sub c N σ mid) : thenQ (fun σ' => Sub c N σ' mid) Q .normal σ := h
end
end Go.Proofs.YtdecgkhdbfgldaaGreat
