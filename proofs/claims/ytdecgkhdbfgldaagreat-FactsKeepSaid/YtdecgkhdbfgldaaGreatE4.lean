/- Part 4 of the proof: SymZb, SymZd, SymZe. -/
import Derived.Test.YtdecgkhdbfgldaaGreatE3
import Derived.Shelf.SlSortCmp.NoneTotal
set_option linter.unusedVariables false
set_option linter.unusedSimpArgs false
namespace Go.Proofs.YtdecgkhdbfgldaaGreat
open Go
section
variable {P : Program} {c : Ctx} {N : Nat} {Q : Exit → St → Prop} {σ : St} {o : Oper}
theorem Conc.clearArr {T : List (Nat × AV)} {O : List (Nat × Ob)} {a : Act} {w : World} {ρ : Nat → Value} {S : Bool → Nat → Prop} (hc : Conc c N ⟨T, O⟩ a w ρ S) {l k i m b' : Nat} {e : TypeId} {f : Bool} {es : List (Option (List D))} {nz : Nat} {xs us : List Value} (hl : ok O l = some (.arr e k f es)) (hb : ρ l = .slice (some ⟨b', 0, none⟩) m m)
    (h3 : ρ l = .slice (some ⟨b', 0, none⟩) es.length es.length) (h4 : w.heap[b']? = some (.cells xs.toArray e (0, 0))) (h5 : xs.length = es.length * k) (h6 : es.length ≤ maxLen) (h7 : ∀ (i : Nat) (d : List D), es[i]? = some (some d) → d.length = k ∧ RepL w ρ S (St.U ⟨T, O⟩) (lift f d) ((xs.drop (i * k)).take k) ∧ ∀ y ∈ (xs.drop (i * k)).take k, y.oneCell' = true)
    (hul : us.length = nz * k) (hfit : i + nz ≤ es.length) (hfit2 : i * k + us.length ≤ xs.length) {w' : World} (hw' : w' = w.setRow b' (splice xs (i * k) us).toArray) :
    Conc c N ⟨T, (l, .arr e k f (splice es i (List.replicate nz none))) :: O⟩ a w' ρ S := by
  subst hw'
  have hfar : Far (fun g => blk (ρ l) = some g) w (w.setRow b' (splice xs (i * k) us).toArray) := by rw [hb]; exact far_setRow w b' _
  have hU2 : ∀ m, St.U ⟨T, O⟩ m → St.U ⟨T, (l, .arr e k f (splice es i (List.replicate nz none))) :: O⟩ m := fun m hm => U_cons m hm
  have hmono : ∀ vs zs, RepL w ρ S (St.U ⟨T, O⟩) vs zs → RepL (w.setRow b' (splice xs (i * k) us).toArray) ρ S (St.U ⟨T, (l, .arr e k f (splice es i (List.replicate nz none))) :: O⟩) vs zs := fun vs zs hz =>
    hz.mono (fun _ _ h => h) (fun g b hb' => hfar.block b (hc.Sb g b hb') (fun e' => hc.dS l _ b g hl trivial e' hb')) hU2 (fun _ _ => rfl)
  have hlen2 : (splice es i (List.replicate nz none)).length = es.length := splice_length (by simpa using hfit)
  have hob : ObOk (w.setRow b' (splice xs (i * k) us).toArray) ρ S (St.U ⟨T, (l, .arr e k f (splice es i (List.replicate nz none))) :: O⟩) l (.arr e k f (splice es i (List.replicate nz none))) := by
    refine ⟨b', splice xs (i * k) us, by rw [hlen2]; exact h3, setRow_heap w b' _ _ e _ h4, by rw [splice_length hfit2, hlen2]; exact h5, by rw [hlen2]; exact h6, fun j d hd => ?_⟩
    rw [splice_get (by simpa using hfit)] at hd
    have seg : ∀ (j0 : Nat), (∀ p, p < k → (splice xs (i * k) us)[j * k + p]? = xs[j * k + p]?) → ((splice xs (i * k) us).drop (j * k)).take k = (xs.drop (j * k)).take k := fun _ hp => by
      apply List.ext_getElem?
      intro p
      rw [List.getElem?_take, List.getElem?_take, List.getElem?_drop, List.getElem?_drop]
      split
      · rename_i h; exact hp p h
      · rfl
    by_cases c1 : j < i
    · rw [if_pos c1] at hd
      obtain ⟨g1, g2, g3⟩ := h7 j d hd
      have hjk : j * k + k ≤ i * k := by rw [← Nat.succ_mul]; exact Nat.mul_le_mul_right _ c1
      have e2 := seg 0 (fun p hp => by rw [splice_get hfit2, if_pos (by omega)])
      rw [e2]
      exact ⟨g1, hmono _ _ g2, g3⟩
    · rw [if_neg c1] at hd
      by_cases c2 : j < i + (List.replicate nz (none : Option (List D))).length
      · rw [if_pos c2, List.getElem?_replicate] at hd
        split at hd <;> cases hd
      · rw [if_neg c2] at hd
        simp only [List.length_replicate] at c2
        obtain ⟨g1, g2, g3⟩ := h7 j d hd
        have hjk : i * k + nz * k ≤ j * k := by rw [← Nat.add_mul]; exact Nat.mul_le_mul_right _ (by omega)
        have e2 := seg 0 (fun p hp => by rw [splice_get hfit2, if_neg (by omega), if_neg (by omega)])
        rw [e2]
        exact ⟨g1, hmono _ _ g2, g3⟩
  exact hc.modOb hl trivial hfar hob
theorem splice_one {α : Type} {es : List α} {i : Nat} {x : α} (h : i < es.length) : splice es i [x] = es.set i x := by
  rw [splice, List.set_eq_take_append_cons_drop, if_pos h]
  simp
theorem cellsLift {f : Bool} {v : AV} {vs : List AV} {d : List D} (h : v.cellsOf = some vs) (h2 : toDs f vs = some d) : vs = lift f d := toDs_lift h2
theorem awps_storeArr {ops : Array Oper} {rest : List Oper} {x y : Operand} {t e : TypeId} {b f : Bool} {k l off n : Nat} {es : List (Option (List D))} {v : AV} {vs : List AV} {d : List D} {T : List (Nat × AV)} {O : List (Nat × Ob)} (i : Nat) (hg : o.guard = none) (ho : o.op = .store t x y) (hd : o.dst = none) (ht : tfB P t b n = true)
    (hx : ev T x = some (.ptr l off)) (hl : ok O l = some (.arr e k f es)) (hoff : off = i * k) (hi : i < es.length) (hy : ev T y = some v) (hv : v.cellsOf = some vs) (hvd : toDs f vs = some d) (hn : vs.length = n) (hk : n = k) (h0 : Nat.ble 1 n = true)
    (K : awps P c N ops rest Q ⟨T, (l, .arr e k f (es.set i (some d))) :: O⟩) : awps P c N ops (o :: rest) Q ⟨T, O⟩ := by
  refine awps_op hg ?_
  rintro a w ⟨ρ, S, hc⟩
  have h0' := Nat.le_of_ble_eq_true h0
  subst hk
  obtain ⟨g, hgb, hx'⟩ := eval_ptr hc hx
  have hy' := ev_rep hc hy
  obtain ⟨us, hus, hu1, hur⟩ := rep_cellsOf hv hy'
  have hul := hur.length
  have hvl := cellsLift hv hvd
  have hdl : d.length = n := by rw [← hn, hvl]; simp [lift]
  obtain ⟨b', xs, h3, h4, h5, h6, h7⟩ := hc.O l _ hl
  have hb2 := h3
  rw [h3] at hgb; simp only [blk, Option.some.injEq] at hgb; subst hgb
  have hfit2 : i * n + us.length ≤ xs.length := by
    rw [h5, hul, hn, ← Nat.succ_mul]; exact Nat.mul_le_mul_right _ hi
  have hrun := run_storeVar_at ht w b' off e (a.eval y) us xs hus hu1 (by omega) h4 (by rw [hoff]; omega)
  have hex : (execOp a.eval o).run P w = .ok .skip (w.setRow b' (splice xs off us).toArray) := by
    simp only [execOp, ho, Instr.storeAt, hx', Instr.sureAddr]
    simp [Sem.run_bind, hrun]
  have hnew := hc.spliceArr (i := i) (ds := [d]) (us := us) hl hb2 h3 h4 h5 h6 h7 (by simp; omega) hu1 (by simp only [List.flatten_cons, List.flatten_nil, List.append_nil]; rw [← hvl]; exact hur) (by intro x hx; simp only [List.mem_singleton] at hx; rw [hx]; exact hdl) (by simp; omega) hfit2 rfl
  unfold Oper.wp
  rw [hex]
  simp only [Oper.upon_skip]
  have e1 : splice es i ([d].map some) = es.set i (some d) := splice_one hi
  rw [e1] at hnew
  refine ⟨_, ?_, K⟩
  rw [hd, hoff]; exact ⟨ρ, S, hnew⟩
theorem awps_clear {ops : Array Oper} {rest : List Oper} {x : Operand} {t e : TypeId} {f : Bool} {k l off n q : Nat} {es : List (Option (List D))} {zs : List Value} {T : List (Nat × AV)} {O : List (Nat × Ob)} (i : Nat) (hg : o.guard = none) (ho : o.op = .call { callee := .builtin .clear, args := #[x], argTypes := #[t] }) (hd : o.dst = none) (ht : slB P t e k = true) (hz : zvB P e = some (some zs)) (h1z : (zs.all fun x => x.oneCell') = true) (hzl : zs.length = k)
    (hx : ev T x = some (.vw l off n q)) (hl : ok O l = some (.arr e k f es)) (hoff : 0 < n → off = i * k) (hfit : i + n ≤ es.length)
    (K : ∀ es', es'.length = es.length → (∀ j, j < i → es'[j]? = es[j]?) → awps P c N ops rest Q ⟨T, (l, .arr e k f es') :: O⟩) : awps P c N ops (o :: rest) Q ⟨T, O⟩ := by
  refine awps_op hg ?_
  rintro a w ⟨ρ, S, hc⟩
  have h := ev_rep hc hx
  simp only [Rep] at h
  obtain ⟨hU, b, ⟨m, hb⟩, hx'⟩ := h
  obtain ⟨b', xs, h3, h4, h5, h6, h7⟩ := hc.O l _ hl
  have hb' := hb
  rw [h3] at hb'
  simp only [Value.slice.injEq, Option.some.injEq, Addr.mk.injEq] at hb'
  obtain ⟨⟨rfl, _⟩, _⟩ := hb'
  obtain ⟨it, h8, h9, h10⟩ := sl_spec ht
  obtain ⟨it', z, h11, h12, h13⟩ := zv_spec hz
  rw [h9] at h11; simp only [Option.some.injEq] at h11; subst h11
  rcases Nat.eq_zero_or_pos n with hn0 | hn0
  · subst hn0
    have hex : (execOp a.eval o).run P w = .ok (.value (.tuple #[])) w := by
      simp only [execOp, ho, resolve]
      simp [Sem.run_bind, invoke, builtin, hx', Builtin.clear_, run_underlying h8 w]
    unfold Oper.wp
    rw [hex]
    simp only [Oper.upon_value]
    refine ⟨⟨T, (l, .arr e k f es) :: O⟩, ?_, K es rfl (fun _ _ => rfl)⟩
    rw [hd]
    exact ⟨ρ, S, hc.modOb hl trivial (Far.refl _ _) ((hc.O l _ hl).mono (fun _ _ h => h) (fun _ _ _ => rfl) U_cons (fun _ _ => rfl) (by simp [St.U, hl]) (fun _ _ => rfl))⟩
  · have hoff' := hoff hn0
    have hzc : z.cells.size = k := by rw [← hzl, ← h13]; simp
    let us := (Builtin.zeroCells z.cells n).toList
    have hul : us.length = n * k := by rw [← hzc]; exact zeroCells_len _ _
    have hu1 : ∀ u ∈ us, u.oneCell' = true := fun u hu => by
      simp only [us, Builtin.zeroCells, Array.toList_map, List.mem_map] at hu
      obtain ⟨j, _, rfl⟩ := hu
      by_cases hk0 : z.cells.size = 0
      · rw [getElem!_neg z.cells _ (by rw [hk0]; omega)]; rfl
      · have hlt : j % z.cells.size < z.cells.size := Nat.mod_lt _ (by omega)
        rw [getElem!_pos z.cells _ hlt]
        have hmem : z.cells[j % z.cells.size] ∈ zs := by rw [← h13]; exact Array.mem_toList_iff.2 (Array.getElem_mem hlt)
        exact List.all_eq_true.1 h1z _ hmem
    have hfit2 : i * k + us.length ≤ xs.length := by rw [hul, h5, ← Nat.add_mul]; exact Nat.mul_le_mul_right _ hfit
    have hst := run_storeCells_at P b' (i * k) e us 0 xs.toArray w h4 (by simpa using hfit2) hu1
    simp only [Nat.add_zero] at hst
    have hst' : (storeCells ⟨b', i * k, none⟩ us).run P w = .ok () (w.setRow b' (splice xs (i * k) us).toArray) := by
      simpa [splice] using hst
    have hex : (execOp a.eval o).run P w = .ok (.value (.tuple #[])) (w.setRow b' (splice xs (i * k) us).toArray) := by
      simp only [execOp, ho, resolve]
      subst hoff'
      obtain ⟨n', rfl⟩ : ∃ n', n = n' + 1 := ⟨n - 1, by omega⟩
      simp [Sem.run_bind, invoke, builtin, hx', Builtin.clear_, run_underlying h8 w, run_zero h9 h12, hst', us] at hst' ⊢
      first | done | (rw [hst']; rfl)
    have hnew := hc.clearArr (i := i) (nz := n) (us := us) hl hb h3 h4 h5 h6 h7 hul hfit hfit2 rfl
    unfold Oper.wp
    rw [hex]
    simp only [Oper.upon_value]
    refine ⟨_, ?_, K (splice es i (List.replicate n none)) (splice_length (by simpa using hfit)) (fun j hj => by rw [splice_get (by simpa using hfit), if_pos hj])⟩
    rw [hd]; exact ⟨ρ, S, hnew⟩
theorem awp_cut {x y : Code} (mid : St) (h1 : awp P c N x (thenQ (fun σ' => Sub c N σ' mid) Q) σ) (h2 : awp P c N y Q mid) : awp P c N (.seq x y) Q σ :=
  awp_seq (awp_mono (fun e σ' h => by
    cases e with
    | normal => exact awp_sub h h2
    | _ => exact h) h1)
theorem thenQ_cut {mid : St} (h : Sub c N σ mid) : thenQ (fun σ' => Sub c N σ' mid) Q .normal σ := h
end
end Go.Proofs.YtdecgkhdbfgldaaGreat

set_option linter.unusedVariables false
set_option linter.unusedSimpArgs false
namespace Go.Proofs.YtdecgkhdbfgldaaGreat
open Go Go.Sort Go.Lib
theorem far_grow {w w' : World} (h : Far0 (fun _ => False) w w') (hd : w.drawn ≤ w'.drawn) : ∃ q os', w' = grow (w.drewN q) os' := by
  refine ⟨w'.drawn - w.drawn, w'.heap.extract w.heap.size w'.heap.size, ?_⟩
  have hh : w'.heap = w.heap ++ w'.heap.extract w.heap.size w'.heap.size := by
    apply Array.ext_getElem?
    intro i
    by_cases hi : i < w.heap.size
    · rw [Array.getElem?_append_left hi]; exact h.block i hi (fun h => h)
    · have h1 := h.size
      rw [Array.getElem?_append_right (by omega)]
      simp only [Array.getElem?_extract]
      by_cases h2 : i < w'.heap.size
      · rw [if_pos (by omega), show w.heap.size + (i - w.heap.size) = i by omega]
      · rw [if_neg (by omega), Array.getElem?_eq_none (by omega)]
  have e : w.drawn + (w'.drawn - w.drawn) = w'.drawn := by omega
  cases w; cases w'
  simp only [grow, World.drewN] at *
  obtain ⟨h1, h2, h3, _, _⟩ := h
  simp only at h1 h2 h3 hh e
  subst h1; subst h2; subst h3
  rw [e]
  exact congrArg (fun hp => World.mk hp _ _ _ _) hh
theorem pf_call {P : Program} {g : FuncId} {args : List AV} {u : Value} (h : ACx true P g args [] (fun r O => r = .imm u ∧ O = [])) {w : World} {xs : List Value} {ρ : Nat → Value} {S : Nat → Prop} {U : Nat → Prop}
    (hargs : RepL w ρ (fun f b => f = false ∧ S b) U args xs) (hall : AV.allLs (fun _ => false) args = true) (hS : ∀ b, S b → b < w.heap.size) :
    Calls P g xs.toArray w fun e w' => e = .returned u ∧ ∃ q os', w' = grow (w.drewN q) os' := by
  let cc : Ctx := ⟨w, fun _ => False, S, ρ, fun l => inD [] l = true, fun _ => False, True, fun _ => False⟩
  have hall2 : RepL w ρ (fun f b => f = false ∧ S b) (St.U ⟨argT 0 args, []⟩) args xs :=
    RepL.gen (p := fun _ => false) (q := fun _ => true) (fun _ _ _ h => h) (fun _ _ _ _ => rfl) (fun _ h => by cases h) _ _ hall (allQs_true _) hargs
  have hent : Conc cc args.length ⟨argT 0 args, []⟩ ⟨xs.toArray, []⟩ w ρ (fun f b => f = false ∧ S b) := by
    refine ⟨by have := hall2.length; simpa using this, rfl, fun t v ht => ?_, fun l ob' hl => by simp [ok] at hl, fun l l' ob ob' b h1 => by simp [ok] at h1, fun l ob b f h1 => by simp [ok] at h1, fun l ob b h1 => by simp [ok] at h1, fun l ob b h1 => by simp [ok] at h1, fun b h => (by cases h.1.1), fun f b h => hS b h.2, fun b h => (by cases h.1), fun b h => .inl h.2, fun l hl => by simp [cc, inD, ok] at hl, Fm.start (c := cc) (fun _ h => h.elim) (fun _ h => h.elim) (fun b h => (by cases h.1))⟩
    obtain ⟨j, h1, y, hy, hv⟩ := lk_argT 0 hall2 t v ht
    have : xs.toArray.getD t undef = y := by
      rw [Array.getD_eq_getD_getElem?]
      simp only [List.getElem?_toArray]
      rw [h1, Nat.zero_add, hy]; rfl
    simp only
    rw [this]; exact hv
  refine (h cc w xs ρ _ rfl (fun l => Iff.rfl) ⟨fun b h => (by cases h.1), fun b h => h⟩ ⟨⟨fun _ => rfl⟩⟩ hent).mono ?_
  rintro e w' ⟨y, r, O', rfl, ⟨rfl, rfl⟩, ρ', S', hc⟩
  have hy := hc.T 0 (.imm u) rfl
  simp only [Rep] at hy
  have hy2 : y = u := hy
  exact ⟨by rw [hy2], far_grow hc.fm.toFar0 (hc.fm.dr trivial)⟩
end Go.Proofs.YtdecgkhdbfgldaaGreat

set_option linter.unusedVariables false
set_option linter.unusedSimpArgs false
namespace Go.Proofs.YtdecgkhdbfgldaaGreat
open Go Go.Sort Go.Lib Go.Shelf
section
variable {α : Type} [Inhabited α] (enc : α → List Value) (k : Nat) (w : World) (blk off m : Nat) (dk : Array α) (os : Array Obj)
theorem sortW_other {b : Nat} (hb : b < w.heap.size) (hne : b ≠ blk) : (sortWorldK enc k w blk off m dk os).heap[b]? = w.heap[b]? := by
  simp only [sortWorldK, grow, putRowK, putRow, mapBlock, Go.Sort.ahead]
  rw [Array.getElem?_append_left (by simpa using hb), Array.getElem?_modify, if_neg (fun e => hne e.symm)]
theorem sortW_blk {cur : Array Value} {ty : TypeId} {fr : Nat × Nat} (h : w.heap[blk]? = some (.cells cur ty fr)) : (sortWorldK enc k w blk off m dk os).heap[blk]? = some (.cells (putCells id off (flatK enc k dk) cur) ty fr) := by
  have hb : blk < w.heap.size := (Array.getElem?_eq_some_iff.1 h).1
  simp only [sortWorldK, grow, putRowK, putRow, mapBlock, Go.Sort.ahead]
  rw [Array.getElem?_append_left (by simpa using hb), Array.getElem?_modify, if_pos rfl, h]
  rfl
theorem sortW_far : Far (fun b => b = blk) w (sortWorldK enc k w blk off m dk os) :=
  ⟨rfl, rfl, rfl, by simp [sortWorldK, grow, putRowK, putRow, mapBlock, Go.Sort.ahead], fun b hb hne => sortW_other enc k w blk off m dk os hb hne, by simp [sortWorldK, grow, putRowK, putRow, mapBlock, Go.Sort.ahead]⟩
end
theorem flat_get {β : Type} {k : Nat} (hk : 0 < k) : ∀ {L : List (List β)}, (∀ x ∈ L, x.length = k) → ∀ t : Nat, L.flatten[t]? = (L[t / k]?).bind (·[t % k]?)
  | [], _, t => by simp
  | x :: L, h, t => by
    have hx : x.length = k := h x (by simp)
    rw [List.flatten_cons]
    by_cases ht : t < k
    · rw [List.getElem?_append_left (by omega), Nat.div_eq_of_lt ht, Nat.mod_eq_of_lt ht]; rfl
    · obtain ⟨t', rfl⟩ : ∃ t', t = t' + k := ⟨t - k, by omega⟩
      rw [List.getElem?_append_right (by omega), hx, Nat.add_sub_cancel, flat_get hk (fun y hy => h y (by simp [hy])) t', Nat.add_div_right _ hk, Nat.add_mod_right]; rfl
theorem flatK_list {α : Type} [Inhabited α] {enc : α → List Value} {k : Nat} (h0 : 0 < k) (hk : ∀ x, (enc x).length = k) (d : Array α) : flatK enc k d = (d.toList.map enc).flatten.toArray := by
  have hlen : ∀ (L : List α), (L.map enc).flatten.length = L.length * k := by
    intro L
    induction L with
    | nil => simp
    | cons a L ih => rw [List.map_cons, List.flatten_cons, List.length_append, ih, hk, List.length_cons, Nat.add_mul, Nat.one_mul, Nat.add_comm]
  refine ext_get! (by simp only [size_flatK, List.size_toArray]; rw [hlen]; simp) fun t ht => ?_
  have ht' : t < d.size * k := by simpa using ht
  have hd : t / k < d.size := Nat.div_lt_of_lt_mul (by rw [Nat.mul_comm]; exact ht')
  have hm : t % k < k := Nat.mod_lt _ h0
  rw [get_flatK _ _ _ t ht']
  have hg := flat_get h0 (L := d.toList.map enc) (by intro x hx; obtain ⟨y, _, rfl⟩ := List.mem_map.1 hx; exact hk y) t
  have e1 : (d.toList.map enc)[t / k]? = some (enc d[t / k]) := by simp [hd]
  rw [e1] at hg
  have e2 : (enc d[t / k])[t % k]? = some ((enc d[t / k])[t % k]'(by rw [hk]; exact hm)) := List.getElem?_eq_getElem _
  simp only [Option.bind_some] at hg
  rw [e2] at hg
  rw [getElem!_pos d _ hd, getElem!_pos (enc d[t / k]) _ (by rw [hk]; exact hm)]
  have hlt : t < (d.toList.map enc).flatten.length := (List.getElem?_eq_some_iff.1 hg).1
  have e3 := (List.getElem?_eq_some_iff.1 hg).2
  rw [getElem!_pos _ t (by simpa using hlt)]
  simpa using e3.symm
theorem put_take {F cur : Array Value} (h : F.size ≤ cur.size) : (putCells id 0 F cur).size = cur.size ∧ (putCells id 0 F cur).toList.take F.size = F.toList := by
  refine ⟨by simp [putCells], ?_⟩
  apply List.ext_getElem?
  intro t
  rw [List.getElem?_take]
  by_cases ht : t < F.size
  · have hc : t < cur.size := by omega
    rw [if_pos ht]
    simp [putCells, ht, hc]
  · rw [if_neg ht, List.getElem?_eq_none (by simpa using ht)]
theorem extract_all {β : Type} (A : Array β) {n : Nat} (h : A.size = n) : A.extract 0 n = A := by subst h; simp
theorem sort_core {P : Program} {R : Ren} (L : SlLaysF0.n6 P R) {k : Nat} (hk0 : 0 < k) (aE : ∀ w, (isAgg (R.t 24)).run P w = .ok true w) (zE : ∀ w, (Go.sizeOf (R.t 24)).run P w = .ok k w) {g : FuncId} (eg : ∀ args w, (callFunc g args).run P w = .ok (.enter g args) w)
    {e : TypeId} {X : Type} {toD : X → List D} {es : List X} {cf : X → X → Int} {w : World} {v : Value} {xs : List Value} {Sx : Nat → Prop} {ρ : Nat → Value}
    (hlt : es.length < 4611686018427387904) (how : w.ownsRow 0 e k v es.length xs) (hone : ∀ y ∈ xs, y.oneCell' = true)
    (hel : ∀ (i : Nat) (x : X), es[i]? = some x → RepL w ρ (fun f b => f = false ∧ Sx b) (fun _ => False) (lift false (toD x)) ((xs.drop (i * k)).take k))
    (hSx : ∀ b, Sx b → b < w.heap.size ∧ blk v ≠ some b)
    (hcmp : ∀ x ∈ es, ∀ y ∈ es, ACx true P g [.agg (lift false (toD x)), .agg (lift false (toD y))] [] (fun r O => r = .imm (.int .i64 (cf x y)) ∧ O = []))
    (hirr : ∀ x ∈ es, ¬ cf x x < 0) (htr : ∀ x ∈ es, ∀ y ∈ es, ∀ z ∈ es, cf x y < 0 → cf y z < 0 → cf x z < 0) (hnt : ∀ x ∈ es, ∀ y ∈ es, ∀ z ∈ es, ¬ cf x y < 0 → ¬ cf y z < 0 → ¬ cf x z < 0) :
    Calls P (R.f 6) #[v, .func (.func g) #[] #[]] w fun e' w' => e' = .returned (.tuple #[]) ∧ ∃ ps : List (X × List Value), (ps.map (·.1)).Perm es ∧ (ps.map (·.1)).Pairwise (fun x y => ¬ cf y x < 0) ∧ (∀ p ∈ ps, ∃ i, es[i]? = some p.1 ∧ p.2 = (xs.drop (i * k)).take k) ∧ Far (fun b => blk v = some b) w w' ∧ w'.ownsRow 0 e k v ps.length (ps.map (·.2)).flatten := by
  rcases Nat.eq_zero_or_pos es.length with hz | hpos
  · have hnil : es = [] := List.eq_nil_of_length_eq_zero hz
    obtain ⟨A, cc, hv⟩ := owns_slice how
    rw [hz] at hv
    subst hv
    have hcall := AnyF.slices_SortFunc_none L A cc (.func (.func g) #[] #[]) w
    refine hcall.mono ?_
    rintro e' w' ⟨rfl, rfl⟩
    subst hnil
    refine ⟨rfl, [], .refl _, List.Pairwise.nil, by simp, Far.refl _ _, ?_⟩
    have hx : xs = [] := List.eq_nil_of_length_eq_zero (by have := how.1; simpa using this)
    rw [hx] at how
    exact how
  · rcases how.2 with ⟨_, hn⟩ | ⟨b, cap, cur, hv, _, hh, hcap, hmax, hcs, htk⟩
    · omega
    · subst hv
      have hlen : xs.length = es.length * k := how.1
      haveI : Inhabited (Fin es.length) := ⟨⟨0, hpos⟩⟩
      let enc : Fin es.length → List Value := fun i => (xs.drop (i.1 * k)).take k
      have hik : ∀ i : Fin es.length, i.1 * k + k ≤ xs.length := fun i => by
        have := Nat.mul_le_mul_right k (show i.1 + 1 ≤ es.length from i.2)
        rw [Nat.add_mul, Nat.one_mul] at this
        omega
      have hk : ∀ i, (enc i).length = k := fun i => by
        have := hik i
        simp only [enc, List.length_take, List.length_drop]; omega
      have h1 : ∀ i, ∀ v ∈ enc i, v.oneCell' = true := fun i v hv' => hone v (List.mem_of_mem_drop (List.mem_of_mem_take hv'))
      have hel2 : ∀ i : Fin es.length, RepL w ρ (fun f b => f = false ∧ Sx b) (fun _ => False) (lift false (toD es[i.1])) (enc i) := fun i => hel i.1 es[i.1] (by simp)
      let d : Array (Fin es.length) := Array.ofFn id
      have hds : d.size = es.length := by simp [d]
      have hbs : b < w.heap.size := (Array.getElem?_eq_some_iff.1 hh).1
      have hne : ∀ b', Sx b' → b' ≠ b := fun b' hb' e' => (hSx b' hb').2 (by rw [e']; rfl)
      have hxs : ∀ t, t < es.length * k → cur[t]? = some xs[t]! := fun t ht => by
        have : xs[t]? = some xs[t]! := by rw [getElem!_pos xs t (by omega)]; exact List.getElem?_eq_getElem _
        rw [← this, ← htk, List.getElem?_take, if_pos ht]; simp
      have hH : HoldsK enc k w b 0 d := by
        intro t ht
        rw [size_flatK, hds] at ht
        have hq : t / k < es.length := Nat.div_lt_of_lt_mul (by rw [Nat.mul_comm]; exact ht)
        have hm : t % k < k := Nat.mod_lt _ hk0
        rw [get_flatK _ _ _ t (by rw [hds]; exact ht)]
        have ed : d[t / k]! = ⟨t / k, hq⟩ := by rw [getElem!_pos d _ (by rw [hds]; exact hq)]; simp [d]
        have ee : (enc d[t / k]!)[t % k]! = xs[t]! := by
          rw [ed, getElem!_pos _ _ (by rw [hk]; exact hm), getElem!_pos xs t (by omega)]
          simp only [enc, List.getElem_take, List.getElem_drop]
          congr 1
          exact Nat.div_add_mod' t k
        rw [ee]
        refine ⟨?_, ?_⟩
        · simp only [World.cell?, hh]
          simpa using hxs t ht
        · simp [World.frozen?, hh]
      have hO : SWO (ltOf fun i j : Fin es.length => cf es[i.1] es[j.1]) :=
        ⟨fun i => by simpa [ltOf] using hirr _ (List.getElem_mem i.2), fun i j q h2 h3 => by
          simp only [ltOf, decide_eq_true_eq] at h2 h3 ⊢
          exact htr _ (List.getElem_mem i.2) _ (List.getElem_mem j.2) _ (List.getElem_mem q.2) h2 h3, fun i j q h2 h3 => by
          simp only [ltOf, decide_eq_false_iff_not] at h2 h3 ⊢
          exact hnt _ (List.getElem_mem i.2) _ (List.getElem_mem j.2) _ (List.getElem_mem q.2) h2 h3⟩
      have hcl : CmpLays P g #[] enc k (fun i j : Fin es.length => cf es[i.1] es[j.1]) b 0 d.size w := by
        intro m os dk hdk i j
        have hmv : ∀ i : Fin es.length, RepL (sortWorldK enc k w b 0 m dk os) ρ (fun f b => f = false ∧ Sx b) (fun _ => False) (lift false (toD es[i.1])) (enc i) := fun i =>
          RepL.gen (p := fun _ => false) (q := fun f => true) (fun f b' _ hb => hb) (fun f b' _ hb => sortW_other enc k w b 0 m dk os (hSx _ hb.2).1 (hne _ hb.2)) (fun _ h => by cases h) _ _ (allLs_lift _ _ _) (allQs_true _) (hel2 i)
        have := pf_call (S := Sx) (U := fun _ => False) (w := sortWorldK enc k w b 0 m dk os) (xs := [.agg (enc i).toArray, .agg (enc j).toArray]) (ρ := ρ) (hcmp _ (List.getElem_mem i.2) _ (List.getElem_mem j.2)) (by
          simp only [RepL, Rep]
          exact ⟨_, _, rfl, ⟨enc i, rfl, h1 i, hmv i⟩, _, _, rfl, ⟨enc j, rfl, h1 j, hmv j⟩, rfl⟩) (by simp [AV.allLs, AV.allL, allLs_lift]) (fun b' hb' => Nat.lt_of_lt_of_le (hSx b' hb').1 (sortW_far enc k w b 0 m dk os).size)
        simpa using this
      have hcall := AnyQ.slices_SortFunc L k aE zE enc hk h1 (fun i j : Fin es.length => cf es[i.1] es[j.1]) hO g #[] b 0 cap d w eg hcl hH hbs (by rw [hds]; exact hlt)
      rw [hds] at hcall
      refine hcall.mono ?_
      rintro e' w' ⟨rfl, d', n, os, hperm, hsort, rfl⟩
      have hd's : d'.size = es.length := by rw [hperm.1, hds]
      let ps : List (X × List Value) := d'.toList.map (fun i => (es[i.1], enc i))
      have hps1 : ps.map (·.1) = d'.toList.map (fun i => es[i.1]) := by simp [ps, Function.comp_def]
      have hps2 : ps.map (·.2) = d'.toList.map enc := by simp [ps, Function.comp_def]
      have hpl : ps.length = es.length := by simp [ps, hd's]
      have hp : (ps.map (·.1)).Perm es := by
        rw [hps1]
        have h2 := hperm.2.2
        rw [extract_all d' hd's, extract_all d hds] at h2
        have h3 := h2.map (fun i : Fin es.length => es[i.1])
        have h4 : d.toList.map (fun i : Fin es.length => es[i.1]) = es := by
          apply List.ext_getElem
          · simp [d]
          · intro t h5 h6; simp [d]
        rw [h4] at h3
        exact h3
      have hpw : (ps.map (·.1)).Pairwise (fun x y => ¬ cf y x < 0) := by
        rw [hps1, List.pairwise_iff_getElem]
        intro i j hi hj hij
        have hi' : i < d'.size := by simpa using hi
        have hj' : j < d'.size := by simpa using hj
        have h2 := hsort i j (Nat.zero_le _) hij (by omega)
        rw [getElem!_pos d' i hi', getElem!_pos d' j hj'] at h2
        simpa [ltOf] using h2
      have hflat : flatK enc k d' = (d'.toList.map enc).flatten.toArray := flatK_list hk0 hk d'
      have hFs : (flatK enc k d').size = es.length * k := by rw [size_flatK, hd's]
      have hcsz : (flatK enc k d').size ≤ cur.size := by rw [hFs, hcs]; exact Nat.mul_le_mul_right _ hcap
      have hput := put_take hcsz
      refine ⟨rfl, ps, hp, hpw, ?_, ?_, ?_⟩
      · intro p hp
        obtain ⟨i, _, rfl⟩ := List.mem_map.1 hp
        exact ⟨i.1, by simp, rfl⟩
      · have := sortW_far enc k w b 0 n d' os
        exact ⟨this.os, this.tape, this.output, this.size, fun b' hb' hne' => this.block b' hb' (fun e' => hne' (by rw [e']; rfl)), this.dr⟩
      · rw [hps2, hpl]
        have hsz2 : (d'.toList.map enc).flatten.length = es.length * k := by
          have := congrArg Array.size hflat
          rw [hFs] at this
          simpa using this.symm
        refine ⟨hsz2, .inr ⟨b, cap, _, rfl, Nat.zero_le _, sortW_blk enc k w b 0 n d' os hh, hcap, hmax, by rw [hput.1]; exact hcs, ?_⟩⟩
        rw [← hFs, hput.2, hflat]
theorem awps_sort {P : Program} {R : Ren} (L : SlLaysF0.n6 P R) {c : Ctx} {N : Nat} {Q : Exit → St → Prop} {o : Oper} {ops : Array Oper} {rest : List Oper} {x s y : Operand} {tys : Array TypeId} {T : List (Nat × AV)} {O : List (Nat × Ob)} {k : Nat} (hk0 : 0 < k) (ht : tfB P (R.t 24) true k = true) {sf g : FuncId} (hsf : R.f 6 = sf) (eg : Enters P g) (esf : Enters P sf)
    {e : TypeId} {l : Nat} {f : Bool} {X : Type} {toD : X → List D} {es : List X} {cf : X → X → Int}
    (hg : o.guard = none) (ho : o.op = .call { callee := .value x, args := #[s, y], argTypes := tys }) (hdN : ∀ d, o.dst = some d → d < N)
    (hx : ev T x = some (.fn sf [])) (hs : ev T s = some (.row l)) (hy : ev T y = some (.fn g [])) (hl : ok O l = some (.rowd e k f (es.map toD))) (hlt : es.length < 4611686018427387904)
    (hcmp : ∀ x ∈ es, ∀ y ∈ es, ACx true P g [.agg (lift false (toD x)), .agg (lift false (toD y))] [] (fun r O => r = .imm (.int .i64 (cf x y)) ∧ O = []))
    (hirr : ∀ x ∈ es, ¬ cf x x < 0) (htr : ∀ x ∈ es, ∀ y ∈ es, ∀ z ∈ es, cf x y < 0 → cf y z < 0 → cf x z < 0) (hnt : ∀ x ∈ es, ∀ y ∈ es, ∀ z ∈ es, ¬ cf x y < 0 → ¬ cf y z < 0 → ¬ cf x z < 0)
    (K : ∀ es' : List X, es'.Perm es → es'.Pairwise (fun x y => ¬ cf y x < 0) → awps P c N ops rest Q (St.put ⟨T, (l, .rowd e k f (es'.map toD)) :: O⟩ o.dst (.tup []))) : awps P c N ops (o :: rest) Q ⟨T, O⟩ := by
  obtain ⟨dt, it, u1, u2, u3, u4, _⟩ := tf_spec ht
  have aE : ∀ w, (isAgg (R.t 24)).run P w = .ok true w := fun w => by rw [isAgg_run u1, u3]
  have zE : ∀ w, (Go.sizeOf (R.t 24)).run P w = .ok k w := fun w => by simp [Go.sizeOf, typeInfo, u2, u4]
  refine awps_op hg ?_
  rintro a w ⟨ρ, S, hc⟩
  have h1 := ev_rep hc hx
  have h2 := ev_rep hc hs
  have h3 := ev_rep hc hy
  simp only [Rep, RepL] at h1 h2 h3
  obtain ⟨_, hxe, rfl⟩ := h1
  obtain ⟨_, hse, _⟩ := h2
  obtain ⟨_, hye, rfl⟩ := h3
  obtain ⟨hes, xs, how, hone, hrep⟩ := hc.O l _ hl
  rw [List.length_map] at how
  have hel0 : ∀ (i : Nat) (x : X), es[i]? = some x → RepL w ρ S (St.U ⟨T, O⟩) (lift f (toD x)) ((xs.drop (i * k)).take k) := fun i x hi => repL_elem hes hrep i (toD x) (by simp [hi])
  have hcore := sort_core L hk0 aE zE eg (toD := toD) (es := es) (cf := cf) (Sx := utS S false) (ρ := ρ) hlt how hone (fun i x hi => by
    have := RepL.ut _ _ (hel0 i x hi)
    rw [uts_lift] at this
    exact RepL.gen (p := fun _ => false) (q := fun f => !f) (fun f b hf hb => by
      have : f = false := by simpa using hf
      subst this; exact ⟨rfl, hb⟩) (fun _ _ _ _ => rfl) (fun _ h => by cases h) _ _ (allLs_lift _ _ _) (allQs_lift _ _ (by rfl) _) this) (fun b hb => by
    obtain ⟨_, hb⟩ := hb
    rcases hb with hb | hb
    · exact ⟨hc.Sb _ b hb, fun e' => hc.dS l _ b _ hl trivial e' hb⟩
    · exact ⟨hc.Sb _ b hb, fun e' => hc.dS l _ b _ hl trivial e' hb⟩) hcmp hirr htr hnt
  have hex : (execOp a.eval o).run P w = .ok (.enter sf #[ρ l, .func (.func g) #[] #[]]) w := by
    simp only [execOp, ho, resolve]
    simp [Sem.run_bind, hxe, hse, hye, Deferred.ofValue, invoke, esf _ _]
  unfold Oper.wp
  rw [hex]
  simp only [Oper.upon_enter]
  rw [hsf] at hcore
  refine Calls.mono hcore ?_
  rintro e' w' ⟨rfl, ps, hp, hpw, hpi, hfar, how'⟩
  simp only
  refine ⟨_, ?_, K (ps.map (·.1)) hp hpw⟩
  have hU2 : ∀ m, St.U ⟨T, O⟩ m → St.U ⟨T, (l, .rowd e k f ((ps.map (·.1)).map toD)) :: O⟩ m := fun m hm => U_cons m hm
  have hmv : ∀ vs zs, RepL w ρ S (St.U ⟨T, O⟩) vs zs → RepL w' ρ S (St.U ⟨T, (l, .rowd e k f ((ps.map (·.1)).map toD)) :: O⟩) vs zs := fun vs zs hz =>
    hz.mono (fun _ _ h => h) (fun g b hb' => hfar.block b (hc.Sb g b hb') (fun e' => hc.dS l _ b g hl trivial e' hb')) hU2 (fun _ _ => rfl)
  have hob : ObOk w' ρ S (St.U ⟨T, (l, .rowd e k f ((ps.map (·.1)).map toD)) :: O⟩) l (.rowd e k f ((ps.map (·.1)).map toD)) := by
    refine ⟨fun d hd => ?_, (ps.map (·.2)).flatten, by simpa using how', fun y hy => ?_, hmv _ _ ?_⟩
    · obtain ⟨x, hx, rfl⟩ := List.mem_map.1 hd
      exact hes _ (List.mem_map.2 ⟨x, hp.mem_iff.1 hx, rfl⟩)
    · obtain ⟨z, hz, hyz⟩ := List.mem_flatten.1 hy
      obtain ⟨p, hp1, rfl⟩ := List.mem_map.1 hz
      obtain ⟨i, _, h5⟩ := hpi p hp1
      rw [h5] at hyz
      exact hone y (List.mem_of_mem_drop (List.mem_of_mem_take hyz))
    · have : ∀ qs : List (X × List Value), (∀ p ∈ qs, ∃ i, es[i]? = some p.1 ∧ p.2 = (xs.drop (i * k)).take k) → RepL w ρ S (St.U ⟨T, O⟩) (lift f ((qs.map (·.1)).map toD).flatten) (qs.map (·.2)).flatten := by
        intro qs
        induction qs with
        | nil => intro _; simp [lift, RepL]
        | cons q qs ih =>
          intro hq
          obtain ⟨i, h5, h6⟩ := hq q (by simp)
          have h8 : lift f (((q :: qs).map (·.1)).map toD).flatten = lift f (toD q.1) ++ lift f ((qs.map (·.1)).map toD).flatten := by simp [lift]
          rw [h8, List.map_cons, List.flatten_cons, h6]
          exact (hel0 i q.1 h5).append (ih fun p hp => hq p (by simp [hp]))
      exact this ps hpi
  have hput := (hc.modOb hl trivial hfar hob).put (dst := o.dst) (v := .tup []) (x := .tuple #[]) hdN (by simp only [Rep, RepL]; exact ⟨[], rfl, rfl⟩)
  refine ⟨ρ, S, ?_⟩
  cases hd : o.dst with
  | none => rw [hd] at hput; exact hput
  | some d => rw [hd] at hput; exact hput
end Go.Proofs.YtdecgkhdbfgldaaGreat
