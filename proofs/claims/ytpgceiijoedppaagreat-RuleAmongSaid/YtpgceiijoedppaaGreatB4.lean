/- Part 4 of the proof: SymZb, Datd, SymZd, SymZe. -/
import Derived.Test.YtpgceiijoedppaaGreatB3
import Derived.Shelf.SlSortCmp.NoneTotal
set_option linter.unusedVariables false
set_option linter.unusedSimpArgs false
namespace Go.Proofs.YtpgceiijoedppaaGreat
open Go
section
variable {P : Program} {c : Ctx} {N : Nat} {Q : Exit → St → Prop} {σ : St} {o : Oper}
theorem Conc.clearArr {T : List (Nat × AV)} {O : List (Nat × Ob)} {a : Act} {w : World} {ρ : Nat → Value} {S : Bool → Nat → Prop} (hc : Conc c N ⟨T, O⟩ a w ρ S) {l k i m b' : Nat} {e : TypeId} {f : Bool} {es : List (Option (List D))} {nz : Nat} {xs us : List Value} (hl : ok O l = some (.arr e k f es)) (hb : ρ l = .slice (some ⟨b', 0, none⟩) m m)
    (h3 : ρ l = .slice (some ⟨b', 0, none⟩) es.length es.length) (h4 : w.heap[b']? = some (.cells xs.toArray e (0, 0))) (h5 : xs.length = es.length * k) (h6 : es.length ≤ maxLen) (h7 : ∀ (i : Nat) (d : List D), es[i]? = some (some d) → d.length = k ∧ RepL w ρ S (St.U ⟨T, O⟩) (lift f d) ((xs.drop (i * k)).take k) ∧ ∀ y ∈ (xs.drop (i * k)).take k, y.oneCell' = true)
    (hul : us.length = nz * k) (hfit : i + nz ≤ es.length) (hfit2 : i * k + us.length ≤ xs.length) {w' : World} (hw' : w' = w.setRow b' (qaz xs (i * k) us).toArray) :
    Conc c N ⟨T, (l, .arr e k f (qaz es i (List.replicate nz none))) :: O⟩ a w' ρ S := by
  subst hw'
  have hfar : Far (fun g => blk (ρ l) = some g) w (w.setRow b' (qaz xs (i * k) us).toArray) := by rw [hb]; exact far_setRow w b' _
  have hU2 : ∀ m, St.U ⟨T, O⟩ m → St.U ⟨T, (l, .arr e k f (qaz es i (List.replicate nz none))) :: O⟩ m := fun m hm => U_cons m hm
  have hmono : ∀ vs zs, RepL w ρ S (St.U ⟨T, O⟩) vs zs → RepL (w.setRow b' (qaz xs (i * k) us).toArray) ρ S (St.U ⟨T, (l, .arr e k f (qaz es i (List.replicate nz none))) :: O⟩) vs zs := fun vs zs hz =>
    hz.mono (fun _ _ h => h) (fun g b hb' => hfar.block b (hc.Sb g b hb') (fun e' => hc.dS l _ b g hl trivial e' hb')) hU2 (fun _ _ => rfl)
  have hlen2 : (qaz es i (List.replicate nz none)).length = es.length := qb2 (by simpa using hfit)
  have hob : ObOk (w.setRow b' (qaz xs (i * k) us).toArray) ρ S (St.U ⟨T, (l, .arr e k f (qaz es i (List.replicate nz none))) :: O⟩) l (.arr e k f (qaz es i (List.replicate nz none))) := by
    refine ⟨b', qaz xs (i * k) us, by rw [hlen2]; exact h3, setRow_heap w b' _ _ e _ h4, by rw [qb2 hfit2, hlen2]; exact h5, by rw [hlen2]; exact h6, fun j d hd => ?_⟩
    rw [qci (by simpa using hfit)] at hd
    have seg : ∀ (j0 : Nat), (∀ p, p < k → (qaz xs (i * k) us)[j * k + p]? = xs[j * k + p]?) → ((qaz xs (i * k) us).drop (j * k)).take k = (xs.drop (j * k)).take k := fun _ hp => by
      apply List.ext_getElem?
      intro p
      rw [List.getElem?_take, List.getElem?_take, List.getElem?_drop, List.getElem?_drop]
      split
      · rename_i h; exact hp p h
      · rfl
    by_cases c1 : j < i
    · rw [if_pos c1] at hd
      obtain ⟨g1, g2, g3⟩ := h7 j d hd
      have hjk : j * k + k ≤ i * k := by rw [← Nat.succ_mul]; exact Nat.mul_le_mul_right _ c1
      have e2 := seg 0 (fun p hp => by rw [qci hfit2, if_pos (by omega)])
      rw [e2]
      exact ⟨g1, hmono _ _ g2, g3⟩
    · rw [if_neg c1] at hd
      by_cases c2 : j < i + (List.replicate nz (none : Option (List D))).length
      · rw [if_pos c2, List.getElem?_replicate] at hd
        split at hd <;> cases hd
      · rw [if_neg c2] at hd
        simp only [List.length_replicate] at c2
        obtain ⟨g1, g2, g3⟩ := h7 j d hd
        have hjk : i * k + nz * k ≤ j * k := by rw [← Nat.add_mul]; exact Nat.mul_le_mul_right _ (by omega)
        have e2 := seg 0 (fun p hp => by rw [qci hfit2, if_neg (by omega), if_neg (by omega)])
        rw [e2]
        exact ⟨g1, hmono _ _ g2, g3⟩
  exact hc.modOb hl trivial hfar hob
theorem splice_one {α : Type} {es : List α} {i : Nat} {x : α} (h : i < es.length) : qaz es i [x] = es.set i x := by
  rw [qaz, List.set_eq_take_append_cons_drop, if_pos h]
  simp
theorem cellsLift {f : Bool} {v : AV} {vs : List AV} {d : List D} (h : v.cellsOf = some vs) (h2 : toDs f vs = some d) : vs = lift f d := toDs_lift h2
theorem qb6 {ops : Array Oper} {rest : List Oper} {x y : Operand} {t e : TypeId} {b f : Bool} {k l off n : Nat} {es : List (Option (List D))} {v : AV} {vs : List AV} {d : List D} {T : List (Nat × AV)} {O : List (Nat × Ob)} (i : Nat) (hg : o.guard = none) (ho : o.op = .store t x y) (hd : o.dst = none) (ht : tfB P t b n = true)
    (hx : ev T x = some (.ptr l off)) (hl : ok O l = some (.arr e k f es)) (hoff : off = i * k) (hi : i < es.length) (hy : ev T y = some v) (hv : v.cellsOf = some vs) (hvd : toDs f vs = some d) (hn : vs.length = n) (hk : n = k) (h0 : Nat.ble 1 n = true)
    (K : awps P c N ops rest Q ⟨T, (l, .arr e k f (es.set i (some d))) :: O⟩) : awps P c N ops (o :: rest) Q ⟨T, O⟩ := by
  refine qdx hg ?_
  rintro a w ⟨ρ, S, hc⟩
  have h0' := Nat.le_of_ble_eq_true h0
  subst hk
  obtain ⟨g, hgb, hx'⟩ := eval_ptr hc hx
  have hy' := qaF hc hy
  obtain ⟨us, hus, hu1, hur⟩ := rep_cellsOf hv hy'
  have hul := hur.length
  have hvl := cellsLift hv hvd
  have hdl : d.length = n := by rw [← hn, hvl]; simp [lift]
  obtain ⟨b', xs, h3, h4, h5, h6, h7⟩ := hc.O l _ hl
  have hb2 := h3
  rw [h3] at hgb; simp only [blk, Option.some.injEq] at hgb; subst hgb
  have hfit2 : i * n + us.length ≤ xs.length := by
    rw [h5, hul, hn, ← Nat.succ_mul]; exact Nat.mul_le_mul_right _ hi
  have hrun := qdS ht w b' off e (a.eval y) us xs hus hu1 (by omega) h4 (by rw [hoff]; omega)
  have hex : (execOp a.eval o).run P w = .ok .skip (w.setRow b' (qaz xs off us).toArray) := by
    simp only [execOp, ho, Instr.storeAt, hx', Instr.sureAddr]
    simp [Sem.run_bind, hrun]
  have hnew := hc.spliceArr (i := i) (ds := [d]) (us := us) hl hb2 h3 h4 h5 h6 h7 (by simp; omega) hu1 (by simp only [List.flatten_cons, List.flatten_nil, List.append_nil]; rw [← hvl]; exact hur) (by intro x hx; simp only [List.mem_singleton] at hx; rw [hx]; exact hdl) (by simp; omega) hfit2 rfl
  unfold Oper.wp
  rw [hex]
  simp only [Oper.upon_skip]
  have e1 : qaz es i ([d].map some) = es.set i (some d) := splice_one hi
  rw [e1] at hnew
  refine ⟨_, ?_, K⟩
  rw [hd, hoff]; exact ⟨ρ, S, hnew⟩
theorem awps_clear {ops : Array Oper} {rest : List Oper} {x : Operand} {t e : TypeId} {f : Bool} {k l off n q : Nat} {es : List (Option (List D))} {zs : List Value} {T : List (Nat × AV)} {O : List (Nat × Ob)} (i : Nat) (hg : o.guard = none) (ho : o.op = .call { callee := .builtin .clear, args := #[x], argTypes := #[t] }) (hd : o.dst = none) (ht : slB P t e k = true) (hz : zvB P e = some (some zs)) (h1z : (zs.all fun x => x.oneCell') = true) (hzl : zs.length = k)
    (hx : ev T x = some (.vw l off n q)) (hl : ok O l = some (.arr e k f es)) (hoff : 0 < n → off = i * k) (hfit : i + n ≤ es.length)
    (K : ∀ es', es'.length = es.length → (∀ j, j < i → es'[j]? = es[j]?) → awps P c N ops rest Q ⟨T, (l, .arr e k f es') :: O⟩) : awps P c N ops (o :: rest) Q ⟨T, O⟩ := by
  refine qdx hg ?_
  rintro a w ⟨ρ, S, hc⟩
  have h := qaF hc hx
  simp only [Rep] at h
  obtain ⟨hU, b, ⟨m, hb⟩, hx'⟩ := h
  obtain ⟨b', xs, h3, h4, h5, h6, h7⟩ := hc.O l _ hl
  have hb' := hb
  rw [h3] at hb'
  simp only [Value.slice.injEq, Option.some.injEq, Addr.mk.injEq] at hb'
  obtain ⟨⟨rfl, _⟩, _⟩ := hb'
  obtain ⟨it, h8, h9, h10⟩ := qcK ht
  obtain ⟨it', z, h11, h12, h13⟩ := zv_spec hz
  rw [h9] at h11; simp only [Option.some.injEq] at h11; subst h11
  rcases Nat.eq_zero_or_pos n with hn0 | hn0
  · subst hn0
    have hex : (execOp a.eval o).run P w = .ok (.value (.tuple #[])) w := by
      simp only [execOp, ho, resolve]
      simp [Sem.run_bind, invoke, builtin, hx', Builtin.clear_, run_underlying h8 w]
    unfold Oper.wp
    rw [hex]
    simp only [Oper.upon_value]
    refine ⟨⟨T, (l, .arr e k f es) :: O⟩, ?_, K es rfl (fun _ _ => rfl)⟩
    rw [hd]
    exact ⟨ρ, S, hc.modOb hl trivial (Far.refl _ _) ((hc.O l _ hl).mono (fun _ _ h => h) (fun _ _ _ => rfl) U_cons (fun _ _ => rfl) (by simp [St.U, hl]) (fun _ _ => rfl))⟩
  · have hoff' := hoff hn0
    have hzc : z.cells.size = k := by rw [← hzl, ← h13]; simp
    let us := (Builtin.zeroCells z.cells n).toList
    have hul : us.length = n * k := by rw [← hzc]; exact zeroCells_len _ _
    have hu1 : ∀ u ∈ us, u.oneCell' = true := fun u hu => by
      simp only [us, Builtin.zeroCells, Array.toList_map, List.mem_map] at hu
      obtain ⟨j, _, rfl⟩ := hu
      by_cases hk0 : z.cells.size = 0
      · rw [getElem!_neg z.cells _ (by rw [hk0]; omega)]; rfl
      · have hlt : j % z.cells.size < z.cells.size := Nat.mod_lt _ (by omega)
        rw [getElem!_pos z.cells _ hlt]
        have hmem : z.cells[j % z.cells.size] ∈ zs := by rw [← h13]; exact Array.mem_toList_iff.2 (Array.getElem_mem hlt)
        exact List.all_eq_true.1 h1z _ hmem
    have hfit2 : i * k + us.length ≤ xs.length := by rw [hul, h5, ← Nat.add_mul]; exact Nat.mul_le_mul_right _ hfit
    have hst := run_storeCells_at P b' (i * k) e us 0 xs.toArray w h4 (by simpa using hfit2) hu1
    simp only [Nat.add_zero] at hst
    have hst' : (storeCells ⟨b', i * k, none⟩ us).run P w = .ok () (w.setRow b' (qaz xs (i * k) us).toArray) := by
      simpa [qaz] using hst
    have hex : (execOp a.eval o).run P w = .ok (.value (.tuple #[])) (w.setRow b' (qaz xs (i * k) us).toArray) := by
      simp only [execOp, ho, resolve]
      subst hoff'
      obtain ⟨n', rfl⟩ : ∃ n', n = n' + 1 := ⟨n - 1, by omega⟩
      simp [Sem.run_bind, invoke, builtin, hx', Builtin.clear_, run_underlying h8 w, run_zero h9 h12, hst', us] at hst' ⊢
      first | done | (rw [hst']; rfl)
    have hnew := hc.clearArr (i := i) (nz := n) (us := us) hl hb h3 h4 h5 h6 h7 hul hfit hfit2 rfl
    unfold Oper.wp
    rw [hex]
    simp only [Oper.upon_value]
    refine ⟨_, ?_, K (qaz es i (List.replicate n none)) (qb2 (by simpa using hfit)) (fun j hj => by rw [qci (by simpa using hfit), if_pos hj])⟩
    rw [hd]; exact ⟨ρ, S, hnew⟩
theorem stp_load_rowdi {x : Operand} {t : TypeId} {l off n k : Nat} {b f : Bool} {e : TypeId} {es : List (List D)} {d : List D} {v : AV} (i j : Nat) (ho : o.op = .load t x) (ht : tfB P t b n = true) (hx : ev σ.T x = some (.ptr l off)) (hl : ok σ.O l = some (.rowd e k f es))
    (hoff : off = i * k + j) (hi : es[i]? = some d) (hn : Nat.ble (j + n) k = true) (h0 : Nat.ble 1 n = true) (hv : mkA b n ((lift f d).drop j |>.take n) = some v) : Stp P c N o σ [l] v [] := by
  have hn := Nat.le_of_ble_eq_true hn
  have h0 := Nat.le_of_ble_eq_true h0
  refine qaH fun σ' h1 h2 a w ρ S hc => ?_
  obtain ⟨g, hg, hx'⟩ := eval_ptr hc (h1 x (by simp [ho, Op.operands]) _ hx)
  obtain ⟨hes, xs, how, h1x, hr⟩ := hc.O l _ (h2 l (by simp) _ hl)
  obtain ⟨cap, cur, h5, h6, h7, h8, h9, h10, h11⟩ := row_cells how hg
  have hil : i < es.length := (List.getElem?_eq_some_iff.1 hi).1
  have hle : i * k + k ≤ es.length * k := by rw [← Nat.succ_mul]; exact Nat.mul_le_mul_right _ hil
  have e1 : (xs.drop off).take n = (((xs.drop (i * k)).take k).drop j).take n := by
    rw [List.drop_take, List.take_take, Nat.min_eq_left (by omega), List.drop_drop, hoff]
  refine ⟨mkV b ((xs.drop off).take n), ?_, ?_⟩
  · simp only [execOp, ho, hx', Instr.loadAt, Instr.sureAddr]
    have := qcE (P := P) ht w g off ((xs.drop off).take n) (by simp; omega) (fun j v hv => qcq how hg _ _ (take_get hv))
    simp [Sem.run_bind, this]
  · rw [e1]
    exact rep_mkA hv (fun y hy => h1x y (List.mem_of_mem_drop (List.mem_of_mem_take (List.mem_of_mem_drop (List.mem_of_mem_take hy))))) (((repL_elem hes hr i d hi).drop j).take n)
theorem flat_set {α : Type} {k : Nat} : ∀ (es : List (List α)) (i : Nat) (d : List α), (∀ x ∈ es, x.length = k) → d.length = k → i < es.length → (es.set i d).flatten = qaz es.flatten (i * k) d
  | [], i, d, _, _, h => by simp at h
  | e :: es, 0, d, h, hd, _ => by
    have he : e.length = k := h e (by simp)
    simp only [List.set_cons_zero, List.flatten_cons, qaz, Nat.zero_mul, List.take_zero, List.nil_append, Nat.zero_add]
    rw [List.drop_append, hd, he, Nat.sub_self, List.drop_zero, List.drop_of_length_le (by omega), List.nil_append]
  | e :: es, i + 1, d, h, hd, hi => by
    have he : e.length = k := h e (by simp)
    have ih := flat_set es i d (fun x hx => h x (by simp [hx])) hd (by simpa using hi)
    simp only [List.set_cons_succ, List.flatten_cons, ih, qaz]
    have e1 : (i + 1) * k = e.length + i * k := by rw [Nat.succ_mul, he]; omega
    have e2 : e.length + i * k + d.length = e.length + (i * k + d.length) := by omega
    rw [e1, List.take_length_add_append, e2, List.drop_length_add_append]
    simp [List.append_assoc]
theorem awps_storeRowd {ops : Array Oper} {rest : List Oper} {x y : Operand} {t e : TypeId} {b f : Bool} {k l off n : Nat} {es : List (List D)} {v : AV} {vs : List AV} {d : List D} {T : List (Nat × AV)} {O : List (Nat × Ob)} (i : Nat) (hg : o.guard = none) (ho : o.op = .store t x y) (hd : o.dst = none) (ht : tfB P t b n = true)
    (hx : ev T x = some (.ptr l off)) (hl : ok O l = some (.rowd e k f es)) (hoff : off = i * k) (hi : i < es.length) (hy : ev T y = some v) (hv : v.cellsOf = some vs) (hvd : toDs f vs = some d) (hn : vs.length = n) (hk : n = k) (h0 : Nat.ble 1 n = true)
    (K : awps P c N ops rest Q ⟨T, (l, .rowd e k f (es.set i d)) :: O⟩) : awps P c N ops (o :: rest) Q ⟨T, O⟩ := by
  refine qdx hg ?_
  rintro a w ⟨ρ, S, hc⟩
  have h0' := Nat.le_of_ble_eq_true h0
  subst hk
  subst hoff
  obtain ⟨g, hgb, hx'⟩ := eval_ptr hc hx
  have hy' := qaF hc hy
  obtain ⟨us, hus, hu1, hur⟩ := rep_cellsOf hv hy'
  have hul := hur.length
  have hvl := cellsLift hv hvd
  have hdl : d.length = n := by rw [← hn, hvl]; simp [lift]
  obtain ⟨hes, xs, how, h1, hr⟩ := hc.O l _ hl
  obtain ⟨cap, cur, h5, h6, h7, h8, h9, h10, h11⟩ := row_cells how hgb
  have h6' : w.heap[g]? = some (.cells cur.toList.toArray e (0, 0)) := by simpa using h6
  have hcl : cur.toList.length = cap * n := by simpa using h9
  have hmk : es.length * n ≤ cap * n := Nat.mul_le_mul_right n h7
  have hik : i * n + n ≤ es.length * n := by rw [← Nat.succ_mul]; exact Nat.mul_le_mul_right _ hi
  have hf : Far (fun b => blk (ρ l) = some b) w (w.setRow g (qaz cur.toList (i * n) us).toArray) := by
    rw [h5]; exact far_setRow w g _
  have hrun := qdS ht w g (i * n) e (a.eval y) us cur.toList hus hu1 (by omega) h6' (by omega)
  have hex : (execOp a.eval o).run P w = .ok .skip (w.setRow g (qaz cur.toList (i * n) us).toArray) := by
    simp only [execOp, ho, Instr.storeAt, hx', Instr.sureAddr]
    simp [Sem.run_bind, hrun]
  have hrU : ∀ vs zs, RepL w ρ S (St.U ⟨T, O⟩) vs zs → RepL (w.setRow g (qaz cur.toList (i * n) us).toArray) ρ S (St.U ⟨T, (l, .rowd e n f (es.set i d)) :: O⟩) vs zs := fun vs zs h =>
    h.mono (fun _ _ h => h) (fun f b hb => hf.block b (hc.Sb f b hb) (fun e => hc.dS l _ b f hl trivial e hb)) U_cons (fun _ _ => rfl)
  have hnew := hc.modOb hl trivial hf (ob' := .rowd e n f (es.set i d)) (by
    refine ⟨fun x hx => ?_, qaz xs (i * n) us, ⟨?_, .inr ⟨g, cap, (qaz cur.toList (i * n) us).toArray, by rw [List.length_set]; exact h5, Nat.zero_le _, setRow_heap w g _ _ e _ h6', by simpa using h7, h8, ?_, ?_⟩⟩, ?_, ?_⟩
    · rcases List.mem_or_eq_of_mem_set hx with h | h
      · exact hes x h
      · rw [h]; exact hdl
    · rw [qb2 (by omega), List.length_set]; exact h11
    · simp only [List.size_toArray]; rw [qb2 (by omega)]; exact hcl
    · simp only [List.length_set]
      rw [splice_take (by omega) (by omega), h10]
    · intro y hy
      simp only [qaz, List.mem_append] at hy
      rcases hy with (hy | hy) | hy
      · exact h1 y (List.mem_of_mem_take hy)
      · exact hu1 y hy
      · exact h1 y (List.mem_of_mem_drop hy)
    · refine hrU _ _ ?_
      rw [flat_set es i d hes hdl hi]
      have e1 : lift f (qaz es.flatten (i * n) d) = (lift f es.flatten).take (i * n) ++ vs ++ (lift f es.flatten).drop (i * n + us.length) := by
        rw [hul, hn, hvl]; simp [qaz, lift, hdl]
      rw [e1, qaz]
      exact ((hr.take (i * n)).append hur).append (hr.drop _))
  unfold Oper.wp
  rw [hex]
  simp only [Oper.upon_skip]
  refine ⟨_, ?_, K⟩
  rw [hd]; exact ⟨ρ, S, hnew⟩
theorem qcN {x y : Code} (mid : St) (h1 : awp P c N x (thenQ (fun σ' => Sub c N σ' mid) Q) σ) (h2 : awp P c N y Q mid) : awp P c N (.seq x y) Q σ :=
  qd (awp_mono (fun e σ' h => by
    cases e with
    | normal => exact qd3 h h2
    | _ => exact h) h1)
theorem qai {mid : St} (h : Sub c N σ mid) : thenQ (fun σ' => Sub c N σ' mid) Q .normal σ := h
end
end Go.Proofs.YtpgceiijoedppaaGreat

namespace Go.Proofs.YtpgceiijoedppaaGreat
open Go
structure Pt where
  kind : Int
  t : Tm
  rel : Int
  l : List Pt
  r : List Pt
  c : List Pt
mutual
def ptD0 : Pt → List D
  | ⟨k, t, rel, l, r, c⟩ => .imm (.int .i64 k) :: (tmD t ++ [.imm (.int .i64 rel), .sl 9 (ptDs l), .sl 9 (ptDs r), .sl 9 (ptDs c)])
def ptDs : List Pt → List (List D)
  | [] => []
  | t :: ts => ptD0 t :: ptDs ts
end
def ptD (p : Pt) : List D := .imm (.int .i64 p.kind) :: (tmD p.t ++ [.imm (.int .i64 p.rel), .sl 9 (ptDs p.l), .sl 9 (ptDs p.r), .sl 9 (ptDs p.c)])
theorem ptD0_eq (t : Pt) : ptD0 t = ptD t := by cases t; simp only [ptD0, ptD]
theorem ptDs_map : ∀ ts : List Pt, ptDs ts = ts.map ptD
  | [] => by simp only [ptDs, List.map_nil]
  | t :: ts => by simp only [ptDs, List.map_cons, ptD0_eq, ptDs_map ts]
theorem qaW (ts : List Pt) : (ptDs ts).length = ts.length := by simp [ptDs_map]
theorem qbN {ts : List Pt} {i : Nat} {t : Pt} (h : ts[i]? = some t) : (ptDs ts)[i]? = some (ptD t) := by simp [ptDs_map, h]
theorem ptD_length (t : Pt) : (ptD t).length = 9 := rfl
theorem ptDs_len9 (l : List Pt) : ∀ d ∈ ptDs l, d.length = 9 := fun d hd => by
  rw [ptDs_map] at hd; obtain ⟨t, _, rfl⟩ := List.mem_map.1 hd; rfl
abbrev ptA (f : Bool) (t : Pt) : AV := .agg (lift f (ptD t))
mutual
/-- What can be read az a pattern. -/
def Pt.wf0 : Pt → Prop
  | ⟨k, t, rel, l, r, c⟩ => i64 k ∧ t.wf ∧ i64 rel ∧ (qba l ∧ Pt.wfs l) ∧ (qba r ∧ Pt.wfs r) ∧ (qba c ∧ Pt.wfs c)
def Pt.wfs : List Pt → Prop
  | [] => True
  | t :: ts => t.wf0 ∧ Pt.wfs ts
end
def Pt.wf (p : Pt) : Prop := i64 p.kind ∧ p.t.wf ∧ i64 p.rel ∧ (qba p.l ∧ Pt.wfs p.l) ∧ (qba p.r ∧ Pt.wfs p.r) ∧ (qba p.c ∧ Pt.wfs p.c)
theorem Pt.wf0_iff (t : Pt) : t.wf0 ↔ t.wf := by cases t; simp only [Pt.wf0, Pt.wf]
theorem Pt.wfs_iff : ∀ {ts : List Pt}, Pt.wfs ts ↔ ∀ t ∈ ts, t.wf
  | [] => by simp [Pt.wfs]
  | t :: ts => by
    rw [Pt.wfs, Pt.wf0_iff, Pt.wfs_iff]
    simp
structure Mt where
  b : List Bd
  fr : Int
  to : Int
  u : List Int
def Mt.wf (m : Mt) : Prop := (qba m.b ∧ ∀ b ∈ m.b, b.wf) ∧ (i64 m.fr ∧ i64 m.to) ∧ (qba m.u ∧ ∀ n ∈ m.u, i64 n)
def mtD (m : Mt) : List D := [.sl 5 (bdDs m.b), .imm (.int .i64 m.fr), .imm (.int .i64 m.to), .sl 1 (inDs m.u)]
def mtDs (l : List Mt) : List (List D) := l.map mtD
theorem qau (l : List Mt) : (mtDs l).length = l.length := by simp [mtDs]
theorem qa9 {l : List Mt} {i : Nat} {b : Mt} (h : l[i]? = some b) : (mtDs l)[i]? = some (mtD b) := by simp [mtDs, h]
theorem mtDs_snoc (l : List Mt) (m : Mt) : mtDs (l ++ [m]) = mtDs l ++ [mtD m] := by simp [mtDs]
abbrev mtA (m : Mt) : AV := .agg (lift false (mtD m))
structure Rl where
  head : Tm
  body : Pt
  g : List Gd
  within : Int
  policy : Int
def Rl.wf (r : Rl) : Prop := r.head.wf ∧ r.body.wf ∧ (qba r.g ∧ ∀ g ∈ r.g, g.wf) ∧ i64 r.within ∧ i64 r.policy
def rlD (r : Rl) : List D := tmD r.head ++ (ptD r.body ++ [.sl 9 (gdDs r.g), .imm (.int .i64 r.within), .imm (.int .i64 r.policy)])
def rlDs (l : List Rl) : List (List D) := l.map rlD
theorem rlDs_length (l : List Rl) : (rlDs l).length = l.length := by simp [rlDs]
theorem rlDs_get {l : List Rl} {i : Nat} {b : Rl} (h : l[i]? = some b) : (rlDs l)[i]? = some (rlD b) := by simp [rlDs, h]
abbrev rlA (r : Rl) : AV := .agg (lift false (rlD r))
structure Ask13 where
  L : List Kp
  X : List Pt
  N : Int
  M : List Mt
def Ask13.wf (p : Ask13) : Prop := (qba p.L ∧ ∀ k ∈ p.L, k.wf) ∧ (qba p.X ∧ Pt.wfs p.X) ∧ i64 p.N ∧ (qba p.M ∧ ∀ m ∈ p.M, m.wf)
def a13D (p : Ask13) : List D := [.sl 7 (kpDs p.L), .sl 9 (ptDs p.X), .imm (.int .i64 p.N), .sl 4 (mtDs p.M)]
structure Ask14 where
  M : Ask13
  K : List Tm
  R : List Rl
  G : List Int
def Ask14.wf (p : Ask14) : Prop := p.M.wf ∧ (qba p.K ∧ Tm.wfs p.K) ∧ (qba p.R ∧ ∀ r ∈ p.R, r.wf) ∧ (qba p.G ∧ ∀ n ∈ p.G, i64 n)
def a14D (p : Ask14) : List D := a13D p.M ++ [.sl 4 (tmDs p.K), .sl 16 (rlDs p.R), .sl 1 (inDs p.G)]
end Go.Proofs.YtpgceiijoedppaaGreat

namespace Go.Proofs.YtpgceiijoedppaaGreat
open Go Go.Sort Go.Lib
theorem far_grow {w w' : World} (h : Far0 (fun _ => False) w w') (hd : w.drawn ≤ w'.drawn) : ∃ q os', w' = grow (w.drewN q) os' := by
  refine ⟨w'.drawn - w.drawn, w'.heap.extract w.heap.size w'.heap.size, ?_⟩
  have hh : w'.heap = w.heap ++ w'.heap.extract w.heap.size w'.heap.size := by
    apply Array.ext_getElem?
    intro i
    by_cases hi : i < w.heap.size
    · rw [Array.getElem?_append_left hi]; exact h.block i hi (fun h => h)
    · have h1 := h.size
      rw [Array.getElem?_append_right (by omega)]
      simp only [Array.getElem?_extract]
      by_cases h2 : i < w'.heap.size
      · rw [if_pos (by omega), show w.heap.size + (i - w.heap.size) = i by omega]
      · rw [if_neg (by omega), Array.getElem?_eq_none (by omega)]
  have e : w.drawn + (w'.drawn - w.drawn) = w'.drawn := by omega
  cases w; cases w'
  simp only [grow, World.drewN] at *
  obtain ⟨h1, h2, h3, _, _⟩ := h
  simp only at h1 h2 h3 hh e
  subst h1; subst h2; subst h3
  rw [e]
  exact congrArg (fun hp => World.mk hp _ _ _ _) hh
theorem pf_call {P : Program} {g : FuncId} {args : List AV} {u : Value} (h : ACx true P g args [] (fun r O => r = .imm u ∧ O = [])) {w : World} {xs : List Value} {ρ : Nat → Value} {S : Nat → Prop} {U : Nat → Prop}
    (hargs : RepL w ρ (fun f b => f = false ∧ S b) U args xs) (hall : AV.allLs (fun _ => false) args = true) (hS : ∀ b, S b → b < w.heap.size) :
    Calls P g xs.toArray w fun e w' => e = .returned u ∧ ∃ q os', w' = grow (w.drewN q) os' := by
  let cc : Ctx := ⟨w, fun _ => False, S, ρ, fun l => inD [] l = true, fun _ => False, True, fun _ => False⟩
  have hall2 : RepL w ρ (fun f b => f = false ∧ S b) (St.U ⟨argT 0 args, []⟩) args xs :=
    RepL.gen (p := fun _ => false) (q := fun _ => true) (fun _ _ _ h => h) (fun _ _ _ _ => rfl) (fun _ h => by cases h) _ _ hall (qcG _) hargs
  have hent : Conc cc args.length ⟨argT 0 args, []⟩ ⟨xs.toArray, []⟩ w ρ (fun f b => f = false ∧ S b) := by
    refine ⟨by have := hall2.length; simpa using this, rfl, fun t v ht => ?_, fun l ob' hl => by simp [ok] at hl, fun l l' ob ob' b h1 => by simp [ok] at h1, fun l ob b f h1 => by simp [ok] at h1, fun l ob b h1 => by simp [ok] at h1, fun l ob b h1 => by simp [ok] at h1, fun b h => (by cases h.1.1), fun f b h => hS b h.2, fun b h => (by cases h.1), fun b h => .inl h.2, fun l hl => by simp [cc, inD, ok] at hl, Fm.start (c := cc) (fun _ h => h.elim) (fun _ h => h.elim) (fun b h => (by cases h.1))⟩
    obtain ⟨j, h1, y, hy, hv⟩ := lk_argT 0 hall2 t v ht
    have : xs.toArray.getD t undef = y := by
      rw [Array.getD_eq_getD_getElem?]
      simp only [List.getElem?_toArray]
      rw [h1, Nat.zero_add, hy]; rfl
    simp only
    rw [this]; exact hv
  refine (h cc w xs ρ _ rfl (fun l => Iff.rfl) ⟨fun b h => (by cases h.1), fun b h => h⟩ ⟨⟨fun _ => rfl⟩⟩ hent).mono ?_
  rintro e w' ⟨y, r, O', rfl, ⟨rfl, rfl⟩, ρ', S', hc⟩
  have hy := hc.T 0 (.imm u) rfl
  simp only [Rep] at hy
  have hy2 : y = u := hy
  exact ⟨by rw [hy2], far_grow hc.fm.toFar0 (hc.fm.dr trivial)⟩
end Go.Proofs.YtpgceiijoedppaaGreat

namespace Go.Proofs.YtpgceiijoedppaaGreat
open Go Go.Sort Go.Lib Go.Shelf
section
variable {α : Type} [Inhabited α] (enc : α → List Value) (k : Nat) (w : World) (blk off m : Nat) (dk : Array α) (os : Array Obj)
theorem sortW_other {b : Nat} (hb : b < w.heap.size) (hne : b ≠ blk) : (sortWorldK enc k w blk off m dk os).heap[b]? = w.heap[b]? := by
  simp only [sortWorldK, grow, putRowK, putRow, mapBlock, Go.Sort.ahead]
  rw [Array.getElem?_append_left (by simpa using hb), Array.getElem?_modify, if_neg (fun e => hne e.symm)]
theorem sortW_blk {cur : Array Value} {ty : TypeId} {fr : Nat × Nat} (h : w.heap[blk]? = some (.cells cur ty fr)) : (sortWorldK enc k w blk off m dk os).heap[blk]? = some (.cells (putCells id off (flatK enc k dk) cur) ty fr) := by
  have hb : blk < w.heap.size := (Array.getElem?_eq_some_iff.1 h).1
  simp only [sortWorldK, grow, putRowK, putRow, mapBlock, Go.Sort.ahead]
  rw [Array.getElem?_append_left (by simpa using hb), Array.getElem?_modify, if_pos rfl, h]
  rfl
theorem sortW_far : Far (fun b => b = blk) w (sortWorldK enc k w blk off m dk os) :=
  ⟨rfl, rfl, rfl, by simp [sortWorldK, grow, putRowK, putRow, mapBlock, Go.Sort.ahead], fun b hb hne => sortW_other enc k w blk off m dk os hb hne, by simp [sortWorldK, grow, putRowK, putRow, mapBlock, Go.Sort.ahead]⟩
end
theorem flat_get {β : Type} {k : Nat} (hk : 0 < k) : ∀ {L : List (List β)}, (∀ x ∈ L, x.length = k) → ∀ t : Nat, L.flatten[t]? = (L[t / k]?).bind (·[t % k]?)
  | [], _, t => by simp
  | x :: L, h, t => by
    have hx : x.length = k := h x (by simp)
    rw [List.flatten_cons]
    by_cases ht : t < k
    · rw [List.getElem?_append_left (by omega), Nat.div_eq_of_lt ht, Nat.mod_eq_of_lt ht]; rfl
    · obtain ⟨t', rfl⟩ : ∃ t', t = t' + k := ⟨t - k, by omega⟩
      rw [List.getElem?_append_right (by omega), hx, Nat.add_sub_cancel, flat_get hk (fun y hy => h y (by simp [hy])) t', Nat.add_div_right _ hk, Nat.add_mod_right]; rfl
theorem flatK_list {α : Type} [Inhabited α] {enc : α → List Value} {k : Nat} (h0 : 0 < k) (hk : ∀ x, (enc x).length = k) (d : Array α) : flatK enc k d = (d.toList.map enc).flatten.toArray := by
  have hlen : ∀ (L : List α), (L.map enc).flatten.length = L.length * k := by
    intro L
    induction L with
    | nil => simp
    | cons a L ih => rw [List.map_cons, List.flatten_cons, List.length_append, ih, hk, List.length_cons, Nat.add_mul, Nat.one_mul, Nat.add_comm]
  refine ext_get! (by simp only [size_flatK, List.size_toArray]; rw [hlen]; simp) fun t ht => ?_
  have ht' : t < d.size * k := by simpa using ht
  have hd : t / k < d.size := Nat.div_lt_of_lt_mul (by rw [Nat.mul_comm]; exact ht')
  have hm : t % k < k := Nat.mod_lt _ h0
  rw [get_flatK _ _ _ t ht']
  have hg := flat_get h0 (L := d.toList.map enc) (by intro x hx; obtain ⟨y, _, rfl⟩ := List.mem_map.1 hx; exact hk y) t
  have e1 : (d.toList.map enc)[t / k]? = some (enc d[t / k]) := by simp [hd]
  rw [e1] at hg
  have e2 : (enc d[t / k])[t % k]? = some ((enc d[t / k])[t % k]'(by rw [hk]; exact hm)) := List.getElem?_eq_getElem _
  simp only [Option.bind_some] at hg
  rw [e2] at hg
  rw [getElem!_pos d _ hd, getElem!_pos (enc d[t / k]) _ (by rw [hk]; exact hm)]
  have hlt : t < (d.toList.map enc).flatten.length := (List.getElem?_eq_some_iff.1 hg).1
  have e3 := (List.getElem?_eq_some_iff.1 hg).2
  rw [getElem!_pos _ t (by simpa using hlt)]
  simpa using e3.symm
theorem put_take {F cur : Array Value} (h : F.size ≤ cur.size) : (putCells id 0 F cur).size = cur.size ∧ (putCells id 0 F cur).toList.take F.size = F.toList := by
  refine ⟨by simp [putCells], ?_⟩
  apply List.ext_getElem?
  intro t
  rw [List.getElem?_take]
  by_cases ht : t < F.size
  · have hc : t < cur.size := by omega
    rw [if_pos ht]
    simp [putCells, ht, hc]
  · rw [if_neg ht, List.getElem?_eq_none (by simpa using ht)]
theorem extract_all {β : Type} (A : Array β) {n : Nat} (h : A.size = n) : A.extract 0 n = A := by subst h; simp
theorem sort_core {P : Program} {R : Ren} (L : SlLaysF0.n6 P R) {k : Nat} (hk0 : 0 < k) (aE : ∀ w, (isAgg (R.t 24)).run P w = .ok true w) (zE : ∀ w, (Go.sizeOf (R.t 24)).run P w = .ok k w) {g : FuncId} (eg : ∀ args w, (callFunc g args).run P w = .ok (.enter g args) w)
    {e : TypeId} {X : Type} {toD : X → List D} {es : List X} {cf : X → X → Int} {w : World} {v : Value} {xs : List Value} {Sx : Nat → Prop} {ρ : Nat → Value}
    (hlt : es.length < 4611686018427387904) (how : w.ownsRow 0 e k v es.length xs) (hone : ∀ y ∈ xs, y.oneCell' = true)
    (hel : ∀ (i : Nat) (x : X), es[i]? = some x → RepL w ρ (fun f b => f = false ∧ Sx b) (fun _ => False) (lift false (toD x)) ((xs.drop (i * k)).take k))
    (hSx : ∀ b, Sx b → b < w.heap.size ∧ blk v ≠ some b)
    (hcmp : ∀ x ∈ es, ∀ y ∈ es, ACx true P g [.agg (lift false (toD x)), .agg (lift false (toD y))] [] (fun r O => r = .imm (.int .i64 (cf x y)) ∧ O = []))
    (hirr : ∀ x ∈ es, ¬ cf x x < 0) (htr : ∀ x ∈ es, ∀ y ∈ es, ∀ z ∈ es, cf x y < 0 → cf y z < 0 → cf x z < 0) (hnt : ∀ x ∈ es, ∀ y ∈ es, ∀ z ∈ es, ¬ cf x y < 0 → ¬ cf y z < 0 → ¬ cf x z < 0) :
    Calls P (R.f 6) #[v, .func (.func g) #[] #[]] w fun e' w' => e' = .returned (.tuple #[]) ∧ ∃ ps : List (X × List Value), (ps.map (·.1)).Perm es ∧ (ps.map (·.1)).Pairwise (fun x y => ¬ cf y x < 0) ∧ (∀ p ∈ ps, ∃ i, es[i]? = some p.1 ∧ p.2 = (xs.drop (i * k)).take k) ∧ Far (fun b => blk v = some b) w w' ∧ w'.ownsRow 0 e k v ps.length (ps.map (·.2)).flatten := by
  rcases Nat.eq_zero_or_pos es.length with hz | hpos
  · have hnil : es = [] := List.eq_nil_of_length_eq_zero hz
    obtain ⟨A, cc, hv⟩ := owns_slice how
    rw [hz] at hv
    subst hv
    have hcall := AnyF.slices_SortFunc_none L A cc (.func (.func g) #[] #[]) w
    refine hcall.mono ?_
    rintro e' w' ⟨rfl, rfl⟩
    subst hnil
    refine ⟨rfl, [], .refl _, List.Pairwise.nil, by simp, Far.refl _ _, ?_⟩
    have hx : xs = [] := List.eq_nil_of_length_eq_zero (by have := how.1; simpa using this)
    rw [hx] at how
    exact how
  · rcases how.2 with ⟨_, hn⟩ | ⟨b, cap, cur, hv, _, hh, hcap, hmax, hcs, htk⟩
    · omega
    · subst hv
      have hlen : xs.length = es.length * k := how.1
      haveI : Inhabited (Fin es.length) := ⟨⟨0, hpos⟩⟩
      let enc : Fin es.length → List Value := fun i => (xs.drop (i.1 * k)).take k
      have hik : ∀ i : Fin es.length, i.1 * k + k ≤ xs.length := fun i => by
        have := Nat.mul_le_mul_right k (show i.1 + 1 ≤ es.length from i.2)
        rw [Nat.add_mul, Nat.one_mul] at this
        omega
      have hk : ∀ i, (enc i).length = k := fun i => by
        have := hik i
        simp only [enc, List.length_take, List.length_drop]; omega
      have h1 : ∀ i, ∀ v ∈ enc i, v.oneCell' = true := fun i v hv' => hone v (List.mem_of_mem_drop (List.mem_of_mem_take hv'))
      have hel2 : ∀ i : Fin es.length, RepL w ρ (fun f b => f = false ∧ Sx b) (fun _ => False) (lift false (toD es[i.1])) (enc i) := fun i => hel i.1 es[i.1] (by simp)
      let d : Array (Fin es.length) := Array.ofFn id
      have hds : d.size = es.length := by simp [d]
      have hbs : b < w.heap.size := (Array.getElem?_eq_some_iff.1 hh).1
      have hne : ∀ b', Sx b' → b' ≠ b := fun b' hb' e' => (hSx b' hb').2 (by rw [e']; rfl)
      have hxs : ∀ t, t < es.length * k → cur[t]? = some xs[t]! := fun t ht => by
        have : xs[t]? = some xs[t]! := by rw [getElem!_pos xs t (by omega)]; exact List.getElem?_eq_getElem _
        rw [← this, ← htk, List.getElem?_take, if_pos ht]; simp
      have hH : HoldsK enc k w b 0 d := by
        intro t ht
        rw [size_flatK, hds] at ht
        have hq : t / k < es.length := Nat.div_lt_of_lt_mul (by rw [Nat.mul_comm]; exact ht)
        have hm : t % k < k := Nat.mod_lt _ hk0
        rw [get_flatK _ _ _ t (by rw [hds]; exact ht)]
        have ed : d[t / k]! = ⟨t / k, hq⟩ := by rw [getElem!_pos d _ (by rw [hds]; exact hq)]; simp [d]
        have ee : (enc d[t / k]!)[t % k]! = xs[t]! := by
          rw [ed, getElem!_pos _ _ (by rw [hk]; exact hm), getElem!_pos xs t (by omega)]
          simp only [enc, List.getElem_take, List.getElem_drop]
          congr 1
          exact Nat.div_add_mod' t k
        rw [ee]
        refine ⟨?_, ?_⟩
        · simp only [World.cell?, hh]
          simpa using hxs t ht
        · simp [World.frozen?, hh]
      have hO : SWO (ltOf fun i j : Fin es.length => cf es[i.1] es[j.1]) :=
        ⟨fun i => by simpa [ltOf] using hirr _ (List.getElem_mem i.2), fun i j q h2 h3 => by
          simp only [ltOf, decide_eq_true_eq] at h2 h3 ⊢
          exact htr _ (List.getElem_mem i.2) _ (List.getElem_mem j.2) _ (List.getElem_mem q.2) h2 h3, fun i j q h2 h3 => by
          simp only [ltOf, decide_eq_false_iff_not] at h2 h3 ⊢
          exact hnt _ (List.getElem_mem i.2) _ (List.getElem_mem j.2) _ (List.getElem_mem q.2) h2 h3⟩
      have hcl : CmpLays P g #[] enc k (fun i j : Fin es.length => cf es[i.1] es[j.1]) b 0 d.size w := by
        intro m os dk hdk i j
        have hmv : ∀ i : Fin es.length, RepL (sortWorldK enc k w b 0 m dk os) ρ (fun f b => f = false ∧ Sx b) (fun _ => False) (lift false (toD es[i.1])) (enc i) := fun i =>
          RepL.gen (p := fun _ => false) (q := fun f => true) (fun f b' _ hb => hb) (fun f b' _ hb => sortW_other enc k w b 0 m dk os (hSx _ hb.2).1 (hne _ hb.2)) (fun _ h => by cases h) _ _ (qbW _ _ _) (qcG _) (hel2 i)
        have := pf_call (S := Sx) (U := fun _ => False) (w := sortWorldK enc k w b 0 m dk os) (xs := [.agg (enc i).toArray, .agg (enc j).toArray]) (ρ := ρ) (hcmp _ (List.getElem_mem i.2) _ (List.getElem_mem j.2)) (by
          simp only [RepL, Rep]
          exact ⟨_, _, rfl, ⟨enc i, rfl, h1 i, hmv i⟩, _, _, rfl, ⟨enc j, rfl, h1 j, hmv j⟩, rfl⟩) (by simp [AV.allLs, AV.allL, qbW]) (fun b' hb' => Nat.lt_of_lt_of_le (hSx b' hb').1 (sortW_far enc k w b 0 m dk os).size)
        simpa using this
      have hcall := AnyQ.slices_SortFunc L k aE zE enc hk h1 (fun i j : Fin es.length => cf es[i.1] es[j.1]) hO g #[] b 0 cap d w eg hcl hH hbs (by rw [hds]; exact hlt)
      rw [hds] at hcall
      refine hcall.mono ?_
      rintro e' w' ⟨rfl, d', n, os, hperm, hsort, rfl⟩
      have hd's : d'.size = es.length := by rw [hperm.1, hds]
      let ps : List (X × List Value) := d'.toList.map (fun i => (es[i.1], enc i))
      have hps1 : ps.map (·.1) = d'.toList.map (fun i => es[i.1]) := by simp [ps, Function.comp_def]
      have hps2 : ps.map (·.2) = d'.toList.map enc := by simp [ps, Function.comp_def]
      have hpl : ps.length = es.length := by simp [ps, hd's]
      have hp : (ps.map (·.1)).Perm es := by
        rw [hps1]
        have h2 := hperm.2.2
        rw [extract_all d' hd's, extract_all d hds] at h2
        have h3 := h2.map (fun i : Fin es.length => es[i.1])
        have h4 : d.toList.map (fun i : Fin es.length => es[i.1]) = es := by
          apply List.ext_getElem
          · simp [d]
          · intro t h5 h6; simp [d]
        rw [h4] at h3
        exact h3
      have hpw : (ps.map (·.1)).Pairwise (fun x y => ¬ cf y x < 0) := by
        rw [hps1, List.pairwise_iff_getElem]
        intro i j hi hj hij
        have hi' : i < d'.size := by simpa using hi
        have hj' : j < d'.size := by simpa using hj
        have h2 := hsort i j (Nat.zero_le _) hij (by omega)
        rw [getElem!_pos d' i hi', getElem!_pos d' j hj'] at h2
        simpa [ltOf] using h2
      have hflat : flatK enc k d' = (d'.toList.map enc).flatten.toArray := flatK_list hk0 hk d'
      have hFs : (flatK enc k d').size = es.length * k := by rw [size_flatK, hd's]
      have hcsz : (flatK enc k d').size ≤ cur.size := by rw [hFs, hcs]; exact Nat.mul_le_mul_right _ hcap
      have hput := put_take hcsz
      refine ⟨rfl, ps, hp, hpw, ?_, ?_, ?_⟩
      · intro p hp
        obtain ⟨i, _, rfl⟩ := List.mem_map.1 hp
        exact ⟨i.1, by simp, rfl⟩
      · have := sortW_far enc k w b 0 n d' os
        exact ⟨this.os, this.tape, this.output, this.size, fun b' hb' hne' => this.block b' hb' (fun e' => hne' (by rw [e']; rfl)), this.dr⟩
      · rw [hps2, hpl]
        have hsz2 : (d'.toList.map enc).flatten.length = es.length * k := by
          have := congrArg Array.size hflat
          rw [hFs] at this
          simpa using this.symm
        refine ⟨hsz2, .inr ⟨b, cap, _, rfl, Nat.zero_le _, sortW_blk enc k w b 0 n d' os hh, hcap, hmax, by rw [hput.1]; exact hcs, ?_⟩⟩
        rw [← hFs, hput.2, hflat]
theorem awps_sort {P : Program} {R : Ren} (L : SlLaysF0.n6 P R) {c : Ctx} {N : Nat} {Q : Exit → St → Prop} {o : Oper} {ops : Array Oper} {rest : List Oper} {x s y : Operand} {tys : Array TypeId} {T : List (Nat × AV)} {O : List (Nat × Ob)} {k : Nat} (hk0 : 0 < k) (ht : tfB P (R.t 24) true k = true) {sf g : FuncId} (hsf : R.f 6 = sf) (eg : qW P g) (esf : qW P sf)
    {e : TypeId} {l : Nat} {f : Bool} {X : Type} {toD : X → List D} {es : List X} {cf : X → X → Int}
    (hg : o.guard = none) (ho : o.op = .call { callee := .value x, args := #[s, y], argTypes := tys }) (hdN : ∀ d, o.dst = some d → d < N)
    (hx : ev T x = some (.fn sf [])) (hs : ev T s = some (.row l)) (hy : ev T y = some (.fn g [])) (hl : ok O l = some (.rowd e k f (es.map toD))) (hlt : es.length < 4611686018427387904)
    (hcmp : ∀ x ∈ es, ∀ y ∈ es, ACx true P g [.agg (lift false (toD x)), .agg (lift false (toD y))] [] (fun r O => r = .imm (.int .i64 (cf x y)) ∧ O = []))
    (hirr : ∀ x ∈ es, ¬ cf x x < 0) (htr : ∀ x ∈ es, ∀ y ∈ es, ∀ z ∈ es, cf x y < 0 → cf y z < 0 → cf x z < 0) (hnt : ∀ x ∈ es, ∀ y ∈ es, ∀ z ∈ es, ¬ cf x y < 0 → ¬ cf y z < 0 → ¬ cf x z < 0)
    (K : ∀ es' : List X, es'.Perm es → es'.Pairwise (fun x y => ¬ cf y x < 0) → awps P c N ops rest Q (St.put ⟨T, (l, .rowd e k f (es'.map toD)) :: O⟩ o.dst (.tup []))) : awps P c N ops (o :: rest) Q ⟨T, O⟩ := by
  obtain ⟨dt, it, u1, u2, u3, u4, _⟩ := tf_spec ht
  have aE : ∀ w, (isAgg (R.t 24)).run P w = .ok true w := fun w => by rw [isAgg_run u1, u3]
  have zE : ∀ w, (Go.sizeOf (R.t 24)).run P w = .ok k w := fun w => by simp [Go.sizeOf, typeInfo, u2, u4]
  refine qdx hg ?_
  rintro a w ⟨ρ, S, hc⟩
  have h1 := qaF hc hx
  have h2 := qaF hc hs
  have h3 := qaF hc hy
  simp only [Rep, RepL] at h1 h2 h3
  obtain ⟨_, hxe, rfl⟩ := h1
  obtain ⟨_, hse, _⟩ := h2
  obtain ⟨_, hye, rfl⟩ := h3
  obtain ⟨hes, xs, how, hone, hrep⟩ := hc.O l _ hl
  rw [List.length_map] at how
  have hel0 : ∀ (i : Nat) (x : X), es[i]? = some x → RepL w ρ S (St.U ⟨T, O⟩) (lift f (toD x)) ((xs.drop (i * k)).take k) := fun i x hi => repL_elem hes hrep i (toD x) (by simp [hi])
  have hcore := sort_core L hk0 aE zE eg (toD := toD) (es := es) (cf := cf) (Sx := utS S false) (ρ := ρ) hlt how hone (fun i x hi => by
    have := RepL.ut _ _ (hel0 i x hi)
    rw [uts_lift] at this
    exact RepL.gen (p := fun _ => false) (q := fun f => !f) (fun f b hf hb => by
      have : f = false := by simpa using hf
      subst this; exact ⟨rfl, hb⟩) (fun _ _ _ _ => rfl) (fun _ h => by cases h) _ _ (qbW _ _ _) (allQs_lift _ _ (by rfl) _) this) (fun b hb => by
    obtain ⟨_, hb⟩ := hb
    rcases hb with hb | hb
    · exact ⟨hc.Sb _ b hb, fun e' => hc.dS l _ b _ hl trivial e' hb⟩
    · exact ⟨hc.Sb _ b hb, fun e' => hc.dS l _ b _ hl trivial e' hb⟩) hcmp hirr htr hnt
  have hex : (execOp a.eval o).run P w = .ok (.enter sf #[ρ l, .func (.func g) #[] #[]]) w := by
    simp only [execOp, ho, resolve]
    simp [Sem.run_bind, hxe, hse, hye, Deferred.ofValue, invoke, esf _ _]
  unfold Oper.wp
  rw [hex]
  simp only [Oper.upon_enter]
  rw [hsf] at hcore
  refine Calls.mono hcore ?_
  rintro e' w' ⟨rfl, ps, hp, hpw, hpi, hfar, how'⟩
  simp only
  refine ⟨_, ?_, K (ps.map (·.1)) hp hpw⟩
  have hU2 : ∀ m, St.U ⟨T, O⟩ m → St.U ⟨T, (l, .rowd e k f ((ps.map (·.1)).map toD)) :: O⟩ m := fun m hm => U_cons m hm
  have hmv : ∀ vs zs, RepL w ρ S (St.U ⟨T, O⟩) vs zs → RepL w' ρ S (St.U ⟨T, (l, .rowd e k f ((ps.map (·.1)).map toD)) :: O⟩) vs zs := fun vs zs hz =>
    hz.mono (fun _ _ h => h) (fun g b hb' => hfar.block b (hc.Sb g b hb') (fun e' => hc.dS l _ b g hl trivial e' hb')) hU2 (fun _ _ => rfl)
  have hob : ObOk w' ρ S (St.U ⟨T, (l, .rowd e k f ((ps.map (·.1)).map toD)) :: O⟩) l (.rowd e k f ((ps.map (·.1)).map toD)) := by
    refine ⟨fun d hd => ?_, (ps.map (·.2)).flatten, by simpa using how', fun y hy => ?_, hmv _ _ ?_⟩
    · obtain ⟨x, hx, rfl⟩ := List.mem_map.1 hd
      exact hes _ (List.mem_map.2 ⟨x, hp.mem_iff.1 hx, rfl⟩)
    · obtain ⟨z, hz, hyz⟩ := List.mem_flatten.1 hy
      obtain ⟨p, hp1, rfl⟩ := List.mem_map.1 hz
      obtain ⟨i, _, h5⟩ := hpi p hp1
      rw [h5] at hyz
      exact hone y (List.mem_of_mem_drop (List.mem_of_mem_take hyz))
    · have : ∀ qs : List (X × List Value), (∀ p ∈ qs, ∃ i, es[i]? = some p.1 ∧ p.2 = (xs.drop (i * k)).take k) → RepL w ρ S (St.U ⟨T, O⟩) (lift f ((qs.map (·.1)).map toD).flatten) (qs.map (·.2)).flatten := by
        intro qs
        induction qs with
        | nil => intro _; simp [lift, RepL]
        | cons q qs ih =>
          intro hq
          obtain ⟨i, h5, h6⟩ := hq q (by simp)
          have h8 : lift f (((q :: qs).map (·.1)).map toD).flatten = lift f (toD q.1) ++ lift f ((qs.map (·.1)).map toD).flatten := by simp [lift]
          rw [h8, List.map_cons, List.flatten_cons, h6]
          exact (hel0 i q.1 h5).append (ih fun p hp => hq p (by simp [hp]))
      exact this ps hpi
  have hput := (hc.modOb hl trivial hfar hob).put (dst := o.dst) (v := .tup []) (x := .tuple #[]) hdN (by simp only [Rep, RepL]; exact ⟨[], rfl, rfl⟩)
  refine ⟨ρ, S, ?_⟩
  cases hd : o.dst with
  | none => rw [hd] at hput; exact hput
  | some d => rw [hd] at hput; exact hput
end Go.Proofs.YtpgceiijoedppaaGreat

namespace Go.Proofs.YtpgceiijoedppaaGreat
open Go
theorem zA {P : Program} {c : Ctx} {N : Nat} {Q : Exit → St → Prop} {o : Oper} {ops : Array Oper} {rest : List Oper} {T : List (Nat × AV)} {O : List (Nat × Ob)} {need : List Nat} {v : AV} {d : Nat} (hd : o.dst = some d) (h : Stp P c N o ⟨T, O⟩ need v []) (K : awps P c N ops rest Q ⟨(d, v) :: T, O⟩) (hg : o.guard = none := by rfl) (hN : d < N := by decide) : awps P c N ops (o :: rest) Q ⟨T, O⟩ := awps_stp0 hg hd hN h K
theorem zM {P : Program} {c : Ctx} {N : Nat} {Q : Exit → St → Prop} {o : Oper} {ops : Array Oper} {rest : List Oper} {T : List (Nat × AV)} {O : List (Nat × Ob)} {x : Operand} {v : AV} {d : Nat} (hd : o.dst = some d) (ho : o.op = .move x) (hx : ev T x = some v) (K : awps P c N ops rest Q ⟨(d, v) :: T, O⟩) (hg : o.guard = none := by rfl) (hN : d < N := by decide) : awps P c N ops (o :: rest) Q ⟨T, O⟩ := awps_stp0 hg hd hN (qk (.inl ho) hx) K
theorem zN {P : Program} {c : Ctx} {N : Nat} {Q : Exit → St → Prop} {o : Oper} {ops : Array Oper} {rest : List Oper} {T : List (Nat × AV)} {O : List (Nat × Ob)} {x : Operand} {v : AV} {d : Nat} (hd : o.dst = some d) (ho : o.op = .assign x) (hx : ev T x = some v) (K : awps P c N ops rest Q ⟨(d, v) :: T, O⟩) (hg : o.guard = none := by rfl) (hN : d < N := by decide) : awps P c N ops (o :: rest) Q ⟨T, O⟩ := awps_stp0 hg hd hN (qk (.inr ho) hx) K
theorem zS {P : Program} {c : Ctx} {N : Nat} {Q : Exit → St → Prop} {o : Oper} {ops : Array Oper} {rest : List Oper} {T : List (Nat × AV)} {O : List (Nat × Ob)} {d j t : Nat} {b b' : Bool} (hg : o.guard = some (j, b)) (hj : (ops[j]?).bind (·.dst) = some t) (ht : lk T t = some (.imm (.bool b'))) (hd : o.dst = some d) (K : awps P c N ops rest Q ⟨(d, .imm undef) :: T, O⟩) (hb : (b' == b) = false := by rfl) (htN : t < N := by decide) (hN : d < N := by decide) : awps P c N ops (o :: rest) Q ⟨T, O⟩ := awps_gs hg hj ht hb htN hd hN K
theorem zG {P : Program} {c : Ctx} {N : Nat} {Q : Exit → St → Prop} {o : Oper} {ops : Array Oper} {rest : List Oper} {T : List (Nat × AV)} {O : List (Nat × Ob)} {need : List Nat} {v : AV} {d j t : Nat} {b : Bool} (hg : o.guard = some (j, b)) (hj : (ops[j]?).bind (·.dst) = some t) (ht : lk T t = some (.imm (.bool b))) (hd : o.dst = some d) (h : Stp P c N o ⟨T, O⟩ need v []) (K : awps P c N ops rest Q ⟨(d, v) :: T, O⟩) (htN : t < N := by decide) (hN : d < N := by decide) : awps P c N ops (o :: rest) Q ⟨T, O⟩ := awps_g0 hg hj ht htN hd hN h K
theorem zW {T : List (Nat × AV)} {t : Nat} {v v' : AV} (h : lk T t = some v) (e : v = v' := by first | rfl | simp) : lk T t = some v' := qan h e
theorem E.{u} {α : Sort u} {a : α} : a = a := rfl
theorem zD {p : Prop} [i : Decidable p] (h : decide p = true := by rfl) : p := of_decide_eq_true h
theorem zC {T1 T : List (Nat × AV)} {t : Nat} {v v' : AV} (h : lk T t = some v) (k : SubT T1 T) (e : v = v' := by first | rfl | simp) : SubT ((t, v') :: T1) T := SubT.cons (qan h e) k
theorem zB {T1 T : List (Nat × AV)} {t : Nat} {v : AV} (h : lk T t = some v) (k : SubT T1 T) : SubT ((t, v) :: T1) T := SubT.cons h k
theorem zI {P : Program} {c : Ctx} {N : Nat} {σ : St} {rs : List ResultVar} {Post : AV → List (Nat × Ob) → Prop} {vs : List AV} {e : Exit} (hL : ∀ l, c.L l ↔ inD [] l = true) (hr : resAs P σ rs = some vs) (hv : AV.allLs (inD []) vs = true) (hP : Post (resV vs) []) (he : e = .ret ∨ e = .normal := by first | exact .inl rfl | exact .inr rfl) : retQ P c N rs Post e σ := ret0 (noL hL) he hr hv hP
theorem zK {P : Program} {c : Ctx} {N : Nat} {Q : Exit → St → Prop} {K : St → Prop} {σ : St} {ops : Array Oper} (h : K σ) : awps P c N ops [] (thenQ K Q) σ := qc (qa h)
theorem zL {m n : Nat} (h : Nat.ble m n = true := by rfl) : m ≤ n := Nat.le_of_ble_eq_true h
theorem zR {c : Ctx} {N : Nat} {T T1 : List (Nat × AV)} {O O1 : List (Nat × Ob)} (hL : ∀ l, c.L l ↔ inD [] l = true) (h : SubT T1 T) (k : SubO O1 O) (hT : allT (inD O1) T1 = true := by rfl) (hO : allO (inD O1) O1 = true := by rfl) : Sub c N ⟨T, O⟩ ⟨T1, O1⟩ := qB h k hT hO (noL' (noL hL) _)
def mvY (T : List (Nat × AV)) (o : Oper) : Option (Nat × AV) := match o.dst with
  | some d => (match o.op with
    | .move x => (ev T x).map fun v => (d, v)
    | .assign x => (ev T x).map fun v => (d, v)
    | _ => none)
  | none => none
theorem zX {P : Program} {c : Ctx} {N : Nat} {Q : Exit → St → Prop} {o : Oper} {ops : Array Oper} {rest : List Oper} {T : List (Nat × AV)} {O : List (Nat × Ob)} {v : AV} {d : Nat} (h : mvY T o = some (d, v)) (K : awps P c N ops rest Q ⟨(d, v) :: T, O⟩) (hg : o.guard = none := by rfl) (hN : d < N := by decide) : awps P c N ops (o :: rest) Q ⟨T, O⟩ := by
  unfold mvY at h
  split at h
  · rename_i d' hd
    split at h
    · rename_i x ho
      obtain ⟨v', hx, e⟩ := Option.map_eq_some_iff.1 h
      cases e
      exact zM hd ho hx K hg hN
    · rename_i x ho
      obtain ⟨v', hx, e⟩ := Option.map_eq_some_iff.1 h
      cases e
      exact zN hd ho hx K hg hN
    · cases h
  · cases h
def gsY (p : Bool) (N : Nat) (T : List (Nat × AV)) (ops : Array Oper) (o : Oper) : Option Nat := match o.guard with
  | some (j, b) => (match (ops[j]?).bind (·.dst) with
    | some t => (match lk T t with
      | some (.imm (.bool b')) => (match b' == b, p, Nat.ble (t + 1) N with
        | false, false, true => o.dst
        | true, true, true => o.dst
        | _, _, _ => none)
      | _ => none)
    | none => none)
  | none => none
theorem gsY_e {p : Bool} {N : Nat} {T : List (Nat × AV)} {ops : Array Oper} {o : Oper} {d : Nat} (h : gsY p N T ops o = some d) : ∃ j b t b', o.guard = some (j, b) ∧ (ops[j]?).bind (·.dst) = some t ∧ lk T t = some (.imm (.bool b')) ∧ (b' == b) = p ∧ t < N ∧ o.dst = some d := by
  unfold gsY at h
  split at h
  · rename_i j b hg
    split at h
    · rename_i t hj
      split at h
      · rename_i b' ht
        split at h
        · exact ⟨j, b, t, b', hg, hj, ht, by assumption, Nat.le_of_ble_eq_true (by assumption), h⟩
        · exact ⟨j, b, t, b', hg, hj, ht, by assumption, Nat.le_of_ble_eq_true (by assumption), h⟩
        · cases h
      · cases h
    · cases h
  · cases h
theorem zY {P : Program} {c : Ctx} {N : Nat} {Q : Exit → St → Prop} {o : Oper} {ops : Array Oper} {rest : List Oper} {T : List (Nat × AV)} {O : List (Nat × Ob)} {d : Nat} (h : gsY false N T ops o = some d) (K : awps P c N ops rest Q ⟨(d, .imm undef) :: T, O⟩) (hN : d < N := by decide) : awps P c N ops (o :: rest) Q ⟨T, O⟩ := by
  obtain ⟨j, b, t, b', hg, hj, ht, hb, htN, hd⟩ := gsY_e h
  exact zS hg hj ht hd K hb htN hN
theorem zZ {P : Program} {c : Ctx} {N : Nat} {Q : Exit → St → Prop} {o : Oper} {ops : Array Oper} {rest : List Oper} {T : List (Nat × AV)} {O : List (Nat × Ob)} {need : List Nat} {v : AV} {d : Nat} (h : gsY true N T ops o = some d) (s : Stp P c N o ⟨T, O⟩ need v []) (K : awps P c N ops rest Q ⟨(d, v) :: T, O⟩) (hN : d < N := by decide) : awps P c N ops (o :: rest) Q ⟨T, O⟩ := by
  obtain ⟨j, b, t, b', hg, hj, ht, hb, htN, hd⟩ := gsY_e h
  rw [eq_of_beq hb] at ht
  exact zG hg hj ht hd s K htN hN
end Go.Proofs.YtpgceiijoedppaaGreat
