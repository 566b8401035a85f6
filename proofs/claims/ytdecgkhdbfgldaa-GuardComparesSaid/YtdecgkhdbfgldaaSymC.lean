/- Plain proof kit of this session, third part: one operation, as a step that needs what it reads and adds what it makes. -/
import Derived.Test.YtdecgkhdbfgldaaSymB
import Derived.Laws.Rows
import Derived.Laws.CopyRow
import Derived.KernelRfl
set_option linter.unusedVariables false
set_option linter.unusedSimpArgs false
namespace Go.Proofs.Ytdecgkhdbfgldaa
open Go

/-- o needs its operands and the objects 'need', and adds v at its place and the objects 'new'. -/
def Stp (P : Program) (c : Ctx) (N : Nat) (o : Oper) (σ : St) (need : List Nat) (v : AV) (new : List (Nat × Ob)) : Prop :=
  (∀ d, o.dst = some d → d < N) → ∀ σ' : St, (∀ x ∈ o.op.operands, ∀ u, ev σ.T x = some u → ev σ'.T x = some u) → (∀ l ∈ need, ∀ ob, ok σ.O l = some ob → ok σ'.O l = some ob) → (∀ p ∈ new, ok σ'.O p.1 = none) →
    AOp P c N o σ' (fun σ2 => σ2 = σ'.add o.dst v new)

section
variable {P : Program} {c : Ctx} {N : Nat} {Q : Exit → St → Prop} {σ : St} {o : Oper}

theorem awps_stp0 {ops : Array Oper} {rest : List Oper} {T : List (Nat × AV)} {O : List (Nat × Ob)} {need : List Nat} {v : AV} {d : Nat} (hg : o.guard = none) (hd : o.dst = some d) (hN : d < N)
    (h : Stp P c N o ⟨T, O⟩ need v []) (K : awps P c N ops rest Q ⟨(d, v) :: T, O⟩) : awps P c N ops (o :: rest) Q ⟨T, O⟩ := by
  refine awps_op hg fun a w hc => wp_mono' ?_ (h (by intro e he; rw [hd] at he; cases he; exact hN) ⟨T, O⟩ (fun _ _ _ h => h) (fun _ _ _ h => h) (by simp) a w hc)
  rintro a w ⟨σ2, h2, rfl⟩
  refine ⟨_, h2, ?_⟩
  simpa [St.add, hd] using K
where
  wp_mono' {o : Oper} {a : Act} {w : World} {K K' : Act → World → Prop} (h : ∀ a w, K a w → K' a w) (hh : o.wp P a w K (fun _ _ _ => False)) : o.wp P a w K' (fun _ _ _ => False) := Oper.wp_mono h hh

theorem awps_stp1 {ops : Array Oper} {rest : List Oper} {T : List (Nat × AV)} {O : List (Nat × Ob)} {need : List Nat} {v : AV} {d l : Nat} {ob : Ob} (hg : o.guard = none) (hd : o.dst = some d) (hN : d < N)
    (h : Stp P c N o ⟨T, O⟩ need v [(l, ob)]) (hl : ok O l = none) (K : awps P c N ops rest Q ⟨(d, v) :: T, (l, ob) :: O⟩) : awps P c N ops (o :: rest) Q ⟨T, O⟩ := by
  refine awps_op hg fun a w hc => Oper.wp_mono ?_ (h (by intro e he; rw [hd] at he; cases he; exact hN) ⟨T, O⟩ (fun _ _ _ h => h) (fun _ _ _ h => h) (by simpa using hl) a w hc)
  rintro a w ⟨σ2, h2, rfl⟩
  refine ⟨_, h2, ?_⟩
  simpa [St.add, hd] using K

/-- An operation that hands back a value and turns nothing. -/
theorem stp_value {need : List Nat} {v : AV} (h : ∀ σ' : St, (∀ x ∈ o.op.operands, ∀ u, ev σ.T x = some u → ev σ'.T x = some u) → (∀ l ∈ need, ∀ ob, ok σ.O l = some ob → ok σ'.O l = some ob) → ∀ a w ρ S, Conc c N σ' a w ρ S →
      ∃ x, (execOp a.eval o).run P w = .ok (.value x) w ∧ Rep w ρ S σ'.U v x) : Stp P c N o σ need v [] := by
  rintro hd σ' hx hl - a w ⟨ρ, S, hc⟩
  obtain ⟨x, hr, hv⟩ := h σ' hx hl a w ρ S hc
  unfold Oper.wp
  rw [hr]
  refine ⟨_, ⟨ρ, S, hc.put hd hv⟩, ?_⟩
  cases o.dst <;> simp [St.put, St.add]

theorem stp_move {x : Operand} {v : AV} (ho : o.op = .move x ∨ o.op = .assign x) (hx : ev σ.T x = some v) : Stp P c N o σ [] v [] := by
  refine stp_value fun σ' h1 _ a w ρ S hc => ⟨a.eval x, ?_, ?_⟩
  · rcases ho with ho | ho <;> simp only [execOp, ho] <;> rfl
  · exact ev_rep hc (h1 x (by rcases ho with ho | ho <;> simp [ho, Op.operands]) v hx)

theorem stp_pick {x y z : Operand} {b : Bool} {v : AV} (ho : o.op = .pick x y z) (hx : ev σ.T x = some (.imm (.bool b))) (hv : (if b then ev σ.T y else ev σ.T z) = some v) : Stp P c N o σ [] v [] := by
  refine stp_value fun σ' h1 _ a w ρ S hc => ⟨a.eval (if b then y else z), ?_, ?_⟩
  · have hx' := ev_rep hc (h1 x (by simp [ho, Op.operands]) _ hx)
    simp only [Rep] at hx'
    simp only [execOp, ho, hx']
    cases b <;> rfl
  · cases b
    · exact ev_rep hc (h1 z (by simp [ho, Op.operands]) v (by simpa using hv))
    · exact ev_rep hc (h1 y (by simp [ho, Op.operands]) v (by simpa using hv))

/-! ### Tables of types -/
def aggB : TypeDesc → Bool
  | .struct _ | .array _ _ => true
  | _ => false
/-- Is type t an aggregate (b), of n cells? -/
def tfB (P : Program) (t : TypeId) (b : Bool) (n : Nat) : Bool :=
  match P.underlying t, P.info? t with
  | some d, some i => (aggB d == b) && (i.size == n) && (b || n == 1)
  | _, _ => false
/-- Does field i of struct type s begin at cell k? -/
def foB (P : Program) (s : TypeId) (i k : Nat) : Bool :=
  match P.underlying s with
  | some (.struct fs) => match fs[i]? with
    | some f => (f.offset == k) && (match P.info? f.type with | some j => j.size != 0 | none => false)
    | none => false
  | _ => false
/-- Is t a slice type of e, whose elements have k cells? -/
def slB (P : Program) (t e : TypeId) (k : Nat) : Bool :=
  match P.underlying t, P.info? e with
  | some (.slice e'), some i => (e' == e) && (i.size == k)
  | _, _ => false

theorem tf_spec {t : TypeId} {b : Bool} {n : Nat} (h : tfB P t b n = true) : ∃ d i, P.underlying t = some d ∧ P.info? t = some i ∧ aggB d = b ∧ i.size = n ∧ (b = true ∨ n = 1) := by
  unfold tfB at h
  split at h
  · rename_i d i h1 h2
    simp only [Bool.and_eq_true, Bool.or_eq_true, beq_iff_eq] at h
    exact ⟨d, i, h1, h2, h.1.1, h.1.2, h.2⟩
  · simp at h

theorem isAgg_run {t : TypeId} {d : TypeDesc} (hd : P.underlying t = some d) (w : World) : (isAgg t).run P w = .ok (aggB d) w := by
  unfold isAgg
  rw [Sem.run_bind, run_underlying hd w]
  cases d <;> rfl

theorem add_plain (b off j : Nat) : (⟨b, off, none⟩ : Addr).add j = ⟨b, off + j, none⟩ := by unfold Addr.add; split <;> simp_all

/-- The value of a variable of type t whose cells are these. -/
def mkV (b : Bool) (xs : List Value) : Value := if b then .agg xs.toArray else xs.headD undef

theorem run_loadVar_cells {t : TypeId} {b : Bool} {n : Nat} (ht : tfB P t b n = true) (w : World) (g off : Nat) (xs : List Value) (hl : xs.length = n) (h : ∀ j v, xs[j]? = some v → w.cell? ⟨g, off + j, none⟩ = some v) :
    (loadVar t ⟨g, off, none⟩).run P w = .ok (mkV b xs) w := by
  obtain ⟨d, i, h1, h2, h3, h4, h5⟩ := tf_spec ht
  have hl' : (loadCells ⟨g, off, none⟩ xs.length).run P w = .ok xs.toArray w := run_loadCells_list (P := P) w ⟨g, off, none⟩ xs (fun j v hv => by rw [add_plain]; exact h j v hv)
  cases b with
  | true => simp [loadVar, Sem.run_bind, isAgg_run h1, h3, sizeOf, typeInfo, h2, h4, ← hl, hl', mkV]
  | false =>
    have hn : n = 1 := by simpa using h5
    match xs, hl with
    | [x], _ =>
      have hc := h 0 x (by simp)
      simp only [Nat.add_zero] at hc
      simp only [loadVar, Sem.run_bind, isAgg_run h1, h3, load, mkV]
      simp [Sem.run, hc]
    | [], hl => simp at hl; omega
    | _ :: _ :: _, hl => simp at hl; omega

/-! ### What a variable's cells are as a value of the state -/
def mkA (b : Bool) (n : Nat) (cs : List AV) : Option AV :=
  if b then (if cs.length = n then some (.agg cs) else none) else cs.head?

theorem rep_mkA {w : World} {ρ : Nat → Value} {S : Bool → Nat → Prop} {U : Nat → Prop} {b : Bool} {n : Nat} {cs : List AV} {xs : List Value} {v : AV} (h : mkA b n cs = some v) (h1 : ∀ y ∈ xs, y.oneCell' = true) (hr : RepL w ρ S U cs xs) : Rep w ρ S U v (mkV b xs) := by
  cases b with
  | true =>
    simp only [mkA, if_true] at h
    split at h
    · simp only [Option.some.injEq] at h; subst h
      simp only [Rep, mkV, if_true]
      exact ⟨xs, rfl, h1, hr⟩
    · simp at h
  | false =>
    simp only [mkA] at h
    cases cs with
    | nil => simp at h
    | cons u us =>
      simp only [List.head?_cons, Bool.false_eq_true, if_false, Option.some.injEq] at h; subst h
      simp only [RepL] at hr
      obtain ⟨y, ys, rfl, hy, _⟩ := hr
      simpa [mkV] using hy

theorem cell_of_block {w : World} {b : Nat} {xs : List Value} {ty : TypeId} {fr : Nat × Nat} (h : w.heap[b]? = some (.cells xs.toArray ty fr)) (j : Nat) : w.cell? ⟨b, j, none⟩ = xs[j]? := by
  simp [World.cell?, h]

theorem take_get {α : Type} {xs : List α} {off n j : Nat} {v : α} (h : ((xs.drop off).take n)[j]? = some v) : xs[off + j]? = some v := by
  rw [List.getElem?_take] at h
  split at h
  · rwa [List.getElem?_drop] at h
  · simp at h

theorem eval_ptr {a : Act} {w : World} {ρ : Nat → Value} {S : Bool → Nat → Prop} {x : Operand} {l off : Nat} (hc : Conc c N σ a w ρ S) (hx : ev σ.T x = some (.ptr l off)) : ∃ b, blk (ρ l) = some b ∧ a.eval x = .pointer (some ⟨b, off, none⟩) := by
  have h := ev_rep hc hx
  simp only [Rep] at h
  exact h.2

theorem row_cells {w : World} {e : TypeId} {k n b : Nat} {v : Value} {xs : List Value} (h : w.ownsRow 0 e k v n xs) (hb : blk v = some b) : ∃ cap cur, v = .slice (some ⟨b, 0, none⟩) n cap ∧ w.heap[b]? = some (.cells cur e (0, 0)) ∧ n ≤ cap ∧ cap ≤ maxLen ∧ cur.size = cap * k ∧ cur.toList.take (n * k) = xs ∧ xs.length = n * k := by
  obtain ⟨h1, h2⟩ := h
  rcases h2 with ⟨rfl, _⟩ | ⟨g, cap, cur, rfl, _, hh, h3, h4, h5, h6⟩
  · simp [blk] at hb
  · simp only [blk, Option.some.injEq] at hb
    subst hb
    exact ⟨cap, cur, rfl, hh, h3, h4, h5, h6, h1⟩

/-- The cells behind a pointer into an object. -/
def Ob.cells : Ob → List AV
  | .box cs => cs
  | .row _ _ cs => cs
  | .rowd _ _ f es => lift f es.flatten
  | _ => []

theorem row_cells_get {w : World} {e : TypeId} {k n b : Nat} {v : Value} {xs : List Value} (h1 : w.ownsRow 0 e k v n xs) (hb : blk v = some b) (j : Nat) (u : Value) (hv : xs[j]? = some u) : w.cell? ⟨b, j, none⟩ = some u := by
  obtain ⟨cap, cur, _, hh, _, _, _, h6, _⟩ := row_cells h1 hb
  have : w.heap[b]? = some (.cells cur.toList.toArray e (0, 0)) := by simpa using hh
  rw [cell_of_block this]
  rw [← h6, List.getElem?_take] at hv
  split at hv
  · exact hv
  · simp at hv

theorem ob_cells {w : World} {ρ : Nat → Value} {S : Bool → Nat → Prop} {U : Nat → Prop} {l b : Nat} {ob : Ob} (h : ObOk w ρ S U l ob) (hb : blk (ρ l) = some b) (hm : ob.cells ≠ []) :
    ∃ xs : List Value, RepL w ρ S U ob.cells xs ∧ (∀ y ∈ xs, y.oneCell' = true) ∧ ∀ (j : Nat) (v : Value), xs[j]? = some v → w.cell? ⟨b, j, none⟩ = some v := by
  cases ob with
  | box cs =>
    obtain ⟨b', ty, xs, h1, h2, h3, h4⟩ := h
    rw [h1] at hb; simp only [blk, Option.some.injEq] at hb; subst hb
    exact ⟨xs, h4, h3, fun j v hv => by rw [cell_of_block h2]; exact hv⟩
  | row e k cs =>
    obtain ⟨n, xs, h1, h2, h3⟩ := h
    exact ⟨xs, h3, h2, row_cells_get h1 hb⟩
  | rowd e k f es =>
    obtain ⟨h0, xs, h1, h2, h3⟩ := h
    exact ⟨xs, h3, h2, row_cells_get h1 hb⟩
  | mp es => simp [Ob.cells] at hm
  | dead => simp [Ob.cells] at hm

theorem stp_load_box {x : Operand} {t : TypeId} {l off n : Nat} {b : Bool} {ob : Ob} {v : AV} (ho : o.op = .load t x) (ht : tfB P t b n = true) (hx : ev σ.T x = some (.ptr l off)) (hl : ok σ.O l = some ob)
    (hn : off + n ≤ ob.cells.length) (h0 : 0 < n) (hv : mkA b n ((ob.cells.drop off).take n) = some v) : Stp P c N o σ [l] v [] := by
  refine stp_value fun σ' h1 h2 a w ρ S hc => ?_
  obtain ⟨g, hg, hx'⟩ := eval_ptr hc (h1 x (by simp [ho, Op.operands]) _ hx)
  have hob := hc.O l ob (h2 l (by simp) _ hl)
  obtain ⟨xs, hr, h3, hcell⟩ := ob_cells hob hg (by intro h; rw [h] at hn; simp at hn; omega)
  have hlen := hr.length
  refine ⟨mkV b ((xs.drop off).take n), ?_, rep_mkA hv (fun y hy => h3 y (List.mem_of_mem_drop (List.mem_of_mem_take hy))) ((hr.drop off).take n)⟩
  simp only [execOp, ho, hx', Instr.loadAt, Instr.sureAddr]
  have := run_loadVar_cells (P := P) ht w g off ((xs.drop off).take n) (by simp; omega) (fun j v hv => hcell _ _ (take_get hv))
  simp [Sem.run_bind, this]

theorem repCs_list {w : World} {ρ : Nat → Value} {S : Bool → Nat → Prop} {U : Nat → Prop} {f : Bool} {b : Nat} : ∀ {off : Nat} {ds : List D}, RepCs w (S f) b off ds →
    ∃ xs : List Value, RepL w ρ S U (lift f ds) xs ∧ (∀ y ∈ xs, y.oneCell' = true) ∧ ∀ (j : Nat) (v : Value), xs[j]? = some v → w.cell? ⟨b, off + j, none⟩ = some v
  | off, [], _ => ⟨[], by simp [lift, RepL], by simp, by simp⟩
  | off, d :: ds, h => by
    simp only [RepCs] at h
    obtain ⟨⟨v, hv, h1, hd⟩, h⟩ := h
    obtain ⟨xs, h2, h3, h4⟩ := repCs_list (ρ := ρ) (U := U) h
    refine ⟨v :: xs, ?_, ?_, ?_⟩
    · simp only [lift, List.map_cons, RepL]
      refine ⟨v, xs, rfl, ?_, h2⟩
      cases d with
      | imm u => simpa [D.av, Rep, RepD] using hd
      | sl k es => simpa [D.av, Rep] using hd
    · intro y hy
      rcases List.mem_cons.1 hy with rfl | hy
      · exact h1
      · exact h3 y hy
    · intro j u hu
      cases j with
      | zero => simp only [List.getElem?_cons_zero, Option.some.injEq] at hu; subst hu; simpa using hv
      | succ j => have := h4 j u (by simpa using hu); rw [show off + (j + 1) = off + 1 + j from by omega]; exact this

theorem stp_load_elp {x : Operand} {t : TypeId} {n : Nat} {b f : Bool} {ds : List D} {v : AV} (ho : o.op = .load t x) (ht : tfB P t b n = true) (hx : ev σ.T x = some (.elp f ds))
    (hn : n ≤ ds.length) (hv : mkA b n (lift f (ds.take n)) = some v) : Stp P c N o σ [] v [] := by
  refine stp_value fun σ' h1 h2 a w ρ S hc => ?_
  have h := ev_rep hc (h1 x (by simp [ho, Op.operands]) _ hx)
  simp only [Rep] at h
  obtain ⟨g, off, hx', hS, hcs⟩ := h
  obtain ⟨xs, hr, h3, hcell⟩ := repCs_list (ρ := ρ) (U := σ'.U) hcs
  have hlen := hr.length
  simp only [lift, List.length_map] at hlen
  refine ⟨mkV b (xs.take n), ?_, rep_mkA hv (fun y hy => h3 y (List.mem_of_mem_take hy)) (by have := hr.take n; simpa [lift, List.map_take] using this)⟩
  simp only [execOp, ho, hx', Instr.loadAt, Instr.sureAddr]
  have := run_loadVar_cells (P := P) ht w g off (xs.take n) (by simp; omega) (fun j v hv => by
    rw [List.getElem?_take] at hv
    split at hv
    · exact hcell _ _ hv
    · simp at hv)
  simp [Sem.run_bind, this]

theorem fo_spec {s : TypeId} {i k : Nat} (h : foB P s i k = true) : ∃ fs f j, P.underlying s = some (.struct fs) ∧ fs[i]? = some f ∧ f.offset = k ∧ P.info? f.type = some j ∧ j.size ≠ 0 := by
  unfold foB at h
  split at h
  · rename_i fs h1
    split at h
    · rename_i f h2
      simp only [Bool.and_eq_true, beq_iff_eq] at h
      obtain ⟨h3, h4⟩ := h
      split at h4
      · rename_i j h5; exact ⟨fs, f, j, h1, h2, h3, h5, by simpa using h4⟩
      · simp at h4
    · simp at h
  · simp at h

theorem run_fieldAt {s : TypeId} {i k : Nat} (h : foB P s i k = true) (w : World) (b off : Nat) : (Instr.fieldAt s (.pointer (some ⟨b, off, none⟩)) i).run P w = .ok (.pointer (some ⟨b, off + k, none⟩)) w := by
  obtain ⟨fs, f, j, h1, h2, h3, h4, h5⟩ := fo_spec h
  simp only [Instr.fieldAt, Sem.run_bind, run_underlying h1 w, Result.andThen_ok, h2, Instr.sureAddr, Sem.run_pure, fieldPlace, sizeOf, run_typeInfo w h4, if_neg h5, add_plain, h3]

theorem stp_fieldAddr {x : Operand} {s : TypeId} {i k l off : Nat} (ho : o.op = .fieldAddr s x i) (hf : foB P s i k = true) (hx : ev σ.T x = some (.ptr l off)) : Stp P c N o σ [] (.ptr l (off + k)) [] := by
  refine stp_value fun σ' h1 h2 a w ρ S hc => ?_
  have h := ev_rep hc (h1 x (by simp [ho, Op.operands]) _ hx)
  simp only [Rep] at h
  obtain ⟨hU, g, hg, hx'⟩ := h
  refine ⟨.pointer (some ⟨g, off + k, none⟩), ?_, by simp only [Rep]; exact ⟨hU, g, hg, rfl⟩⟩
  simp only [execOp, ho, hx']
  simp [Sem.run_bind, run_fieldAt hf]

theorem repCs_drop {w : World} {S : Nat → Prop} {b : Nat} : ∀ (k : Nat) {off : Nat} {ds : List D}, RepCs w S b off ds → RepCs w S b (off + k) (ds.drop k)
  | 0, off, ds, h => by simpa using h
  | k + 1, off, [], h => by simp [RepCs]
  | k + 1, off, d :: ds, h => by
    simp only [RepCs] at h
    have := repCs_drop k h.2
    rw [show off + (k + 1) = off + 1 + k from by omega]
    simpa using this

theorem stp_fieldAddr_elp {x : Operand} {s : TypeId} {i k : Nat} {f : Bool} {ds : List D} (ho : o.op = .fieldAddr s x i) (hf : foB P s i k = true) (hx : ev σ.T x = some (.elp f ds)) : Stp P c N o σ [] (.elp f (ds.drop k)) [] := by
  refine stp_value fun σ' h1 h2 a w ρ S hc => ?_
  have h := ev_rep hc (h1 x (by simp [ho, Op.operands]) _ hx)
  simp only [Rep] at h
  obtain ⟨g, off, hx', hS, hcs⟩ := h
  refine ⟨.pointer (some ⟨g, off + k, none⟩), ?_, by simp only [Rep]; exact ⟨g, off + k, rfl, hS, repCs_drop k hcs⟩⟩
  simp only [execOp, ho, hx']
  simp [Sem.run_bind, run_fieldAt hf]

theorem repEs_get {w : World} {S : Nat → Prop} {b k : Nat} : ∀ {off : Nat} {es : List (List D)} {i : Nat} {e : List D}, RepEs w S b k off es → es[i]? = some e → e.length = k ∧ RepCs w S b (off + i * k) e
  | off, [], i, e, h, hi => by simp at hi
  | off, u :: es, 0, e, h, hi => by
    simp only [List.getElem?_cons_zero, Option.some.injEq] at hi; subst hi
    simp only [RepEs] at h
    simpa using h.1
  | off, u :: es, i + 1, e, h, hi => by
    simp only [RepEs] at h
    have := repEs_get h.2 (i := i) (e := e) (by simpa using hi)
    rw [show off + (i + 1) * k = off + k + i * k from by rw [Nat.add_mul]; omega]
    exact this

theorem sl_spec {t e : TypeId} {k : Nat} (h : slB P t e k = true) : ∃ i, P.underlying t = some (.slice e) ∧ P.info? e = some i ∧ i.size = k := by
  unfold slB at h
  split at h
  · rename_i e' i h1 h2
    simp only [Bool.and_eq_true, beq_iff_eq] at h
    obtain ⟨rfl, h3⟩ := h
    exact ⟨i, h1, h2, h3⟩
  · simp at h

theorem run_indexAt_sl {t e : TypeId} {k : Nat} (h : slB P t e k = true) (w : World) (b off n cap : Nat) (q : IntKind) (i : Int) (h0 : 0 ≤ i) (h1 : i < n) :
    (Instr.indexAt t (.slice (some ⟨b, off, none⟩) n cap) (.int q i)).run P w = .ok (.pointer (some ⟨b, off + i.toNat * k, none⟩)) w := by
  obtain ⟨j, h2, h3, h4⟩ := sl_spec h
  simp only [Instr.indexAt, Sem.run_bind, asIntOf, Sem.run_pure, Result.andThen_ok, run_underlying h2 w]
  rw [if_pos ⟨h0, h1⟩]
  simp [Sem.run_bind, sizeOf, run_typeInfo w h3, h4, add_plain]

/-- The element of a slice that is read. -/
theorem stp_indexAddr {x y : Operand} {t e : TypeId} {k : Nat} {f : Bool} {es : List (List D)} {q : IntKind} {i : Int} {ds : List D} (ho : o.op = .indexAddr t x y) (ht : slB P t e k = true) (hx : ev σ.T x = some (.dat f k es)) (hy : ev σ.T y = some (.imm (.int q i)))
    (h0 : 0 ≤ i) (he : es[i.toNat]? = some ds) : Stp P c N o σ [] (.elp f ds) [] := by
  refine stp_value fun σ' h1 h2 a w ρ S hc => ?_
  have h := ev_rep hc (h1 x (by simp [ho, Op.operands]) _ hx)
  have h' := ev_rep hc (h1 y (by simp [ho, Op.operands]) _ hy)
  simp only [Rep, RepD] at h h'
  obtain ⟨A, n, cap, hx', hn, _, _, hr⟩ := h
  have hlt : i.toNat < es.length := by
    rcases List.getElem?_eq_some_iff.1 he with ⟨h, _⟩; exact h
  rcases hr with hr | ⟨b, off, rfl, hS, hr⟩
  · omega
  · obtain ⟨_, hcs⟩ := repEs_get hr he
    refine ⟨.pointer (some ⟨b, off + i.toNat * k, none⟩), ?_, by simp only [Rep]; exact ⟨b, _, rfl, hS, hcs⟩⟩
    simp only [execOp, ho, hx', h']
    simp [Sem.run_bind, run_indexAt_sl ht w b off n cap q i h0 (by omega)]

/-- The element of a row of the call's own. -/
theorem stp_indexAddr_row {x y : Operand} {t e : TypeId} {k l : Nat} {cs : List AV} {q : IntKind} {i : Int} (ho : o.op = .indexAddr t x y) (ht : slB P t e k = true) (hx : ev σ.T x = some (.row l)) (hl : ok σ.O l = some (.row e k cs)) (hy : ev σ.T y = some (.imm (.int q i)))
    (h0 : 0 ≤ i) (he : i.toNat * k + k ≤ cs.length) (hk : 0 < k) : Stp P c N o σ [l] (.ptr l (i.toNat * k)) [] := by
  refine stp_value fun σ' h1 h2 a w ρ S hc => ?_
  have h := ev_rep hc (h1 x (by simp [ho, Op.operands]) _ hx)
  have h' := ev_rep hc (h1 y (by simp [ho, Op.operands]) _ hy)
  simp only [Rep] at h h'
  obtain ⟨n, xs, h3, h4, h5⟩ := hc.O l _ (h2 l (by simp) _ hl)
  have hlen := h5.length
  obtain ⟨hU, hx', _⟩ := h
  obtain ⟨h6, h7⟩ := h3
  rcases h7 with ⟨_, rfl⟩ | ⟨g, cap, cur, hv, _⟩
  · rw [Nat.zero_mul] at h6; omega
  · have hin : i < (n : Int) := by
      have : i.toNat * k + k ≤ n * k := by omega
      have : (i.toNat + 1) * k ≤ n * k := by rw [Nat.add_mul]; omega
      have := Nat.le_of_mul_le_mul_right this hk
      omega
    refine ⟨.pointer (some ⟨g, i.toNat * k, none⟩), ?_, by simp only [Rep]; exact ⟨hU, g, by rw [hv]; rfl, rfl⟩⟩
    rw [hv] at hx'
    simp only [execOp, ho, hx', h']
    simp [Sem.run_bind, run_indexAt_sl ht w g 0 n cap q i h0 hin]

theorem stp_indexAddr_rowd {x y : Operand} {t e : TypeId} {k l : Nat} {f : Bool} {es : List (List D)} {q : IntKind} {i : Int} (ho : o.op = .indexAddr t x y) (ht : slB P t e k = true) (hx : ev σ.T x = some (.row l)) (hl : ok σ.O l = some (.rowd e k f es)) (hy : ev σ.T y = some (.imm (.int q i)))
    (h0 : 0 ≤ i) (he : i.toNat < es.length) : Stp P c N o σ [l] (.ptr l (i.toNat * k)) [] := by
  refine stp_value fun σ' h1 h2 a w ρ S hc => ?_
  have h := ev_rep hc (h1 x (by simp [ho, Op.operands]) _ hx)
  have h' := ev_rep hc (h1 y (by simp [ho, Op.operands]) _ hy)
  simp only [Rep] at h h'
  obtain ⟨_, xs, h3, h4, h5⟩ := hc.O l _ (h2 l (by simp) _ hl)
  obtain ⟨hU, hx', _⟩ := h
  obtain ⟨h6, h7⟩ := h3
  rcases h7 with ⟨_, h8⟩ | ⟨g, cap, cur, hv, _⟩
  · omega
  · refine ⟨.pointer (some ⟨g, i.toNat * k, none⟩), ?_, by simp only [Rep]; exact ⟨hU, g, by rw [hv]; rfl, rfl⟩⟩
    rw [hv] at hx'
    simp only [execOp, ho, hx', h']
    simp [Sem.run_bind, run_indexAt_sl ht w g 0 es.length cap q i h0 (by omega)]

theorem flatten_get {α : Type} {k : Nat} : ∀ {es : List (List α)}, (∀ d ∈ es, d.length = k) → ∀ (i : Nat) {ds : List α}, es[i]? = some ds → ∀ j n, j + n ≤ k → ((es.flatten.drop (i * k + j)).take n) = (ds.drop j).take n
  | [], _, i, ds, h, _, _, _ => by simp at h
  | u :: es, hk, 0, ds, h, j, n, hj => by
    simp only [List.getElem?_cons_zero, Option.some.injEq] at h; subst h
    have hu : u.length = k := hk u (by simp)
    simp only [Nat.zero_mul, Nat.zero_add, List.flatten_cons]
    rw [List.drop_append_of_le_length (by omega), List.take_append_of_le_length (by simp; omega)]
  | u :: es, hk, i + 1, ds, h, j, n, hj => by
    have hu : u.length = k := hk u (by simp)
    have := flatten_get (es := es) (fun d hd => hk d (by simp [hd])) i (ds := ds) (by simpa using h) j n hj
    rw [← this, List.flatten_cons, show (i + 1) * k + j = u.length + (i * k + j) from by rw [hu, Nat.add_mul]; omega, List.drop_append, List.drop_eq_nil_of_le (by omega), List.nil_append, Nat.add_sub_cancel_left]

theorem stp_load_rowd {x : Operand} {t e : TypeId} {l off n k i j : Nat} {b f : Bool} {es : List (List D)} {ds : List D} {v : AV} (ho : o.op = .load t x) (ht : tfB P t b n = true) (hx : ev σ.T x = some (.ptr l off)) (hl : ok σ.O l = some (.rowd e k f es))
    (hoff : off = i * k + j) (he : es[i]? = some ds) (hn : j + n ≤ k) (h0 : 0 < n) (hv : mkA b n (lift f ((ds.drop j).take n)) = some v) : Stp P c N o σ [l] v [] := by
  refine stp_value fun σ' h1 h2 a w ρ S hc => ?_
  obtain ⟨g, hg, hx'⟩ := eval_ptr hc (h1 x (by simp [ho, Op.operands]) _ hx)
  obtain ⟨h0', xs, h3, h4, h5⟩ := hc.O l _ (h2 l (by simp) _ hl)
  have hlen := h5.length
  have hcells := row_cells_get h3 hg
  have hi : i < es.length := by rcases List.getElem?_eq_some_iff.1 he with ⟨h, _⟩; exact h
  have hxl : xs.length = es.length * k := h3.1
  have hik : i * k + k ≤ es.length * k := by
    have := Nat.mul_le_mul_right k (show i + 1 ≤ es.length by omega)
    rw [Nat.add_mul] at this; omega
  have hr := (h5.drop off).take n
  have hcut : ((lift f es.flatten).drop off).take n = lift f ((ds.drop j).take n) := by
    simp only [lift, ← List.map_drop, ← List.map_take]
    rw [hoff, flatten_get h0' i he j n hn]
  rw [hcut] at hr
  refine ⟨mkV b ((xs.drop off).take n), ?_, rep_mkA hv (fun y hy => h4 y (List.mem_of_mem_drop (List.mem_of_mem_take hy))) hr⟩
  simp only [execOp, ho, hx', Instr.loadAt, Instr.sureAddr]
  have := run_loadVar_cells (P := P) ht w g off ((xs.drop off).take n) (by simp; omega) (fun j v hv => hcells _ _ (take_get hv))
  simp [Sem.run_bind, this]

theorem stp_extract {x : Operand} {i : Nat} {vs : List AV} {v : AV} (ho : o.op = .extract x i) (hx : ev σ.T x = some (.tup vs)) (hv : vs[i]? = some v) : Stp P c N o σ [] v [] := by
  refine stp_value fun σ' h1 h2 a w ρ S hc => ?_
  have h := ev_rep hc (h1 x (by simp [ho, Op.operands]) _ hx)
  simp only [Rep] at h
  obtain ⟨xs, hx', hr⟩ := h
  obtain ⟨y, hy, hv'⟩ := hr.get hv
  refine ⟨y, ?_, hv'⟩
  simp only [execOp, ho, hx', Instr.extract]
  simp [Sem.run_bind, hy]

theorem stp_nilCheck {x : Operand} {l off : Nat} (ho : o.op = .nilCheck x) (hx : ev σ.T x = some (.ptr l off)) : Stp P c N o σ [] (.ptr l off) [] := by
  refine stp_value fun σ' h1 h2 a w ρ S hc => ?_
  have h := ev_rep hc (h1 x (by simp [ho, Op.operands]) _ hx)
  have h' := h
  simp only [Rep] at h
  obtain ⟨hU, g, hg, hx'⟩ := h
  refine ⟨a.eval x, ?_, h'⟩
  simp only [execOp, ho, hx']
  rfl

theorem repL_evs {a : Act} {w : World} {ρ : Nat → Value} {S : Bool → Nat → Prop} {σ σ' : St} (hc : Conc c N σ' a w ρ S) : ∀ {xs : List Operand} {vs : List AV}, (∀ x ∈ xs, ∀ u, ev σ.T x = some u → ev σ'.T x = some u) → xs.map (ev σ.T) = vs.map some → RepL w ρ S σ'.U vs (xs.map a.eval)
  | [], [], _, _ => by simp [RepL]
  | [], _ :: _, _, h => by simp at h
  | _ :: _, [], _, h => by simp at h
  | x :: xs, v :: vs, h1, h => by
    simp only [List.map_cons, List.cons.injEq] at h
    simp only [List.map_cons, RepL]
    exact ⟨_, _, rfl, ev_rep hc (h1 x (by simp) v h.1), repL_evs hc (fun y hy => h1 y (by simp [hy])) h.2⟩

theorem stp_makeFunc {g : FuncId} {xs : List Operand} {vs : List AV} (ho : o.op = .makeFunc (.func g) #[] xs.toArray) (hx : xs.map (ev σ.T) = vs.map some) : Stp P c N o σ [] (.fn g vs) [] := by
  refine stp_value fun σ' h1 h2 a w ρ S hc => ?_
  refine ⟨.func (.func g) #[] (xs.map a.eval).toArray, ?_, ?_⟩
  · simp only [execOp, ho, Instr.makeFunc]
    simp
  · simp only [Rep]
    exact ⟨_, rfl, repL_evs hc (fun x hx => h1 x (by simp [ho, Op.operands, hx])) hx⟩

end
end Go.Proofs.Ytdecgkhdbfgldaa
