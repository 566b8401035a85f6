/- Plain proof kit of this session, tenth part: regions whose order is drawn: what the text's order leaves, each order leaves. -/
import Derived.Test.YtdecgkhdbfgldaaSymI
set_option linter.unusedVariables false
set_option linter.unusedSimpArgs false
namespace Go.Proofs.Ytdecgkhdbfgldaa
open Go

structure MS where
  need : List Nat
  v : AV
  new : List (Nat × Ob)
  old : List Nat := []

def deps (o : Oper) : List Nat := (o.after.toList.filter (Region.binds .any)).map (·.on)

/-- o needs its operands and the objects 'need', and adds v at its place and the objects 'new', of which 'old' may have been there. -/
def StpU (P : Program) (c : Ctx) (N : Nat) (o : Oper) (σ : St) (need : List Nat) (v : AV) (new : List (Nat × Ob)) (old : List Nat) : Prop :=
  (∀ d, o.dst = some d → d < N) → ∀ σ' : St, (∀ x ∈ o.op.operands, ∀ u, ev σ.T x = some u → ev σ'.T x = some u) → (∀ l ∈ need, ∀ ob, ok σ.O l = some ob → ok σ'.O l = some ob) → (∀ p ∈ new, p.1 ∉ old → ok σ'.O p.1 = none) →
    AOp P c N o σ' (fun σ2 => σ2 = σ'.add o.dst v new)

/-- One operation in the order of the text: run, or passed over. -/
inductive MStep (P : Program) (c : Ctx) (N : Nat) (ops : Array Oper) (o : Oper) (σ : St) : MS → Prop where
  | run {need : List Nat} {v : AV} {new : List (Nat × Ob)} (hg : o.guard = none) (h : Stp P c N o σ need v new) : MStep P c N ops o σ ⟨need, v, new, []⟩
  | want {j t : Nat} {b : Bool} {need : List Nat} {v : AV} {new : List (Nat × Ob)} (hg : o.guard = some (j, b)) (hj : (ops[j]?).bind (·.dst) = some t) (ht : lk σ.T t = some (.imm (.bool b))) (htN : t < N) (h : Stp P c N o σ need v new) : MStep P c N ops o σ ⟨need, v, new, []⟩
  | skip {j t : Nat} {b b' : Bool} (hg : o.guard = some (j, b)) (hj : (ops[j]?).bind (·.dst) = some t) (ht : lk σ.T t = some (.imm (.bool b'))) (hb : b' ≠ b) (htN : t < N) : MStep P c N ops o σ ⟨[], .imm undef, [], []⟩
  | skipu {j t : Nat} {b : Bool} (hg : o.guard = some (j, b)) (hj : (ops[j]?).bind (·.dst) = some t) (ht : lk σ.T t = some (.imm undef)) (htN : t < N) : MStep P c N ops o σ ⟨[], .imm undef, [], []⟩
  | upd {need : List Nat} {v : AV} {new : List (Nat × Ob)} {old : List Nat} (hg : o.guard = none) (h : StpU P c N o σ need v new old) : MStep P c N ops o σ ⟨need, v, new, old⟩

/-- Operations in the order of the text. -/
inductive MRun (P : Program) (c : Ctx) (N : Nat) (ops : Array Oper) : List Oper → St → List MS → St → Prop where
  | nil {σ : St} : MRun P c N ops [] σ [] σ
  | cons {o : Oper} {os : List Oper} {σ σ' : St} {m : MS} {ms : List MS} (hd : ∀ d, o.dst = some d → d < N) (h : MStep P c N ops o σ m) (r : MRun P c N ops os (σ.add o.dst m.v m.new) ms σ') : MRun P c N ops (o :: os) σ (m :: ms) σ'

/-- What of the operations alone makes the order of the first n of them idle. -/
def chkO (ops : Array Oper) (n : Nat) : Bool :=
  (List.range n).all fun i => match ops[i]? with
    | none => false
    | some o =>
      (o.op.operands.toList.all fun x => match x with
        | .tmp t => (List.range n).all fun j => j == i || ((ops[j]?).bind (·.dst) != some t) || (decide (j < i) && (deps o).contains j)
        | _ => true) &&
      (match o.guard with
        | none => true
        | some (j, _) => decide (j < i) && (deps o).contains j) &&
      ((List.range n).all fun j => j == i || o.dst == none || ((ops[j]?).bind (·.dst) != o.dst))

/-- Edges lead back. -/
def chkE (ops : Array Oper) : Bool := (List.range ops.size).all fun i => match ops[i]? with
  | none => false
  | some o => (deps o).all fun d => decide (d < i)

def reachF (ops : Array Oper) : Nat → Nat → Nat → Bool
  | 0, _, _ => false
  | k + 1, j, i => match ops[j]? with
    | none => false
    | some o => (deps o).any fun d => d == i || reachF ops k d i
/-- From the n-th on each hangs on all ahead. -/
def chkS (ops : Array Oper) (n : Nat) : Bool := (List.range ops.size).all fun j => decide (j < n) || (List.range j).all fun i => reachF ops ops.size j i

/-- The places of objects. -/
def chkN (ops : Array Oper) (ms : List MS) : Bool :=
  (List.range ms.length).all fun i => match ops[i]?, ms[i]? with
    | some o, some m =>
      (m.need.all fun l => (List.range ms.length).all fun j => match ms[j]? with
        | some m' => !(m'.new.map (·.1)).contains l || (decide (j < i) && (deps o).contains j) || j == i || (decide (i < j) && (match ops[j]? with | some o' => (deps o').contains i | none => false))
        | none => true) &&
      ((m.new.map (·.1)).all fun l => (List.range ms.length).all fun j => match ms[j]? with
        | some m' => j == i || !(m'.new.map (·.1)).contains l || (decide (j < i) && (deps o).contains j && m.old.contains l) || (decide (i < j) && (match ops[j]? with | some o' => (deps o').contains i | none => false))
        | none => true)
    | _, _ => false

section
variable {P : Program} {c : Ctx} {N : Nat} {Q : Exit → St → Prop} {σ : St} {ops : Array Oper}

/-- A run, place by place. -/
theorem MRun.at {os : List Oper} {σ σ' : St} {ms : List MS} (h : MRun P c N ops os σ ms σ') : ms.length = os.length ∧ ∃ F : Nat → St, F 0 = σ ∧ F os.length = σ' ∧
    ∀ (i : Nat) (o : Oper), os[i]? = some o → ∃ m, ms[i]? = some m ∧ (∀ d, o.dst = some d → d < N) ∧ MStep P c N ops o (F i) m ∧ F (i + 1) = (F i).add o.dst m.v m.new := by
  induction h with
  | nil => exact ⟨rfl, fun _ => _, rfl, rfl, by simp⟩
  | @cons o os σ σ' m ms hd hs hr ih =>
    obtain ⟨hl, F, h0, h1, h2⟩ := ih
    refine ⟨by simp [hl], fun i => match i with | 0 => σ | i + 1 => F i, rfl, by simpa using h1, ?_⟩
    intro i o' ho
    cases i with
    | zero =>
      simp only [List.getElem?_cons_zero, Option.some.injEq] at ho; subst ho
      exact ⟨m, by simp, hd, hs, h0⟩
    | succ i =>
      obtain ⟨m', hm, k1, k2, k3⟩ := h2 i o' (by simpa using ho)
      exact ⟨m', by simpa using hm, k1, k2, k3⟩

/-- What lookups a state has in which the operations 'D' of the first n are done. -/
def AtD (ops : Array Oper) (ms : List MS) (σ0 : St) (D : Nat → Prop) (σ : St) : Prop :=
  (∀ t, (∃ j m, D j ∧ ms[j]? = some m ∧ (ops[j]?).bind (·.dst) = some t ∧ lk σ.T t = some m.v) ∨ ((∀ j, D j → j < ms.length → (ops[j]?).bind (·.dst) ≠ some t) ∧ lk σ.T t = lk σ0.T t)) ∧
  (∀ l, (∃ j m, D j ∧ ms[j]? = some m ∧ l ∈ m.new.map (·.1) ∧ (∀ j' m', D j' → ms[j']? = some m' → j < j' → l ∉ m'.new.map (·.1)) ∧ ok σ.O l = ok m.new l) ∨ ((∀ j m, D j → ms[j]? = some m → l ∉ m.new.map (·.1)) ∧ ok σ.O l = ok σ0.O l))

theorem ok_none_of_not_mem : ∀ {L : List (Nat × Ob)} {l : Nat}, l ∉ L.map (·.1) → ok L l = none
  | [], l, _ => rfl
  | (s, v) :: L, l, h => by
    simp only [List.map_cons, List.mem_cons, not_or] at h
    rw [ok_cons, if_neg (fun e => h.1 e.symm)]
    exact ok_none_of_not_mem h.2
theorem ok_some_of_mem : ∀ {L : List (Nat × Ob)} {l : Nat}, l ∈ L.map (·.1) → ∃ v, ok L l = some v
  | [], l, h => by simp at h
  | (s, v) :: L, l, h => by
    rw [ok_cons]
    split
    · exact ⟨v, rfl⟩
    · rename_i hne
      simp only [List.map_cons, List.mem_cons] at h
      rcases h with h | h
      · exact absurd h.symm hne
      · exact ok_some_of_mem h

theorem lk_add (σ : St) (d : Option Nat) (v : AV) (new : List (Nat × Ob)) (t : Nat) : lk (σ.add d v new).T t = if d = some t then some v else lk σ.T t := by
  cases d with
  | none => simp [St.add]
  | some d => simp only [St.add, lk_cons, Option.some.injEq]
theorem ok_add (σ : St) (d : Option Nat) (v : AV) (new : List (Nat × Ob)) (l : Nat) : ok (σ.add d v new).O l = (match ok new l with | some o => some o | none => ok σ.O l) := by
  cases d <;> simp only [St.add, ok_append] <;> rfl

/-- One more is done. -/
theorem AtD.add {ms : List MS} {σ0 : St} {D : Nat → Prop} {σ : St} (h : AtD ops ms σ0 D σ) {i : Nat} {o : Oper} {m : MS} (ho : ops[i]? = some o) (hm : ms[i]? = some m)
    (h1 : ∀ j, D j → j < ms.length → j ≠ i → ∀ d, o.dst = some d → (ops[j]?).bind (·.dst) ≠ some d) (h2 : ∀ j m', D j → ms[j]? = some m' → j ≠ i → ∀ l, l ∈ m.new.map (·.1) → l ∈ m'.new.map (·.1) → j < i) :
    AtD ops ms σ0 (fun j => D j ∨ j = i) (σ.add o.dst m.v m.new) := by
  have hil : i < ms.length := by rcases List.getElem?_eq_some_iff.1 hm with ⟨h, _⟩; exact h
  refine ⟨fun t => ?_, fun l => ?_⟩
  · by_cases hd : o.dst = some t
    · exact .inl ⟨i, m, .inr rfl, hm, by simp [ho, hd], by rw [lk_add, if_pos hd]⟩
    · rw [lk_add, if_neg hd]
      rcases h.1 t with ⟨j, m', k1, k2, k3, k4⟩ | ⟨k1, k2⟩
      · exact .inl ⟨j, m', .inl k1, k2, k3, k4⟩
      · refine .inr ⟨fun j hj hlt => ?_, k2⟩
        rcases hj with hj | rfl
        · exact k1 j hj hlt
        · simpa [ho] using hd
  · by_cases hl : l ∈ m.new.map (·.1)
    · obtain ⟨v, hv⟩ := ok_some_of_mem hl
      refine .inl ⟨i, m, .inr rfl, hm, hl, fun j' m' hj' hm' hlt hin => ?_, by rw [ok_add, hv]⟩
      rcases hj' with hj' | rfl
      · have := h2 j' m' hj' hm' (by omega) l hl hin; omega
      · omega
    · rw [ok_add, ok_none_of_not_mem hl]
      simp only
      rcases h.2 l with ⟨j, m', k1, k2, k3, kx, k4⟩ | ⟨k1, k2⟩
      · refine .inl ⟨j, m', .inl k1, k2, k3, fun j' m'' hj' hm' hlt => ?_, k4⟩
        rcases hj' with hj' | rfl
        · exact kx j' m'' hj' hm' hlt
        · rw [hm] at hm'; simp only [Option.some.injEq] at hm'; subst hm'; exact hl
      · refine .inr ⟨fun j m' hj hm' => ?_, k2⟩
        rcases hj with hj | rfl
        · exact k1 j m' hj hm'
        · rw [hm] at hm'; simp only [Option.some.injEq] at hm'; subst hm'; exact hl

theorem AtD.congr {ms : List MS} {σ0 : St} {D D' : Nat → Prop} {σ : St} (h : AtD ops ms σ0 D σ) (hD : ∀ j, j < ms.length → (D j ↔ D' j)) : AtD ops ms σ0 D' σ := by
  have hlt : ∀ j m, ms[j]? = some m → j < ms.length := fun j m hm => by rcases List.getElem?_eq_some_iff.1 hm with ⟨h, _⟩; exact h
  refine ⟨fun t => ?_, fun l => ?_⟩
  · rcases h.1 t with ⟨j, m', k1, k2, k3, k4⟩ | ⟨k1, k2⟩
    · exact .inl ⟨j, m', (hD j (hlt j m' k2)).1 k1, k2, k3, k4⟩
    · exact .inr ⟨fun j hj hl => k1 j ((hD j hl).2 hj) hl, k2⟩
  · rcases h.2 l with ⟨j, m', k1, k2, k3, kx, k4⟩ | ⟨k1, k2⟩
    · exact .inl ⟨j, m', (hD j (hlt j m' k2)).1 k1, k2, k3, fun j' m'' hj' hm' => kx j' m'' ((hD j' (hlt j' m'' hm')).2 hj') hm', k4⟩
    · exact .inr ⟨fun j m' hj hm' => k1 j m' ((hD j (hlt j m' hm')).2 hj) hm', k2⟩

theorem sub_lookups {σ σ' : St} (hT : ∀ t, lk σ'.T t = lk σ.T t) (hO : ∀ l, ok σ'.O l = ok σ.O l) : Sub c N σ σ' := by
  rintro a w ⟨ρ, S, hc⟩
  have hU : ∀ l, σ.U l → σ'.U l := fun l h => by simp only [St.U, hO] at h ⊢; exact h
  refine ⟨ρ, S, ⟨hc.tm, hc.df, fun t v ht => (hc.T t v (by rw [← hT]; exact ht)).mono (fun _ _ h => h) (fun _ _ _ => rfl) hU (fun _ _ => rfl), fun l ob hl => (hc.O l ob (by rw [← hO]; exact hl)).mono (fun _ _ h => h) (fun _ _ _ => rfl) hU (fun _ _ => rfl) (by simp only [St.U]; rw [← hO, hl]; rfl) (fun _ _ => rfl),
    fun l l' ob ob' b h1 h2 => hc.dj l l' ob ob' b (by rw [← hO]; exact h1) (by rw [← hO]; exact h2), fun l ob b f h1 => hc.dS l ob b f (by rw [← hO]; exact h1), fun l ob b h1 => hc.wr l ob b (by rw [← hO]; exact h1), fun l ob b h1 => hc.lt l ob b (by rw [← hO]; exact h1), hc.SS, hc.Sb, hc.Sn, hc.So, fun l hl => ?_, hc.fm⟩⟩
  obtain ⟨h1, h2⟩ := hc.lo l hl
  exact ⟨by rw [hO]; exact h1, h2⟩

/-- The world has drawn: nothing else. -/
theorem C_drawn {a : Act} {w : World} {n : Nat} (h : C c N σ a w) : C c N σ a { w with drawn := n } := by
  obtain ⟨ρ, S, hc⟩ := h
  exact ⟨ρ, S, hc.grow (W := fun _ => False) ⟨rfl, rfl, rfl, Nat.le_refl _, fun _ _ _ => rfl⟩ (fun _ _ _ h => h) (fun _ _ _ _ _ _ h => h) (fun _ _ h => h.elim)⟩

theorem yielded_of {a : Act} {w : World} {ρ : Nat → Value} {S : Bool → Nat → Prop} (hc : Conc c N σ a w ρ S) {j t : Nat} {b : Bool} (hj : (ops[j]?).bind (·.dst) = some t) (ht : lk σ.T t = some (.imm (.bool b))) (htN : t < N) : yielded ops a.tmps j = some b := by
  have h1 := hc.T t _ ht
  simp only [Rep] at h1
  have hlt : t < a.tmps.size := by rw [hc.tm]; exact htN
  have h2 : a.tmps[t]? = some (.bool b) := by
    rw [Array.getD_eq_getD_getElem?, Array.getElem?_eq_getElem hlt] at h1
    rw [Array.getElem?_eq_getElem hlt]
    simpa using h1
  simp [yielded, hj, h2]

theorem yielded_undef {a : Act} {w : World} {ρ : Nat → Value} {S : Bool → Nat → Prop} (hc : Conc c N σ a w ρ S) {j t : Nat} (hj : (ops[j]?).bind (·.dst) = some t) (ht : lk σ.T t = some (.imm undef)) (htN : t < N) : yielded ops a.tmps j = none := by
  have h1 := hc.T t _ ht
  simp only [Rep] at h1
  have h2 : a.tmps[t]? = some undef := by
    have hlt : t < a.tmps.size := by rw [hc.tm]; exact htN
    rw [Array.getD_eq_getD_getElem?] at h1
    rw [Array.getElem?_eq_getElem hlt] at h1 ⊢
    simpa using h1
  simp [yielded, hj, h2, undef]
theorem mem_ready' {i : Nat} {listed : Array Bool} (h : i ∈ Region.ready .any ops listed) : i < ops.size ∧ listed.getD i true = false ∧ ∃ o, ops[i]? = some o ∧ ∀ d ∈ deps o, listed.getD d false = true := by
  unfold Region.ready at h
  rw [List.mem_filter] at h
  obtain ⟨h1, h2⟩ := h
  have hlt : i < ops.size := by simpa using h1
  simp only [Bool.and_eq_true, Bool.not_eq_true'] at h2
  obtain ⟨h2, h3⟩ := h2
  refine ⟨hlt, h2, ops[i], by simp [hlt], fun d hd => ?_⟩
  simp only [Array.getElem?_eq_getElem hlt, Option.map_some, Option.getD_some] at h3
  simp only [deps, List.mem_map, List.mem_filter] at hd
  obtain ⟨e, ⟨he, hb⟩, rfl⟩ := hd
  have := (Array.all_eq_true_iff_forall_mem.1 h3) e (by simpa using he)
  simpa [hb] using this

theorem ready_of {i : Nat} {listed : Array Bool} {o : Oper} (ho : ops[i]? = some o) (h1 : listed.getD i true = false) (h2 : ∀ d ∈ deps o, listed.getD d false = true) : i ∈ Region.ready .any ops listed := by
  have hlt : i < ops.size := by rcases Array.getElem?_eq_some_iff.1 ho with ⟨h, _⟩; exact h
  unfold Region.ready
  rw [List.mem_filter]
  refine ⟨by simpa using hlt, ?_⟩
  simp only [Bool.and_eq_true, Bool.not_eq_true']
  refine ⟨h1, ?_⟩
  rw [ho]
  simp only [Option.map_some, Option.getD_some]
  refine Array.all_eq_true_iff_forall_mem.2 fun e he => ?_
  by_cases hb : Region.binds .any e = true
  · simp only [hb, Bool.not_true, Bool.false_or]
    exact h2 e.on (by simp only [deps, List.mem_map, List.mem_filter]; exact ⟨e, ⟨by simpa using he, hb⟩, rfl⟩)
  · simp [hb]

theorem reach_listed {listed : Array Bool} (hcl : ∀ j o, ops[j]? = some o → listed.getD j false = true → ∀ d ∈ deps o, listed.getD d false = true) : ∀ (k j i : Nat) (o : Oper), ops[j]? = some o → (∀ d ∈ deps o, listed.getD d false = true) → reachF ops k j i = true → listed.getD i false = true
  | 0, j, i, o, _, _, h => by simp [reachF] at h
  | k + 1, j, i, o, ho, hd, h => by
    simp only [reachF, ho, List.any_eq_true, Bool.or_eq_true, beq_iff_eq] at h
    obtain ⟨d, hdm, h | h⟩ := h
    · subst h; exact hd d hdm
    · cases hod : ops[d]? with
      | none => cases k <;> simp [reachF, hod] at h
      | some od => exact reach_listed hcl k d i od hod (fun e he => hcl d od hod (hd d hdm) e he) h

theorem getD_setTrue {listed : Array Bool} {i j : Nat} (d : Bool) (hi : i < listed.size) : (listed.setIfInBounds i true).getD j d = if j = i then true else listed.getD j d := by
  rw [Array.getD_eq_getD_getElem?, Array.getD_eq_getD_getElem?, Array.getElem?_setIfInBounds]
  by_cases h : i = j
  · subst h; simp [hi]
  · simp [h, Ne.symm h]

theorem getD_ff {listed : Array Bool} {i : Nat} (hi : i < listed.size) (d d' : Bool) : listed.getD i d = listed.getD i d' := by
  rw [Array.getD_eq_getD_getElem?, Array.getD_eq_getD_getElem?, Array.getElem?_eq_getElem hi]; rfl

/-- The second phase: all ahead of m is done. -/
theorem any_rest (hE : chkE ops = true) {n : Nat} (hS : chkS ops n = true) : ∀ (fuel m : Nat) (listed : Array Bool) (a : Act) (w : World), n ≤ m → listed.size = ops.size → (∀ i, i < ops.size → (listed.getD i false = true ↔ i < m)) → ops.size ≤ m + fuel →
    wpList P ops (wQ c N Q) (ops.toList.drop m) a w → wpAny P .any ops (wQ c N Q) fuel listed a w := by
  have hdep : ∀ i o, ops[i]? = some o → ∀ d ∈ deps o, d < i := by
    intro i o ho d hd
    have hlt : i < ops.size := by rcases Array.getElem?_eq_some_iff.1 ho with ⟨h, _⟩; exact h
    have := (List.all_eq_true.1 hE) i (by simpa using hlt)
    rw [ho] at this
    have := (List.all_eq_true.1 this) d hd
    simpa using this
  have hreach : ∀ j, n ≤ j → j < ops.size → ∀ i, i < j → reachF ops ops.size j i = true := by
    intro j hj hlt i hi
    have := (List.all_eq_true.1 hS) j (by simpa using hlt)
    simp only [Bool.or_eq_true, decide_eq_true_eq] at this
    rcases this with h | h
    · omega
    · exact (List.all_eq_true.1 h) i (by simpa using hi)
  intro fuel
  have hready : ∀ (m : Nat) (listed : Array Bool), n ≤ m → listed.size = ops.size → (∀ i, i < ops.size → (listed.getD i false = true ↔ i < m)) → ∀ i ∈ Region.ready .any ops listed, i = m ∧ m < ops.size := by
    intro m listed hm hsz hl i hi
    obtain ⟨h1, h2, o, ho, h3⟩ := mem_ready' hi
    have hnot : ¬ i < m := fun h => by
      have := (hl i h1).2 h
      rw [getD_ff (by omega) false true, h2] at this; cases this
    by_cases he : i = m
    · exact ⟨he, by omega⟩
    · exfalso
      have hr := hreach i (by omega) h1 m (by omega)
      have hm' := reach_listed (listed := listed) (fun j oj hoj hlj d hd => by
        have hjl : j < ops.size := by rcases Array.getElem?_eq_some_iff.1 hoj with ⟨h, _⟩; exact h
        have hjm := (hl j hjl).1 hlj
        have hdj := hdep j oj hoj d hd
        exact (hl d (by omega)).2 (by omega)) _ i m o ho h3 hr
      have := (hl m (by omega)).1 hm'
      omega
  have hempty : ∀ (m : Nat) (listed : Array Bool), listed.size = ops.size → (∀ i, i < ops.size → (listed.getD i false = true ↔ i < m)) → m < ops.size → Region.ready .any ops listed ≠ [] := by
    intro m listed hsz hl hlt he
    have : m ∈ Region.ready .any ops listed := ready_of (o := ops[m]) (by simp [hlt]) (by
      have h1 : ¬ listed.getD m false = true := fun h => by have := (hl m hlt).1 h; omega
      rw [getD_ff (by omega) true false]; simpa using h1) (fun d hd => by
      have hdm := hdep m ops[m] (by simp [hlt]) d hd
      exact (hl d (by omega)).2 hdm)
    rw [he] at this; simp at this
  induction fuel with
  | zero =>
    intro m listed a w hm hsz hl hf hw
    have hr : Region.ready .any ops listed = [] := by
      rw [List.eq_nil_iff_forall_not_mem]
      intro i hi
      have := hready m listed hm hsz hl i hi
      omega
    refine ⟨hr, ?_⟩
    rw [List.drop_eq_nil_of_le (by simpa using hf)] at hw
    exact hw
  | succ fuel ih =>
    intro m listed a w hm hsz hl hf hw
    refine ⟨fun he => ?_, fun i hi => ?_⟩
    · by_cases hlt : m < ops.size
      · exact absurd he (hempty m listed hsz hl hlt)
      · rw [List.drop_eq_nil_of_le (by simpa using Nat.le_of_not_lt hlt)] at hw
        exact hw
    · obtain ⟨rfl, hlt⟩ := hready m listed hm hsz hl i hi
      have hdrop : ops.toList.drop i = ops[i] :: ops.toList.drop (i + 1) := by
        rw [List.drop_eq_getElem_cons (by simpa using hlt)]; simp
      rw [hdrop] at hw
      have hl' : ∀ k, k < ops.size → ((listed.setIfInBounds i true).getD k false = true ↔ k < i + 1) := by
        intro k hk
        rw [getD_setTrue false (by omega)]
        by_cases he : k = i
        · simp [he]
        · rw [if_neg he, hl k hk]; omega
      have hK : ∀ a w, wpList P ops (wQ c N Q) (ops.toList.drop (i + 1)) a w → wpAny P .any ops (wQ c N Q) fuel (listed.setIfInBounds i true) a w := fun a w h => ih (i + 1) _ a w (by omega) (by simp [hsz]) hl' (by omega) h
      unfold wpOp
      simp only [Array.getElem?_eq_getElem hlt]
      unfold wpList at hw
      split
      · rename_i hwn
        rw [if_pos hwn] at hw
        exact hw.imp (Oper.wp_mono hK) id
      · rename_i hwn
        rw [if_neg hwn] at hw
        exact hK _ _ hw

/-- A region whose order is drawn: the first operations by steps in the order of the text, the rest behind. -/
theorem awp_draw {id : Nat} {l l1 l2 : List Oper} {ms : List MS} {σ' : St} (hm : P.follows .mixedOrders = true) (hl : l = l1 ++ l2) (hC : chkO l.toArray l1.length = true) (hE : chkE l.toArray = true) (hS : chkS l.toArray l1.length = true)
    (hr : MRun P c N l.toArray l1 σ ms σ') (hN : chkN l.toArray ms = true) (hnew : ∀ m ∈ ms, ∀ p ∈ m.new, p.1 ∉ m.old → ok σ.O p.1 = none) (K : awps P c N l.toArray l2 Q σ') : awp P c N (.region id l.toArray true) Q σ := by
  obtain ⟨hml, F, hF0, hFn, hFs⟩ := hr.at
  have hop : ∀ i, i < l1.length → l.toArray[i]? = l1[i]? := fun i hi => by
    rw [List.getElem?_toArray, hl, List.getElem?_append_left hi]
  have hlsz : l.toArray.size = l1.length + l2.length := by simp [hl]
  -- the checks, place by place
  have hC1 : ∀ i o, l1[i]? = some o → (∀ t, .tmp t ∈ o.op.operands → ∀ j, j < l1.length → j ≠ i → (l.toArray[j]?).bind (·.dst) = some t → j < i ∧ j ∈ deps o) ∧ (∀ j b, o.guard = some (j, b) → j < i ∧ j ∈ deps o) ∧ (∀ d, o.dst = some d → ∀ j, j < l1.length → j ≠ i → (l.toArray[j]?).bind (·.dst) ≠ some d) := by
    intro i o ho
    have hi : i < l1.length := by rcases List.getElem?_eq_some_iff.1 ho with ⟨h, _⟩; exact h
    have := (List.all_eq_true.1 hC) i (by simpa using hi)
    rw [hop i hi, ho] at this
    simp only [Bool.and_eq_true] at this
    obtain ⟨⟨h1, h2⟩, h3⟩ := this
    refine ⟨fun t ht j hj hne hd => ?_, fun j b hg => ?_, fun d hd j hj hne he => ?_⟩
    · have := (List.all_eq_true.1 h1) (.tmp t) (by simpa using ht)
      have := (List.all_eq_true.1 this) j (by simpa using hj)
      simp only [Bool.or_eq_true, beq_iff_eq, bne_iff_ne, ne_eq, Bool.and_eq_true, decide_eq_true_eq, List.contains_iff_mem] at this
      rcases this with (h | h) | h
      · exact absurd h hne
      · exact absurd hd h
      · exact h
    · rw [hg] at h2
      simpa [List.contains_iff_mem] using h2
    · have := (List.all_eq_true.1 h3) j (by simpa using hj)
      simp only [Bool.or_eq_true, beq_iff_eq, bne_iff_ne, ne_eq] at this
      rcases this with (h | h) | h
      · exact hne h
      · rw [hd] at h; cases h
      · exact h (by rw [hd]; exact he)
  have hN1 : ∀ i o m, l1[i]? = some o → ms[i]? = some m → (∀ k ∈ m.need, ∀ j m', ms[j]? = some m' → k ∈ m'.new.map (·.1) → (j < i ∧ j ∈ deps o) ∨ j = i ∨ (i < j ∧ ∃ o', l.toArray[j]? = some o' ∧ i ∈ deps o')) ∧ (∀ k, k ∈ m.new.map (·.1) → ∀ j m', ms[j]? = some m' → j ≠ i → k ∈ m'.new.map (·.1) → (j < i ∧ j ∈ deps o ∧ k ∈ m.old) ∨ (i < j ∧ ∃ o', l.toArray[j]? = some o' ∧ i ∈ deps o')) := by
    intro i o m ho hmi
    have hi : i < l1.length := by rcases List.getElem?_eq_some_iff.1 ho with ⟨h, _⟩; exact h
    have := (List.all_eq_true.1 hN) i (by simpa using (by omega : i < ms.length))
    rw [hop i hi, ho, hmi] at this
    simp only [Bool.and_eq_true] at this
    obtain ⟨h1, h2⟩ := this
    refine ⟨fun k hk j m' hm' hin => ?_, fun k hk j m' hm' hne hin => ?_⟩
    · have := (List.all_eq_true.1 h1) k hk
      have := (List.all_eq_true.1 this) j (by have : j < ms.length := by { rcases List.getElem?_eq_some_iff.1 hm' with ⟨h, _⟩; exact h }
                                              simpa using this)
      rw [hm'] at this
      simp only [Bool.or_eq_true, Bool.not_eq_true', Bool.and_eq_true, decide_eq_true_eq, List.contains_iff_mem, beq_iff_eq] at this
      rcases this with ((h | h) | h) | h
      · have hc := List.contains_iff_mem.2 hin
        rw [h] at hc; cases hc
      · exact .inl h
      · exact .inr (.inl h)
      · refine .inr (.inr ⟨h.1, ?_⟩)
        have h2 := h.2
        split at h2
        · rename_i o' ho'; exact ⟨o', ho', List.contains_iff_mem.1 h2⟩
        · cases h2
    · have := (List.all_eq_true.1 h2) k hk
      have := (List.all_eq_true.1 this) j (by have : j < ms.length := by { rcases List.getElem?_eq_some_iff.1 hm' with ⟨h, _⟩; exact h }
                                              simpa using this)
      rw [hm'] at this
      simp only [Bool.or_eq_true, Bool.not_eq_true', Bool.and_eq_true, decide_eq_true_eq, List.contains_iff_mem, beq_iff_eq] at this
      rcases this with ((h | h) | h) | h
      · exact absurd h hne
      · have hc := List.contains_iff_mem.2 hin
        rw [h] at hc; cases hc
      · exact .inl ⟨h.1.1, h.1.2, h.2⟩
      · refine .inr ⟨h.1, ?_⟩
        have h2 := h.2
        split at h2
        · rename_i o' ho'; exact ⟨o', ho', List.contains_iff_mem.1 h2⟩
        · cases h2
  have hget : ∀ i, i < l1.length → ∃ o m, l1[i]? = some o ∧ ms[i]? = some m ∧ (∀ d, o.dst = some d → d < N) ∧ MStep P c N l.toArray o (F i) m ∧ F (i + 1) = (F i).add o.dst m.v m.new := by
    intro i hi
    obtain ⟨m, h1, h2, h3, h4⟩ := hFs i l1[i] (by simp [hi])
    exact ⟨l1[i], m, by simp [hi], h1, h2, h3, h4⟩
  -- the text's own states
  have hFD : ∀ i, i ≤ l1.length → AtD l.toArray ms σ (fun j => j < i) (F i) := by
    intro i
    induction i with
    | zero => intro _; rw [hF0]; exact ⟨fun t => .inr ⟨fun j hj => by omega, rfl⟩, fun k => .inr ⟨fun j m hj => by omega, rfl⟩⟩
    | succ i ih =>
      intro hi
      obtain ⟨o, m, ho, hmi, _, _, hstep⟩ := hget i (by omega)
      rw [hstep]
      refine ((ih (by omega)).add (by rw [hop i (by omega)]; exact ho) hmi (fun j hj hlt hne d hd => (hC1 i o ho).2.2 d hd j (by omega) hne) (fun j m' hj hm' hne k hk hin => hj)).congr ?_
      intro j hj
      omega
  -- a step from any state of its kind
  have hgo : ∀ (i : Nat) (o : Oper) (m : MS) (D : Nat → Prop) (τ : St), l1[i]? = some o → ms[i]? = some m → ¬ D i → (∀ d ∈ deps o, D d) → (∀ j o', l.toArray[j]? = some o' → D j → ∀ d ∈ deps o', D d) → AtD l.toArray ms σ D τ →
      (∀ x ∈ o.op.operands, ∀ u, ev (F i).T x = some u → ev τ.T x = some u) ∧ (∀ k ∈ m.need, ∀ ob, ok (F i).O k = some ob → ok τ.O k = some ob) ∧ (∀ p ∈ m.new, p.1 ∉ m.old → ok τ.O p.1 = none) ∧ (∀ j b t, o.guard = some (j, b) → (l.toArray[j]?).bind (·.dst) = some t → lk τ.T t = lk (F i).T t) := by
    intro i o m D τ ho hmi hDi hdep hcls hτ
    have hi : i < l1.length := by rcases List.getElem?_eq_some_iff.1 ho with ⟨h, _⟩; exact h
    have hFi := hFD i (by omega)
    have hmlt : ∀ j m', ms[j]? = some m' → j < l1.length := fun j m' h => by rcases List.getElem?_eq_some_iff.1 h with ⟨h, _⟩; omega
    have huniq : ∀ t j j', j < l1.length → j' < l1.length → (l.toArray[j]?).bind (·.dst) = some t → (l.toArray[j']?).bind (·.dst) = some t → j = j' := by
      intro t j j' hj hj' h1 h2
      by_cases he : j = j'
      · exact he
      · exfalso
        have ho' : l1[j]? = some l1[j] := by simp [hj]
        rw [hop j hj, ho'] at h1
        exact (hC1 j l1[j] ho').2.2 t (by simpa using h1) j' hj' (fun e => he e.symm) h2
    -- a temporary that hangs on nothing later is alike
    have hT : ∀ t, (∀ j, j < l1.length → j ≠ i → (l.toArray[j]?).bind (·.dst) = some t → j < i ∧ j ∈ deps o) → lk τ.T t = lk (F i).T t := by
      intro t ht
      rcases hτ.1 t with ⟨j, mj, k1, k2, k3, k4⟩ | ⟨k1, k2⟩
      · have hj := hmlt j mj k2
        have hne : j ≠ i := fun e => hDi (e ▸ k1)
        obtain ⟨h1, h2⟩ := ht j hj hne k3
        rcases hFi.1 t with ⟨j', mj', q1, q2, q3, q4⟩ | ⟨q1, q2⟩
        · have := huniq t j j' hj (hmlt j' mj' q2) k3 q3
          subst this
          rw [k2] at q2; simp only [Option.some.injEq] at q2; subst q2
          rw [k4, q4]
        · exact absurd k3 (q1 j h1 (by omega))
      · rcases hFi.1 t with ⟨j', mj', q1, q2, q3, q4⟩ | ⟨q1, q2⟩
        · have hj' := hmlt j' mj' q2
          obtain ⟨h1, h2⟩ := ht j' hj' (by omega) q3
          exact absurd q3 (k1 j' (hdep j' h2) (by omega))
        · rw [k2, q2]
    refine ⟨fun x hx u hu => ?_, fun k hk ob hob => ?_, fun p hp hold => ?_, fun j b t hg hj => ?_⟩
    · cases x with
      | tmp t => simp only [ev] at hu ⊢; rw [hT t (fun j hj hne hd => (hC1 i o ho).1 t hx j hj hne hd)]; exact hu
      | const v => exact hu
      | func f => exact hu
      | global g => exact hu
    · have hb : ∀ j mj, D j → ms[j]? = some mj → k ∈ mj.new.map (·.1) → j < i := fun j mj k1 k2 k3 => by
        rcases (hN1 i o m ho hmi).1 k hk j mj k2 k3 with ⟨h1, _⟩ | h | ⟨_, o', ho', h2⟩
        · exact h1
        · exact absurd (h ▸ k1) hDi
        · exact absurd (hcls j o' ho' k1 i h2) hDi
      have hb' : ∀ j mj, j < i → ms[j]? = some mj → k ∈ mj.new.map (·.1) → D j := fun j mj k1 k2 k3 => by
        rcases (hN1 i o m ho hmi).1 k hk j mj k2 k3 with ⟨_, h2⟩ | h | ⟨h, _⟩
        · exact hdep j h2
        · omega
        · omega
      rcases hτ.2 k with ⟨j, mj, k1, k2, k3, kx, k4⟩ | ⟨k1, k2⟩
      · have h1 := hb j mj k1 k2 k3
        rcases hFi.2 k with ⟨j', mj', q1, q2, q3, qx, q4⟩ | ⟨q1, q2⟩
        · have hj' := hb' j' mj' q1 q2 q3
          have : j = j' := by
            rcases Nat.lt_trichotomy j j' with h | h | h
            · exact absurd q3 (kx j' mj' hj' q2 h)
            · exact h
            · exact absurd k3 (qx j mj h1 k2 h)
          subst this
          rw [k2] at q2; simp only [Option.some.injEq] at q2; subst q2
          rw [k4, ← q4]; exact hob
        · exact absurd k3 (q1 j mj h1 k2)
      · rcases hFi.2 k with ⟨j', mj', q1, q2, q3, qx, q4⟩ | ⟨q1, q2⟩
        · exact absurd q3 (k1 j' mj' (hb' j' mj' q1 q2 q3) q2)
        · rw [k2, ← q2]; exact hob
    · have hpm : p.1 ∈ m.new.map (·.1) := List.mem_map.2 ⟨p, hp, rfl⟩
      rcases hτ.2 p.1 with ⟨j, mj, k1, k2, k3, kx, k4⟩ | ⟨k1, k2⟩
      · have hne : j ≠ i := fun e => hDi (e ▸ k1)
        rcases (hN1 i o m ho hmi).2 p.1 hpm j mj k2 hne k3 with ⟨_, _, h⟩ | ⟨_, o', ho', h⟩
        · exact absurd h hold
        · exact absurd (hcls j o' ho' k1 i h) hDi
      · rw [k2]; exact hnew m (List.mem_of_getElem? hmi) p hp hold
    · obtain ⟨h1, h2⟩ := (hC1 i o ho).2.1 j b hg
      refine hT t fun j' hj' hne hd => ?_
      have := huniq t j' j hj' (by omega) hd hj
      subst this
      exact ⟨h1, h2⟩
  -- the first phase
  have phase : ∀ (fuel : Nat) (listed : Array Bool) (a : Act) (w : World) (τ : St), listed.size = l.toArray.size → (∀ j, l1.length ≤ j → j < l.toArray.size → listed.getD j false = false) → (∀ j o, l.toArray[j]? = some o → listed.getD j false = true → ∀ d ∈ deps o, listed.getD d false = true) →
      l.toArray.size ≤ fuel + ((List.range l.toArray.size).filter fun j => listed.getD j false).length → AtD l.toArray ms σ (fun j => listed.getD j false = true) τ → C c N τ a w → wpAny P .any l.toArray (wQ c N Q) fuel listed a w := by
    have hdep : ∀ i o, l.toArray[i]? = some o → ∀ d ∈ deps o, d < i := by
      intro i o ho d hd
      have hlt : i < l.toArray.size := by rcases Array.getElem?_eq_some_iff.1 ho with ⟨h, _⟩; exact h
      have := (List.all_eq_true.1 hE) i (by simpa using hlt)
      rw [ho] at this
      have := (List.all_eq_true.1 this) d hd
      simpa using this
    -- all of the first part done: the second phase
    have hall : ∀ (fuel : Nat) (listed : Array Bool) (a : Act) (w : World) (τ : St), listed.size = l.toArray.size → (∀ j, l1.length ≤ j → j < l.toArray.size → listed.getD j false = false) → (∀ j, j < l1.length → listed.getD j false = true) → l.toArray.size ≤ l1.length + fuel →
        AtD l.toArray ms σ (fun j => listed.getD j false = true) τ → C c N τ a w → wpAny P .any l.toArray (wQ c N Q) fuel listed a w := by
      intro fuel listed a w τ hsz hhi hlo hf hτ hc
      have hsub : Sub c N τ σ' := by
        have h1 := hFD l1.length (Nat.le_refl _)
        rw [hFn] at h1
        have h2 : AtD l.toArray ms σ (fun j => j < l1.length) τ := hτ.congr fun j hj => ⟨fun _ => by omega, fun h => hlo j h⟩
        refine sub_lookups (fun t => ?_) (fun k => ?_)
        · rcases h1.1 t with ⟨j, mj, k1, k2, k3, k4⟩ | ⟨k1, k2⟩
          · rcases h2.1 t with ⟨j', mj', q1, q2, q3, q4⟩ | ⟨q1, q2⟩
            · have : j = j' := by
                by_cases he : j = j'
                · exact he
                · exfalso
                  have ho' : l1[j]? = some (l1[j]'k1) := by simp [k1]
                  rw [hop j k1, ho'] at k3
                  exact (hC1 j _ ho').2.2 t (by simpa using k3) j' q1 (fun e => he e.symm) q3
              subst this
              rw [k2] at q2; simp only [Option.some.injEq] at q2; subst q2
              rw [k4, q4]
            · exact absurd k3 (q1 j k1 (by omega))
          · rcases h2.1 t with ⟨j', mj', q1, q2, q3, q4⟩ | ⟨q1, q2⟩
            · exact absurd q3 (k1 j' q1 (by omega))
            · rw [k2, q2]
        · rcases h1.2 k with ⟨j, mj, k1, k2, k3, kx, k4⟩ | ⟨k1, k2⟩
          · rcases h2.2 k with ⟨j', mj', q1, q2, q3, qx, q4⟩ | ⟨q1, q2⟩
            · have : j = j' := by
                rcases Nat.lt_trichotomy j j' with h | h | h
                · exact absurd q3 (kx j' mj' q1 q2 h)
                · exact h
                · exact absurd k3 (qx j mj k1 k2 h)
              subst this
              rw [k2] at q2; simp only [Option.some.injEq] at q2; subst q2
              rw [k4, q4]
            · exact absurd k3 (q1 j mj k1 k2)
          · rcases h2.2 k with ⟨j', mj', q1, q2, q3, qx, q4⟩ | ⟨q1, q2⟩
            · exact absurd q3 (k1 j' mj' q1 q2)
            · rw [k2, q2]
      refine any_rest hE hS fuel l1.length listed a w (Nat.le_refl _) hsz (fun i hi => ⟨fun h => ?_, fun h => hlo i h⟩) hf ?_
      · by_cases hlt : i < l1.length
        · exact hlt
        · rw [hhi i (by omega) hi] at h; cases h
      · have : l.toArray.toList.drop l1.length = l2 := by simp [hl]
        rw [this]
        exact K a w (hsub a w hc)
    -- the least that is not done is ready
    have hleast : ∀ (listed : Array Bool), listed.size = l.toArray.size → (∃ j, j < l1.length ∧ listed.getD j false = false) → ∃ j, j < l1.length ∧ j ∈ Region.ready .any l.toArray listed := by
      rintro listed hsz ⟨j0, hj0, hn0⟩
      have key : ∀ k, k < l1.length → listed.getD k false = false → ∃ j, j < l1.length ∧ j ∈ Region.ready .any l.toArray listed := by
        intro k
        induction k using Nat.strongRecOn with
        | _ k ih =>
          intro hk hn
          have ho : l.toArray[k]? = some (l1[k]'hk) := by rw [hop k hk]; simp [hk]
          by_cases hd : ∀ d ∈ deps (l1[k]'hk), listed.getD d false = true
          · exact ⟨k, hk, ready_of ho (by rw [getD_ff (by omega) true false]; exact hn) hd⟩
          · simp only [Classical.not_forall] at hd
            obtain ⟨d, hd1, hd2⟩ := hd
            have := hdep k _ ho d hd1
            exact ih d this (by omega) (by simpa using hd2)
      exact key j0 hj0 hn0
    intro fuel
    induction fuel with
    | zero =>
      intro listed a w τ hsz hhi hcl hf hτ hc
      have hcount : ∀ j, j < l.toArray.size → listed.getD j false = true := by
        intro j hj
        have hle := List.length_filter_le (fun j => listed.getD j false) (List.range l.toArray.size)
        rw [List.length_range] at hle
        have heq : ((List.range l.toArray.size).filter fun j => listed.getD j false).length = (List.range l.toArray.size).length := by rw [List.length_range]; omega
        have := List.length_filter_eq_length_iff.1 heq j (by simpa using hj)
        exact this
      exact hall 0 listed a w τ hsz hhi (fun j hj => hcount j (by omega)) (by
        by_cases h : l2.length = 0
        · omega
        · have := hhi l1.length (Nat.le_refl _) (by omega)
          rw [hcount l1.length (by omega)] at this; cases this) hτ hc
    | succ fuel ih =>
      intro listed a w τ hsz hhi hcl hf hτ hc
      by_cases hdone : ∀ j, j < l1.length → listed.getD j false = true
      · refine hall (fuel + 1) listed a w τ hsz hhi hdone ?_ hτ hc
        have h1 : ((List.range l.toArray.size).filter fun j => listed.getD j false).length ≤ l1.length := by
          have h2 : ∀ (n : Nat), ((List.range (l1.length + n)).filter fun j => decide (j < l1.length)).length = l1.length := by
            intro n
            induction n with
            | zero => rw [List.filter_eq_self.2 (by simp), List.length_range]; omega
            | succ n ihn => rw [← Nat.add_assoc, List.range_succ, List.filter_append, List.length_append, ihn]; simp
          have h3 : ((List.range l.toArray.size).filter fun j => listed.getD j false) = ((List.range l.toArray.size).filter fun j => decide (j < l1.length)) := by
            refine List.filter_congr fun j hj => ?_
            have hj' : j < l.toArray.size := by simpa using hj
            by_cases hlt : j < l1.length
            · rw [hdone j hlt]; simp [hlt]
            · rw [hhi j (by omega) hj']; simp [hlt]
          rw [h3, hlsz, h2]
          exact Nat.le_refl _
        omega
      · simp only [Classical.not_forall] at hdone
        obtain ⟨j0, hj0, hn0⟩ := hdone
        obtain ⟨jr, hjr, hjready⟩ := hleast listed hsz ⟨j0, hj0, by simpa using hn0⟩
        refine ⟨fun he => (by rw [he] at hjready; simp at hjready), fun i hi => ?_⟩
        obtain ⟨hilt, hnl, o, ho, hdl⟩ := mem_ready' hi
        have hi1 : i < l1.length := by
          by_cases h : i < l1.length
          · exact h
          · exfalso
            have h1 := (List.all_eq_true.1 hS) i (by simpa using hilt)
            simp only [Bool.or_eq_true, decide_eq_true_eq] at h1
            rcases h1 with h1 | h1
            · exact h h1
            · have h2 := (List.all_eq_true.1 h1) j0 (by simp; omega)
              have := reach_listed (fun j oj => hcl j oj) _ i j0 o ho hdl h2
              exact hn0 this
        have ho1 : l1[i]? = some o := by rw [← hop i hi1]; exact ho
        obtain ⟨o', m, hoo, hmi, hdN, hms, _⟩ := hget i hi1
        rw [ho1] at hoo; simp only [Option.some.injEq] at hoo; subst hoo
        have hnl' : ¬ (listed.getD i false = true) := by rw [getD_ff (by omega) false true, hnl]; simp
        obtain ⟨g1, g2, g3, g4⟩ := hgo i o m (fun j => listed.getD j false = true) τ ho1 hmi hnl' hdl hcl hτ
        have hlast : ∀ a w, C c N (τ.add o.dst m.v m.new) a w → wpAny P .any l.toArray (wQ c N Q) fuel (listed.setIfInBounds i true) a w := by
          intro a w hc'
          have hisz : i < listed.size := by omega
          refine ih _ a w _ (by simp [hsz]) (fun j h1 h2 => by rw [getD_setTrue false hisz, if_neg (by omega)]; exact hhi j h1 h2) (fun j oj hoj hlj d hd => ?_) ?_ ((hτ.add ho hmi (fun j hj hlt hne d hd => (hC1 i o ho1).2.2 d hd j (by omega) hne) (fun j m' hj hm' hne k hk hin => by
            rcases (hN1 i o m ho1 hmi).2 k hk j m' hm' hne hin with ⟨h, _⟩ | ⟨_, o', ho', h⟩
            · exact h
            · exact absurd (hcl j o' ho' hj i h) hnl')).congr fun j hj => ?_) hc'
          · rw [getD_setTrue false hisz] at hlj ⊢
            by_cases hji : j = i
            · subst hji
              rw [ho] at hoj; simp only [Option.some.injEq] at hoj; subst hoj
              split
              · rfl
              · exact hdl d hd
            · rw [if_neg hji] at hlj
              split
              · rfl
              · exact hcl j oj hoj hlj d hd
          · have hinc : ((List.range l.toArray.size).filter fun j => listed.getD j false).length + 1 ≤ ((List.range l.toArray.size).filter fun j => (listed.setIfInBounds i true).getD j false).length := by
              have h1 : ∀ (n : Nat), ((List.range n).filter fun j => (listed.setIfInBounds i true).getD j false).length = ((List.range n).filter fun j => listed.getD j false).length + (if i < n then 1 else 0) := by
                intro n
                induction n with
                | zero => simp
                | succ n ihn =>
                  rw [List.range_succ, List.filter_append, List.filter_append, List.length_append, List.length_append, ihn]
                  by_cases hni : n = i
                  · subst hni
                    have h0 : listed.getD n false = false := Bool.eq_false_iff.2 hnl'
                    have h2 : (listed.setIfInBounds n true).getD n false = true := by rw [getD_setTrue false hisz, if_pos rfl]
                    simp only [List.filter_cons, h2, h0, List.filter_nil]
                    simp
                  · have : (listed.setIfInBounds i true).getD n false = listed.getD n false := by rw [getD_setTrue false hisz, if_neg hni]
                    simp only [List.filter_cons, this, List.filter_nil]
                    by_cases hin : i < n
                    · simp [hin, show i < n + 1 from by omega]; omega
                    · simp [hin, show ¬ i < n + 1 from by omega]
              rw [h1, if_pos hilt]
              exact Nat.le_refl _
            omega
          · rw [getD_setTrue false hisz]
            by_cases hji : j = i
            · simp [hji]
            · simp [hji]
        unfold wpOp
        simp only [ho]
        obtain ⟨ρ, S, hcc⟩ := hc
        cases hms with
        | run hg hst =>
          rw [if_pos (by simp [Region.wanted, hg])]
          exact .inl (Oper.wp_weaken (fun a' w' ⟨τ', h1, h2⟩ => hlast a' w' (h2 ▸ h1)) (hst hdN τ g1 g2 (fun p hp => g3 p hp (by simp)) a w ⟨ρ, S, hcc⟩))
        | want hg hj ht htN hst =>
          have hy := yielded_of (ops := l.toArray) hcc hj ((g4 _ _ _ hg hj).trans ht) htN
          rw [if_pos (by simp [Region.wanted, hg, hy])]
          exact .inl (Oper.wp_weaken (fun a' w' ⟨τ', h1, h2⟩ => hlast a' w' (h2 ▸ h1)) (hst hdN τ g1 g2 (fun p hp => g3 p hp (by simp)) a w ⟨ρ, S, hcc⟩))
        | upd hg hst =>
          rw [if_pos (by simp [Region.wanted, hg])]
          exact .inl (Oper.wp_weaken (fun a' w' ⟨τ', h1, h2⟩ => hlast a' w' (h2 ▸ h1)) (hst hdN τ g1 g2 g3 a w ⟨ρ, S, hcc⟩))
        | skip hg hj ht hb htN =>
          have hy := yielded_of (ops := l.toArray) hcc hj ((g4 _ _ _ hg hj).trans ht) htN
          rw [if_neg (by simp only [Region.wanted, hg, hy]; simpa using hb)]
          refine hlast _ _ ⟨ρ, S, ?_⟩
          have := hcc.put (dst := o.dst) (v := .imm undef) (x := undef) hdN (by simp [Rep])
          cases hdst : o.dst <;> simpa [St.put, St.add, hdst] using this
        | skipu hg hj ht htN =>
          have hy := yielded_undef (ops := l.toArray) hcc hj ((g4 _ _ _ hg hj).trans ht) htN
          rw [if_neg (by simp only [Region.wanted, hg, hy]; simp)]
          refine hlast _ _ ⟨ρ, S, ?_⟩
          have := hcc.put (dst := o.dst) (v := .imm undef) (x := undef) hdN (by simp [Rep])
          cases hdst : o.dst <;> simpa [St.put, St.add, hdst] using this
  intro a w hc
  refine wp_region_any hm (phase _ _ a _ σ (by simp) (fun j h1 h2 => ?_) (fun j o ho hlj => ?_) (by simp) ?_ (C_drawn hc))
  · rw [Array.getD_eq_getD_getElem?]; simp only [Array.getElem?_replicate]; split <;> rfl
  · rw [Array.getD_eq_getD_getElem?] at hlj; simp only [Array.getElem?_replicate] at hlj; split at hlj <;> simp at hlj
  · refine ⟨fun t => .inr ⟨fun j hj => ?_, rfl⟩, fun k => .inr ⟨fun j m hj => ?_, rfl⟩⟩ <;> (dsimp only at hj; rw [Array.getD_eq_getD_getElem?] at hj; simp only [Array.getElem?_replicate] at hj; split at hj <;> simp at hj)

theorem awp_drawn (n : Nat) {id : Nat} {l : List Oper} {ms : List MS} {σ' : St} (hm : P.follows .mixedOrders = true) (hn : Nat.ble n l.length = true) (hC : chkO l.toArray n = true) (hE : chkE l.toArray = true) (hS : chkS l.toArray n = true)
    (hr : MRun P c N l.toArray (l.take n) σ ms σ') (hN : chkN l.toArray ms = true) (hnew : ∀ m ∈ ms, ∀ p ∈ m.new, p.1 ∉ m.old → ok σ.O p.1 = none) (K : awps P c N l.toArray (l.drop n) Q σ') : awp P c N (.region id l.toArray true) Q σ := by
  have hl : (l.take n).length = n := by rw [List.length_take]; exact Nat.min_eq_left (Nat.le_of_ble_eq_true hn)
  exact awp_draw hm (List.take_append_drop n l).symm (by rw [hl]; exact hC) hE (by rw [hl]; exact hS) hr hN hnew K

end
end Go.Proofs.Ytdecgkhdbfgldaa
