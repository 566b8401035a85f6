/- Plain proof kit of this session, fourth part: objects that are made and written; operations on plain values. -/
import Derived.Test.YtdecgkhdbfgldaaSymC
set_option linter.unusedVariables false
set_option linter.unusedSimpArgs false
namespace Go.Proofs.Ytdecgkhdbfgldaa
open Go

section
variable {P : Program} {c : Ctx} {N : Nat} {Q : Exit → St → Prop} {σ : St} {o : Oper}

theorem Far.refl (W : Nat → Prop) (w : World) : Far W w w := ⟨rfl, rfl, rfl, Nat.le_refl _, fun _ _ _ => rfl⟩
theorem Far.trans {W : Nat → Prop} {w1 w2 w3 : World} (h : Far W w1 w2) (k : Far W w2 w3) : Far W w1 w3 :=
  ⟨k.os.trans h.os, k.tape.trans h.tape, k.output.trans h.output, Nat.le_trans h.size k.size, fun b hb hw => (k.block b (Nat.lt_of_lt_of_le hb h.size) hw).trans (h.block b hb hw)⟩
theorem Far.mono {W W' : Nat → Prop} {w1 w2 : World} (h : Far W w1 w2) (hW : ∀ b, b < w1.heap.size → W b → W' b) : Far W' w1 w2 :=
  ⟨h.os, h.tape, h.output, h.size, fun b hb hw => h.block b hb fun h' => hw (hW b hb h')⟩
theorem Far.step {W W' : Nat → Prop} {w1 w2 w3 : World} (h : Far W w1 w2) (k : Far W' w2 w3) (hW : ∀ b, b < w1.heap.size → W' b → W b) : Far W w1 w3 :=
  ⟨k.os.trans h.os, k.tape.trans h.tape, k.output.trans h.output, Nat.le_trans h.size k.size, fun b hb hw => (k.block b (Nat.lt_of_lt_of_le hb h.size) (fun h' => hw (hW b hb h'))).trans (h.block b hb hw)⟩
theorem size_alloc' (w : World) (x : Obj) : (w.alloc x).heap.size = w.heap.size + 1 := by
  show (w.heap.push x).size = _
  simp
theorem Far.alloc (W : Nat → Prop) (w : World) (x : Obj) : Far W w (w.alloc x) :=
  ⟨rfl, rfl, rfl, by rw [size_alloc']; omega, fun b hb _ => heap_alloc_old w x hb⟩
theorem Far.drew (W : Nat → Prop) (w : World) : Far W w w.drew := ⟨rfl, rfl, rfl, Nat.le_refl _, fun _ _ _ => rfl⟩

/-- The world goes on; what this state speaks of does not turn. -/
theorem Conc.grow {a : Act} {w w' : World} {ρ : Nat → Value} {S : Bool → Nat → Prop} {W : Nat → Prop} (h : Conc c N σ a w ρ S) (hf : Far W w w') (hS : ∀ f b, S f b → ¬ W b) (hO : ∀ l ob b, ok σ.O l = some ob → ob.live → blk (ρ l) = some b → ¬ W b)
    (hW : ∀ b, b < c.w0.heap.size → W b → c.W b) : Conc c N σ a w' ρ S := by
  have hSw : ∀ f b, S f b → w'.heap[b]? = w.heap[b]? := fun f b hb => hf.block b (h.Sb f b hb) (hS f b hb)
  refine ⟨h.tm, h.df, fun t v ht => (h.T t v ht).mono (fun _ _ h => h) hSw (fun _ h => h) (fun _ _ => rfl), fun l ob hl => ?_, h.dj, h.dS, h.wr, fun l ob b h1 h2 h3 => Nat.lt_of_lt_of_le (h.lt l ob b h1 h2 h3) hf.size, h.SS, fun f b hb => Nat.lt_of_lt_of_le (h.Sb f b hb) hf.size, h.Sn, h.So, h.lo, h.fm.step hf hW⟩
  by_cases hv : ob.live
  · exact (h.O l ob hl).mono (fun _ _ h => h) hSw (fun _ h => h) (fun _ _ => rfl) (by simp [St.U, hl]) (fun b hb => hf.block b (h.lt l ob b hl hv hb) (hO l ob b hl hv hb))
  · cases ob <;> simp [Ob.live] at hv; trivial

theorem U_cons {l : Nat} {ob : Ob} {T : List (Nat × AV)} {O : List (Nat × Ob)} (m : Nat) (h : St.U ⟨T, O⟩ m) : St.U ⟨T, (l, ob) :: O⟩ m := by
  simp only [St.U, ok_cons] at h ⊢
  split
  · rfl
  · exact h

def upd (ρ : Nat → Value) (l : Nat) (p : Value) : Nat → Value := fun m => if m = l then p else ρ m

theorem upd_same (ρ : Nat → Value) (l : Nat) (p : Value) : upd ρ l p l = p := by simp [upd]
theorem upd_other {ρ : Nat → Value} {l m : Nat} {p : Value} (h : m ≠ l) : upd ρ l p m = ρ m := by simp [upd, h]

/-- One object more. -/
theorem Conc.addOb {T : List (Nat × AV)} {O : List (Nat × Ob)} {a : Act} {w : World} {ρ : Nat → Value} {S : Bool → Nat → Prop} (h : Conc c N ⟨T, O⟩ a w ρ S) {l : Nat} (hl : ok O l = none) {p : Value} {ob : Ob}
    (hb : ∀ b, blk p = some b → b < w.heap.size ∧ c.w0.heap.size ≤ b ∧ (∀ f, ¬ S f b) ∧ ∀ m om, ok O m = some om → om.live → blk (ρ m) ≠ some b)
    (hob : ObOk w (upd ρ l p) S (St.U ⟨T, (l, ob) :: O⟩) l ob) : Conc c N ⟨T, (l, ob) :: O⟩ a w (upd ρ l p) S := by
  have hne : ∀ m om, ok O m = some om → m ≠ l := fun m om hm e => by subst e; rw [hl] at hm; cases hm
  have hρ : ∀ m, St.U ⟨T, O⟩ m → upd ρ l p m = ρ m := fun m hm => upd_other fun e => by subst e; simp [St.U, hl] at hm
  have hsp : ∀ m om, ok ((l, ob) :: O) m = some om → (m = l ∧ om = ob) ∨ (m ≠ l ∧ ok O m = some om) := fun m om hm => by
    rw [ok_cons] at hm
    split at hm
    · rename_i e; exact .inl ⟨e.symm, by simpa using hm.symm⟩
    · rename_i e; exact .inr ⟨fun e' => e e'.symm, hm⟩
  refine ⟨h.tm, h.df, fun t v ht => (h.T t v ht).mono (fun _ _ h => h) (fun _ _ _ => rfl) U_cons hρ, fun m om hm => ?_, fun m m' om om' b h1 h2 h3 h4 h5 h6 => ?_, fun m om b f h1 h2 h3 => ?_, fun m om b h1 h2 h3 => ?_, fun m om b h1 h2 h3 => ?_, h.SS, h.Sb, h.Sn, h.So, fun m hm => ?_, h.fm⟩
  · rcases hsp m om hm with ⟨rfl, rfl⟩ | ⟨hne', hm'⟩
    · exact hob
    · exact (h.O m om hm').mono (fun _ _ h => h) (fun _ _ _ => rfl) U_cons hρ (by simp [St.U, hm']) (fun _ _ => rfl)
  · rcases hsp m om h1 with ⟨e1, e2⟩ | ⟨n1, k1⟩ <;> rcases hsp m' om' h2 with ⟨e3, e4⟩ | ⟨n2, k2⟩
    · rw [e1, e3]
    · rw [e1, upd_same] at h5; rw [upd_other n2] at h6; exact absurd h6 ((hb b h5).2.2.2 m' om' k2 h4)
    · rw [e3, upd_same] at h6; rw [upd_other n1] at h5; exact absurd h5 ((hb b h6).2.2.2 m om k1 h3)
    · rw [upd_other n1] at h5; rw [upd_other n2] at h6; exact h.dj m m' om om' b k1 k2 h3 h4 h5 h6
  · rcases hsp m om h1 with ⟨rfl, rfl⟩ | ⟨n1, h1⟩
    · rw [upd_same] at h3; exact (hb b h3).2.2.1 f
    · rw [upd_other n1] at h3; exact h.dS m om b f h1 h2 h3
  · rcases hsp m om h1 with ⟨rfl, rfl⟩ | ⟨n1, h1⟩
    · rw [upd_same] at h3; exact .inl (hb b h3).2.1
    · rw [upd_other n1] at h3; exact h.wr m om b h1 h2 h3
  · rcases hsp m om h1 with ⟨rfl, rfl⟩ | ⟨n1, h1⟩
    · rw [upd_same] at h3; exact (hb b h3).1
    · rw [upd_other n1] at h3; exact h.lt m om b h1 h2 h3
  · obtain ⟨h1, h2⟩ := h.lo m hm
    have hne' : m ≠ l := fun e => by subst e; simp [hl] at h1
    refine ⟨?_, by rw [upd_other hne']; exact h2⟩
    simp only [ok_cons]
    rw [if_neg (fun e => hne' e.symm)]; exact h1

/-- One object is written. -/
theorem Conc.modOb {T : List (Nat × AV)} {O : List (Nat × Ob)} {a : Act} {w w' : World} {ρ : Nat → Value} {S : Bool → Nat → Prop} (h : Conc c N ⟨T, O⟩ a w ρ S) {l : Nat} {ob ob' : Ob} (hl : ok O l = some ob) (hv : ob.live)
    (hf : Far (fun b => blk (ρ l) = some b) w w') (hob : ObOk w' ρ S (St.U ⟨T, (l, ob') :: O⟩) l ob') : Conc c N ⟨T, (l, ob') :: O⟩ a w' ρ S := by
  have hSw : ∀ f b, S f b → w'.heap[b]? = w.heap[b]? := fun f b hb => hf.block b (h.Sb f b hb) (fun e => h.dS l ob b f hl hv e hb)
  have hsp : ∀ m om, ok ((l, ob') :: O) m = some om → (m = l ∧ om = ob') ∨ (m ≠ l ∧ ok O m = some om) := fun m om hm => by
    rw [ok_cons] at hm
    split at hm
    · rename_i e; exact .inl ⟨e.symm, by simpa using hm.symm⟩
    · rename_i e; exact .inr ⟨fun e' => e e'.symm, hm⟩
  refine ⟨h.tm, h.df, fun t v ht => (h.T t v ht).mono (fun _ _ h => h) hSw U_cons (fun _ _ => rfl), fun m om hm => ?_, fun m m' om om' b h1 h2 h3 h4 h5 h6 => ?_, fun m om b f h1 h2 h3 => ?_, fun m om b h1 h2 h3 => ?_, fun m om b h1 h2 h3 => ?_, h.SS, fun f b hb => Nat.lt_of_lt_of_le (h.Sb f b hb) hf.size, h.Sn, h.So, fun m hm => ?_, h.fm.step hf fun b hb e => ?_⟩
  · rcases hsp m om hm with ⟨rfl, rfl⟩ | ⟨hne', hm'⟩
    · exact hob
    · by_cases hv' : om.live
      · exact (h.O m om hm').mono (fun _ _ h => h) hSw U_cons (fun _ _ => rfl) (by simp [St.U, hm']) (fun b hb => hf.block b (h.lt m om b hm' hv' hb) (fun e => hne' (h.dj m l om ob b hm' hl hv' hv hb e)))
      · cases om <;> simp [Ob.live] at hv'; trivial
  · rcases hsp m om h1 with ⟨e1, e2⟩ | ⟨n1, k1⟩ <;> rcases hsp m' om' h2 with ⟨e3, e4⟩ | ⟨n2, k2⟩
    · rw [e1, e3]
    · rw [e1] at h5 ⊢; exact h.dj l m' ob om' b hl k2 hv h4 h5 h6
    · rw [e3] at h6 ⊢; exact h.dj m l om ob b k1 hl h3 hv h5 h6
    · exact h.dj m m' om om' b k1 k2 h3 h4 h5 h6
  · rcases hsp m om h1 with ⟨rfl, rfl⟩ | ⟨n1, h1⟩
    · exact h.dS m ob b f hl hv h3
    · exact h.dS m om b f h1 h2 h3
  · rcases hsp m om h1 with ⟨rfl, rfl⟩ | ⟨n1, h1⟩
    · exact h.wr m ob b hl hv h3
    · exact h.wr m om b h1 h2 h3
  · rcases hsp m om h1 with ⟨rfl, rfl⟩ | ⟨n1, h1⟩
    · exact Nat.lt_of_lt_of_le (h.lt m ob b hl hv h3) hf.size
    · exact Nat.lt_of_lt_of_le (h.lt m om b h1 h2 h3) hf.size
  · obtain ⟨h1, h2⟩ := h.lo m hm
    refine ⟨?_, h2⟩
    simp only [ok_cons]
    split
    · rfl
    · exact h1
  · rcases h.wr l ob b hl hv e with h1 | h1
    · omega
    · exact h1.2

/-- The cells of a value. -/
def AV.cellsOf : AV → Option (List AV)
  | .any => none
  | .tup _ => none
  | .agg cs => some cs
  | .imm v => match v with
    | .agg _ => none
    | .tuple _ => none
    | v => some [.imm v]
  | v => some [v]

theorem rep_cellsOf {w : World} {ρ : Nat → Value} {S : Bool → Nat → Prop} {U : Nat → Prop} {v : AV} {x : Value} {cs : List AV} (h : v.cellsOf = some cs) (hr : Rep w ρ S U v x) :
    ∃ xs : List Value, x.cells = xs.toArray ∧ (∀ y ∈ xs, y.oneCell' = true) ∧ RepL w ρ S U cs xs := by
  have one : ∀ u : AV, cs = [u] → Rep w ρ S U u x → x.oneCell' = true → x.cells = #[x] → ∃ xs : List Value, x.cells = xs.toArray ∧ (∀ y ∈ xs, y.oneCell' = true) ∧ RepL w ρ S U cs xs := by
    rintro u rfl hu h1 hc
    exact ⟨[x], by simp [hc], by simpa using h1, by simp only [RepL]; exact ⟨x, [], rfl, hu, rfl⟩⟩
  cases v with
  | any => simp [AV.cellsOf] at h
  | tup vs => simp [AV.cellsOf] at h
  | agg as =>
    simp only [AV.cellsOf, Option.some.injEq] at h; subst h
    simp only [Rep] at hr
    obtain ⟨xs, rfl, h1, h2⟩ := hr
    exact ⟨xs, rfl, h1, h2⟩
  | imm u =>
    have hx := hr
    simp only [Rep] at hx; subst hx
    cases x <;> simp only [AV.cellsOf, Option.some.injEq, reduceCtorEq] at h <;> first | exact h.elim | exact one _ h.symm hr rfl rfl
  | dat f k es =>
    simp only [AV.cellsOf, Option.some.injEq] at h
    have hr' := hr
    simp only [Rep, RepD] at hr'
    obtain ⟨A, n, cap, rfl, _⟩ := hr'
    exact one _ h.symm hr rfl rfl
  | ptr l off =>
    simp only [AV.cellsOf, Option.some.injEq] at h
    have hr' := hr
    simp only [Rep] at hr'
    obtain ⟨_, b, _, rfl⟩ := hr'
    exact one _ h.symm hr rfl rfl
  | elp f ds =>
    simp only [AV.cellsOf, Option.some.injEq] at h
    have hr' := hr
    simp only [Rep] at hr'
    obtain ⟨b, off, rfl, _⟩ := hr'
    exact one _ h.symm hr rfl rfl
  | fn f caps =>
    simp only [AV.cellsOf, Option.some.injEq] at h
    have hr' := hr
    simp only [Rep] at hr'
    obtain ⟨xs, rfl, _⟩ := hr'
    exact one _ h.symm hr rfl rfl
  | row l =>
    simp only [AV.cellsOf, Option.some.injEq] at h
    have hr' := hr
    simp only [Rep] at hr'
    obtain ⟨_, _, A, n, cap, rfl⟩ := hr'
    exact one _ h.symm hr rfl rfl
  | map l =>
    simp only [AV.cellsOf, Option.some.injEq] at h
    have hr' := hr
    simp only [Rep] at hr'
    obtain ⟨_, _, r, rfl⟩ := hr'
    exact one _ h.symm hr rfl rfl


theorem cons_add {T : List (Nat × AV)} {O : List (Nat × Ob)} {d : Nat} {v : AV} {new : List (Nat × Ob)} (o : Oper) (h : o.dst = some d) : St.add ⟨T, O⟩ o.dst v new = ⟨(d, v) :: T, new ++ O⟩ := by rw [h]; rfl

/-- A new block, an object over it, its place in a temporary. -/
theorem aop_new {σ' : St} {l : Nat} {v : AV} {ob : Ob} {p0 : Nat → Value} (hd : ∀ d, o.dst = some d → d < N) (hl : ok σ'.O l = none)
    (h : ∀ a w ρ S, Conc c N σ' a w ρ S → ∃ obj, (execOp a.eval o).run P w = .ok (.value (p0 w.heap.size)) (w.alloc obj) ∧ blk (p0 w.heap.size) = some w.heap.size ∧
      ∀ ρ' U', (∀ m, σ'.U m → ρ' m = ρ m) → (∀ m, σ'.U m → U' m) → U' l → ρ' l = p0 w.heap.size → ObOk (w.alloc obj) ρ' S U' l ob ∧ Rep (w.alloc obj) ρ' S U' v (p0 w.heap.size)) :
    AOp P c N o σ' (fun σ2 => σ2 = σ'.add o.dst v [(l, ob)]) := by
  rintro a w ⟨ρ, S, hc⟩
  obtain ⟨obj, hr, hp, hob⟩ := h a w ρ S hc
  unfold Oper.wp
  rw [hr]
  have hw0 := hc.fm.size
  have hg : Conc c N ⟨σ'.T, σ'.O⟩ a (w.alloc obj) ρ S := hc.grow (Far.alloc (fun _ => False) w obj) (fun _ _ _ h => h) (fun _ _ _ _ _ _ h => h) (fun _ _ h => h.elim)
  have hρ : ∀ m, σ'.U m → upd ρ l (p0 w.heap.size) m = ρ m := fun m hm => upd_other fun e => by subst e; simp [St.U, hl] at hm
  have hk := hob (upd ρ l (p0 w.heap.size)) (St.U ⟨σ'.T, (l, ob) :: σ'.O⟩) hρ (fun m hm => U_cons m hm) (by simp [St.U, ok_cons]) (upd_same ρ l _)
  have ha : Conc c N ⟨σ'.T, (l, ob) :: σ'.O⟩ a (w.alloc obj) (upd ρ l (p0 w.heap.size)) S := by
    refine hg.addOb hl (fun b hb => ?_) hk.1
    rw [hp] at hb; simp only [Option.some.injEq] at hb; subst hb
    refine ⟨by rw [size_alloc']; omega, hw0, fun f hS => Nat.lt_irrefl _ (hc.Sb f _ hS), fun m om hm hv e => Nat.lt_irrefl _ (hc.lt m om _ hm hv e)⟩
  have := ha.put (dst := o.dst) hd hk.2
  refine ⟨_, ⟨_, _, this⟩, ?_⟩
  cases o.dst <;> simp [St.put, St.add]

theorem heap_new (w : World) (x : Obj) : (w.alloc x).heap[w.heap.size]? = some x := heap_alloc_new w x

theorem Rep.world {w w' : World} {ρ ρ' : Nat → Value} {S : Bool → Nat → Prop} {U U' : Nat → Prop} {v : AV} {x : Value} (h : Rep w ρ S U v x) {W : Nat → Prop} (hw : Far (fun _ => False) w w') (hS : ∀ f b, S f b → b < w.heap.size) (hU : ∀ m, U m → U' m) (hρ : ∀ m, U m → ρ' m = ρ m) : Rep w' ρ' S U' v x :=
  h.mono (fun _ _ h => h) (fun f b hb => hw.block b (hS f b hb) (fun h => h)) hU hρ

theorem run_newVar (w : World) (t : TypeId) (v : Value) : (newVar t v).run P w = .ok ⟨w.heap.size, 0, none⟩ (w.alloc (.cells v.cells t)) := by
  simp [newVar, newRow, Sem.run_bind, run_newObj_alloc]

theorem stp_box {x : Operand} {t : TypeId} {v : AV} {cs : List AV} (l : Nat) (ho : o.op = .box t x) (hx : ev σ.T x = some v) (hv : v.cellsOf = some cs) : Stp P c N o σ [] (.ptr l 0) [(l, .box cs)] := by
  rintro hd σ' h1 h2 hn
  refine aop_new (p0 := fun b => .pointer (some ⟨b, 0, none⟩)) hd (hn _ (List.mem_singleton.2 rfl)) fun a w ρ S hc => ?_
  have h := ev_rep hc (h1 x (by simp [ho, Op.operands]) _ hx)
  obtain ⟨xs, hxs, h3, hr⟩ := rep_cellsOf hv h
  refine ⟨.cells (a.eval x).cells t, ?_, rfl, fun ρ' U' hρ hU hl hp => ⟨⟨w.heap.size, t, xs, hp, by rw [heap_new, hxs], h3, hr.mono (fun _ _ h => h) (fun f b hb => (Far.alloc (fun _ => False) w _).block b (hc.Sb f b hb) (fun h => h)) hU hρ⟩, ?_⟩⟩
  · simp only [execOp, ho, Instr.box]
    simp [Sem.run_bind, run_newVar]
  · simp only [Rep]
    exact ⟨hl, _, by rw [hp]; rfl, rfl⟩

/-- The zero value of type t: its cells. -/
def zvB (P : Program) (t : TypeId) : Option (Option (List Value)) := (P.info? t).map fun i => i.zero.map fun z => z.cells.toList

theorem zv_spec {t : TypeId} {zs : List Value} (h : zvB P t = some (some zs)) : ∃ i z, P.info? t = some i ∧ i.zero = some z ∧ z.cells.toList = zs := by
  unfold zvB at h
  cases hi : P.info? t with
  | none => simp [hi] at h
  | some i =>
    cases hz : i.zero with
    | none => simp [hi, hz] at h
    | some z => exact ⟨i, z, rfl, hz, by simpa [hi, hz] using h⟩

theorem run_zero {t : TypeId} {i : TypeInfo} {z : Value} (h1 : P.info? t = some i) (h2 : i.zero = some z) (w : World) : (zeroValue t).run P w = .ok z w := by
  simp [zeroValue, Sem.run_bind, run_typeInfo w h1, h2]

theorem repL_imm {w : World} {ρ : Nat → Value} {S : Bool → Nat → Prop} {U : Nat → Prop} : ∀ zs : List Value, RepL w ρ S U (zs.map AV.imm) zs
  | [] => by simp [RepL]
  | z :: zs => by simp only [List.map_cons, RepL]; exact ⟨z, zs, rfl, by simp [Rep], repL_imm zs⟩

theorem stp_alloc {t : TypeId} {zs : List Value} (l : Nat) (ho : o.op = .alloc t) (hz : zvB P t = some (some zs)) (h1 : zs.all (·.oneCell') = true) : Stp P c N o σ [] (.ptr l 0) [(l, .box (zs.map .imm))] := by
  rintro hd σ' _ _ hn
  refine aop_new (p0 := fun b => .pointer (some ⟨b, 0, none⟩)) hd (hn _ (List.mem_singleton.2 rfl)) fun a w ρ S hc => ?_
  obtain ⟨i, z, h2, h3, h4⟩ := zv_spec hz
  refine ⟨.cells z.cells t, ?_, rfl, fun ρ' U' hρ hU hl hp => ⟨⟨w.heap.size, t, zs, hp, by rw [heap_new, ← h4], fun y hy => (List.all_eq_true.1 h1) y hy, repL_imm zs⟩, ?_⟩⟩
  · simp only [execOp, ho, Instr.alloc]
    simp [Sem.run_bind, run_zero h2 h3, run_newVar]
  · simp only [Rep]
    exact ⟨hl, _, by rw [hp]; rfl, rfl⟩

/-! ### A store -/
def Ob.with : Ob → List AV → Ob
  | .box _, cs => .box cs
  | .row e k _, cs => .row e k cs
  | o, _ => o

def splice {α : Type} (cs : List α) (off : Nat) (vs : List α) : List α := cs.take off ++ vs ++ cs.drop (off + vs.length)

theorem splice_length {α : Type} {cs : List α} {off : Nat} {vs : List α} (h : off + vs.length ≤ cs.length) : (splice cs off vs).length = cs.length := by
  simp [splice]; omega

theorem splice_get {α : Type} {cs : List α} {off : Nat} {vs : List α} (h : off + vs.length ≤ cs.length) (i : Nat) : (splice cs off vs)[i]? = if i < off then cs[i]? else if i < off + vs.length then vs[i - off]? else cs[i]? := by
  simp only [splice]
  have ht : (cs.take off).length = off := by simp; omega
  by_cases h1 : i < off
  · rw [if_pos h1, List.append_assoc, List.getElem?_append_left (by omega), List.getElem?_take_of_lt h1]
  · rw [if_neg h1, List.append_assoc, List.getElem?_append_right (by omega), ht]
    by_cases h2 : i < off + vs.length
    · rw [if_pos h2, List.getElem?_append_left (by omega)]
    · rw [if_neg h2, List.getElem?_append_right (by omega), List.getElem?_drop]
      congr 1
      omega

theorem splice_take {α : Type} {cur : List α} {off m : Nat} {vs : List α} (h : off + vs.length ≤ m) (hm : m ≤ cur.length) : (splice cur off vs).take m = splice (cur.take m) off vs := by
  apply List.ext_getElem?
  intro i
  rw [List.getElem?_take, splice_get (by omega), splice_get (by simp; omega)]
  by_cases h1 : i < m
  · simp only [h1, if_true]
    rw [List.getElem?_take_of_lt h1]
  · rw [if_neg h1, if_neg (by omega), if_neg (by omega)]
    symm
    apply List.getElem?_eq_none
    simp; omega

theorem run_storeVar_at {t : TypeId} {b : Bool} {n : Nat} (ht : tfB P t b n = true) (w : World) (g off : Nat) (ty : TypeId) (v : Value) (xs ys : List Value) (hv : v.cells = xs.toArray) (h1 : ∀ y ∈ xs, y.oneCell' = true) (hl : xs.length = n) (hg : w.heap[g]? = some (.cells ys.toArray ty (0, 0))) (hn : off + n ≤ ys.length) :
    (storeVar t ⟨g, off, none⟩ v).run P w = .ok () (w.setRow g (splice ys off xs).toArray) := by
  obtain ⟨d, i, h2, h3, h4, h5, h6⟩ := tf_spec ht
  have := run_storeCells_at (P := P) g off ty xs 0 ys.toArray w hg (by simp; omega) h1
  simp only [Nat.add_zero] at this
  simp [storeVar, Sem.run_bind, sizeOf, run_typeInfo w h3, hv, h5, hl, this, splice]

theorem far_setRow (w : World) (g : Nat) (xs : Array Value) : Far (fun b => some g = some b) w (w.setRow g xs) :=
  ⟨rfl, rfl, rfl, by simp, fun b hb hne => setRow_other w g b xs (fun e => hne (by rw [e]))⟩

theorem aop_store {x y : Operand} {t : TypeId} {b : Bool} {n l off : Nat} {ob : Ob} {v : AV} {vs : List AV} {T : List (Nat × AV)} {O : List (Nat × Ob)} (ho : o.op = .store t x y) (hd : o.dst = none) (ht : tfB P t b n = true) (hx : ev T x = some (.ptr l off)) (hl : ok O l = some ob)
    (hy : ev T y = some v) (hv : v.cellsOf = some vs) (hn : vs.length = n) (hoff : off + n ≤ ob.cells.length) (h0 : 0 < n) (hnd : ∀ e k f es, ob ≠ .rowd e k f es) : AOp P c N o ⟨T, O⟩ (fun σ2 => σ2 = ⟨T, (l, ob.with (splice ob.cells off vs)) :: O⟩) := by
  rintro a w ⟨ρ, S, hc⟩
  obtain ⟨g, hg, hx'⟩ := eval_ptr hc hx
  have hy' := ev_rep hc hy
  obtain ⟨xs, hxs, h1, hr⟩ := rep_cellsOf hv hy'
  have hlen := hr.length
  have hob := hc.O l ob hl
  have hlive : ob.live := by cases ob <;> simp [Ob.live, Ob.cells] at hoff ⊢ <;> omega
  have hput : a.put o.dst undef = a := by rw [hd]; rfl
  have key : ∀ w', (storeVar t ⟨g, off, none⟩ (a.eval y)).run P w = .ok () w' → Far (fun b => blk (ρ l) = some b) w w' → ObOk w' ρ S (St.U ⟨T, (l, ob.with (splice ob.cells off vs)) :: O⟩) l (ob.with (splice ob.cells off vs)) →
      o.wp P a w (fun a' w' => ∃ σ', C c N σ' a' w' ∧ σ' = ⟨T, (l, ob.with (splice ob.cells off vs)) :: O⟩) (fun _ _ _ => False) := by
    intro w' hr hf hob'
    unfold Oper.wp
    have : (execOp a.eval o).run P w = .ok .skip w' := by
      simp only [execOp, ho, Instr.storeAt, hx', Instr.sureAddr]
      simp [Sem.run_bind, hr]
    rw [this]
    refine ⟨_, ⟨ρ, S, ?_⟩, rfl⟩
    rw [hput]
    exact hc.modOb hl hlive hf hob'
  have hrU : ∀ w' ob', Far (fun b => blk (ρ l) = some b) w w' → ∀ us zs, RepL w ρ S (St.U ⟨T, O⟩) us zs → RepL w' ρ S (St.U ⟨T, (l, ob') :: O⟩) us zs := fun w' ob' hf us zs h =>
    h.mono (fun _ _ h => h) (fun f b hb => hf.block b (hc.Sb f b hb) (fun e => hc.dS l ob b f hl hlive e hb)) U_cons (fun _ _ => rfl)
  cases ob with
  | box cs =>
    obtain ⟨b', ty, ys, h2, h3, h4, h5⟩ := hob
    rw [h2] at hg; simp only [blk, Option.some.injEq] at hg; subst hg
    have hl5 := h5.length
    simp only [Ob.cells] at hoff
    have hf : Far (fun b => blk (ρ l) = some b) w (w.setRow b' (splice ys off xs).toArray) := by
      rw [h2]; exact far_setRow w b' _
    refine key _ (run_storeVar_at ht w b' off ty _ xs ys hxs h1 (by omega) h3 (by omega)) hf ⟨b', ty, splice ys off xs, h2, setRow_heap w b' _ _ ty _ h3, ?_, ?_⟩
    · intro y hy
      simp only [splice, List.mem_append] at hy
      rcases hy with (hy | hy) | hy
      · exact h4 y (List.mem_of_mem_take hy)
      · exact h1 y hy
      · exact h4 y (List.mem_of_mem_drop hy)
    · refine hrU _ _ hf _ _ ?_
      simp only [Ob.cells, splice]
      rw [hlen]
      exact ((h5.take off).append hr).append (h5.drop _)
  | row e k cs =>
    obtain ⟨m, ys, h2, h3, h4⟩ := hob
    obtain ⟨cap, cur, h5, h6, h7, h8, h9, h10, h11⟩ := row_cells h2 hg
    have hl4 := h4.length
    simp only [Ob.cells] at hoff
    have h6' : w.heap[g]? = some (.cells cur.toList.toArray e (0, 0)) := by simpa using h6
    have hcl : cur.toList.length = cap * k := by simpa using h9
    have hmk : m * k ≤ cap * k := Nat.mul_le_mul_right k h7
    have hf : Far (fun b => blk (ρ l) = some b) w (w.setRow g (splice cur.toList off xs).toArray) := by
      rw [h5]; exact far_setRow w g _
    refine key _ (run_storeVar_at ht w g off e _ xs cur.toList hxs h1 (by omega) h6' (by omega)) hf ⟨m, splice ys off xs, ?_, ?_, ?_⟩
    · refine ⟨by rw [splice_length (by omega)]; exact h11, .inr ⟨g, cap, (splice cur.toList off xs).toArray, h5, Nat.zero_le _, setRow_heap w g _ _ e _ h6, h7, h8, ?_, ?_⟩⟩
      · simp only [List.size_toArray]; rw [splice_length (by omega)]; exact hcl
      · simp only []
        rw [splice_take (by omega) (by omega), h10]
    · intro y hy
      simp only [splice, List.mem_append] at hy
      rcases hy with (hy | hy) | hy
      · exact h3 y (List.mem_of_mem_take hy)
      · exact h1 y hy
      · exact h3 y (List.mem_of_mem_drop hy)
    · refine hrU _ _ hf _ _ ?_
      simp only [Ob.cells, splice]
      rw [hlen]
      exact ((h4.take off).append hr).append (h4.drop _)
  | rowd e k f es => exact absurd rfl (hnd e k f es)
  | mp es => simp [Ob.cells] at hoff; omega
  | dead => simp [Ob.cells] at hoff; omega

end
end Go.Proofs.Ytdecgkhdbfgldaa
