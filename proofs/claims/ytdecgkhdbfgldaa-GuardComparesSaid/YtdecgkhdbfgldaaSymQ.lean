/- Plain proof kit of this session, seventeenth part: what is handed in to a law, read as plain data. -/
import Derived.Test.YtdecgkhdbfgldaaSymP
import GoSem.ClaimJoined
import Derived.SizedLaws
import Derived.ChangeArms
set_option linter.unusedVariables false
set_option linter.unusedSimpArgs false
namespace Go.Proofs.Ytdecgkhdbfgldaa
open Go

theorem mapM_get' {α β : Type} {f : α → Option β} : ∀ {l : List α} {r : List β}, l.mapM f = some r → r.length = l.length ∧ ∀ (i : Nat) (x : α), l[i]? = some x → f x = r[i]?
  | [], r, h => by simp at h; subst h; simp
  | a :: l, r, h => by
    simp only [List.mapM_cons, Option.bind_eq_bind, Option.bind_eq_some_iff, Option.pure_def, Option.some.injEq] at h
    obtain ⟨b, hb, bs, hbs, rfl⟩ := h
    obtain ⟨h1, h2⟩ := mapM_get' hbs
    refine ⟨by simp [h1], fun i x hx => ?_⟩
    cases i with
    | zero => simp only [List.getElem?_cons_zero, Option.some.injEq] at hx; subst hx; simpa using hb
    | succ i => simpa using h2 i x (by simpa using hx)

/-- Cells, each with what it reads as. -/
def RepVs (w : World) (S : Nat → Prop) : List D → List Value → Prop
  | [], vs => vs = []
  | d :: ds, vs => ∃ v us, vs = v :: us ∧ v.oneCell' = true ∧ RepD w S d v ∧ RepVs w S ds us
theorem RepVs.length {w : World} {S : Nat → Prop} : ∀ {ds : List D} {vs : List Value}, RepVs w S ds vs → vs.length = ds.length
  | [], vs, h => by simp only [RepVs] at h; simp [h]
  | d :: ds, vs, h => by
    simp only [RepVs] at h
    obtain ⟨v, us, rfl, _, _, h⟩ := h
    simp [RepVs.length h]
theorem RepVs.append {w : World} {S : Nat → Prop} : ∀ {ds es : List D} {vs us : List Value}, RepVs w S ds vs → RepVs w S es us → RepVs w S (ds ++ es) (vs ++ us)
  | [], es, vs, us, h, k => by simp only [RepVs] at h; simpa [h] using k
  | d :: ds, es, vs, us, h, k => by
    simp only [RepVs] at h
    obtain ⟨v, xs, rfl, h1, h2, h3⟩ := h
    simp only [List.cons_append, RepVs]
    exact ⟨v, xs ++ us, rfl, h1, h2, RepVs.append h3 k⟩
theorem RepVs.cs {w : World} {S : Nat → Prop} {b : Nat} : ∀ {ds : List D} {vs : List Value} {off : Nat}, RepVs w S ds vs → (∀ (i : Nat) (v : Value), vs[i]? = some v → w.cell? ⟨b, off + i, none⟩ = some v) → RepCs w S b off ds
  | [], vs, off, _, _ => by simp [RepCs]
  | d :: ds, vs, off, h, k => by
    simp only [RepVs] at h
    obtain ⟨v, us, rfl, h1, h2, h3⟩ := h
    simp only [RepCs]
    exact ⟨⟨v, by simpa using k 0 v rfl, h1, h2⟩, RepVs.cs h3 fun i u hu => by have := k (i + 1) u (by simpa using hu); rwa [show off + (i + 1) = off + 1 + i by omega] at this⟩
theorem RepVs.rep {w : World} {ρ : Nat → Value} {S : Bool → Nat → Prop} {U : Nat → Prop} : ∀ {ds : List D} {vs : List Value}, RepVs w (S false) ds vs → RepL w ρ S U (lift false ds) vs ∧ ∀ y ∈ vs, y.oneCell' = true
  | [], vs, h => by simp only [RepVs] at h; subst h; simp [lift, RepL]
  | d :: ds, vs, h => by
    simp only [RepVs] at h
    obtain ⟨v, us, rfl, h1, h2, h3⟩ := h
    obtain ⟨h4, h5⟩ := RepVs.rep (ρ := ρ) (U := U) h3
    refine ⟨?_, fun y hy => ?_⟩
    · simp only [lift, List.map_cons, RepL]
      refine ⟨v, us, rfl, ?_, h4⟩
      cases d with
      | imm x => simpa [D.av, Rep, RepD] using h2
      | sl k es => simpa only [D.av, Rep] using h2
    · rcases List.mem_cons.1 hy with rfl | hy
      · exact h1
      · exact h5 y hy

abbrev Here (w : World) : Nat → Prop := fun b => b < w.heap.size

section
variable (P : Program) (w : World)

/-- Whatever a type's cells read as (with that much fuel) is plain data of this kind. -/
structure Rdr {X : Type} (n : Nat) (t : TypeId) (k : Nat) (toD : X → List D) (wf : X → Prop) : Prop where
  len : ∀ x, (toD x).length = k
  rd : ∀ (H : Type) (enc : TypeId × Value → H) (cs : List Value) (d : DataW H) (ps : List MemPlace), DataW.trod enc P w 0 (fun _ => true) true n t cs = some (d, ps) → (d.weights P t).all (· ≤ reachBytes) = true → ∃ x, wf x ∧ RepVs w (Here w) (toD x) cs
end
section
variable {P : Program} {w : World}

theorem Rdr.zero {X : Type} {t : TypeId} {k : Nat} {toD : X → List D} {wf : X → Prop} (h : ∀ x, (toD x).length = k) : Rdr P w 0 t k toD wf := ⟨h, fun H enc cs d ps e => by simp [DataW.trod] at e⟩
theorem Rdr.mono {X : Type} {n : Nat} {t : TypeId} {k : Nat} {toD : X → List D} {wf wf' : X → Prop} (h : Rdr P w n t k toD wf) (hw : ∀ x, wf x → wf' x) : Rdr P w n t k toD wf' :=
  ⟨h.len, fun H enc cs d ps e hz => by obtain ⟨x, h1, h2⟩ := h.rd H enc cs d ps e hz; exact ⟨x, hw x h1, h2⟩⟩

theorem Rdr.int {n : Nat} {t : TypeId} (ht : P.underlying t = some (.int .i64)) : Rdr P w n t 1 (fun x : Int => [.imm (.int .i64 x)]) (fun x => -9223372036854775808 ≤ x ∧ x ≤ 9223372036854775807) := by
  refine ⟨fun _ => rfl, fun H enc cs d ps e hz => ?_⟩
  obtain ⟨m, rfl, _, h3⟩ := DataW.trod_int ht e
  simp only [Lit.wf, Bool.and_eq_true, decide_eq_true_eq] at h3
  refine ⟨m, h3, ?_⟩
  simp only [RepVs, RepD]; exact ⟨_, _, rfl, rfl, rfl, rfl⟩
theorem Rdr.str {n : Nat} {t : TypeId} (ht : P.underlying t = some .string) : Rdr P w n t 1 (fun x : ByteArray => [.imm (.string x)]) (fun x => x.size ≤ 140737488351232) := by
  refine ⟨fun _ => rfl, fun H enc cs d ps e hz => ?_⟩
  obtain ⟨s, rfl, h2, h3⟩ := DataW.trod_string ht e
  simp only [Prod.mk.injEq] at h2
  obtain ⟨rfl, rfl⟩ := h2
  refine ⟨s, ?_, ?_⟩
  · have h4 := of_decide_eq_true (List.all_eq_true.1 hz s.data.toList.length (by simp [DataW.weights]))
    rw [Array.length_toList] at h4; exact h4
  · simp only [RepVs, RepD]; exact ⟨_, _, rfl, rfl, rfl, rfl⟩

theorem list_choose {X : Type} {Q : Nat → X → Prop} : ∀ (n : Nat), (∀ i, i < n → ∃ x, Q i x) → ∃ l : List X, l.length = n ∧ ∀ (i : Nat) (x : X), l[i]? = some x → Q i x
  | 0, _ => ⟨[], rfl, fun i x h => by simp at h⟩
  | n + 1, h => by
    obtain ⟨l, h1, h2⟩ := list_choose (X := X) (Q := Q) n fun i hi => h i (by omega)
    obtain ⟨x, hx⟩ := h n (by omega)
    refine ⟨l ++ [x], by simp [h1], fun i y hy => ?_⟩
    rw [List.getElem?_append] at hy
    split at hy
    · exact h2 i y hy
    · have : i = n := by
        by_cases hi : i - l.length = 0
        · omega
        · rw [List.getElem?_eq_none (by simp; omega)] at hy; cases hy
      subst this
      rw [show i - l.length = 0 by omega] at hy
      simp only [List.getElem?_cons_zero, Option.some.injEq] at hy
      subst hy; exact hx
theorem RepEs.of {S : Nat → Prop} {b k : Nat} : ∀ {es : List (List D)} {off : Nat}, (∀ (i : Nat) (ds : List D), es[i]? = some ds → ds.length = k ∧ RepCs w S b (off + i * k) ds) → RepEs w S b k off es
  | [], off, _ => by simp [RepEs]
  | e :: es, off, h => by
    simp only [RepEs]
    refine ⟨by simpa using h 0 e rfl, RepEs.of fun i ds hd => ?_⟩
    have := h (i + 1) ds (by simpa using hd)
    rwa [show off + (i + 1) * k = off + k + i * k by rw [Nat.succ_mul]; omega] at this

theorem cells_get {a : Addr} {n : Nat} {cs : List Value} (h : w.cells? 0 a n = some cs) : cs.length = n ∧ ∀ j, j < n → w.cell? (a.add j) = cs[j]? := by
  unfold World.cells? at h
  rw [if_pos (Nat.zero_le _)] at h
  obtain ⟨h1, h2⟩ := mapM_get' h
  refine ⟨by simpa using h1, fun j hj => h2 j j (by simp [hj])⟩
theorem weightsAll_get {H : Type} {e : TypeId} : ∀ {l : List (DataW H)}, (DataW.weightsAll P e l).all (· ≤ reachBytes) = true → ∀ {i : Nat} {d : DataW H}, l[i]? = some d → (d.weights P e).all (· ≤ reachBytes) = true
  | [], _, i, d, h => by simp at h
  | x :: l, hz, i, d, h => by
    simp only [DataW.weightsAll, List.all_append, Bool.and_eq_true] at hz
    cases i with
    | zero => simp only [List.getElem?_cons_zero, Option.some.injEq] at h; subst h; exact hz.1
    | succ i => exact weightsAll_get hz.2 (by simpa using h)

theorem Rdr.slice {X : Type} {n k : Nat} {t e : TypeId} {toD : X → List D} {wf : X → Prop} (ht : slB P t e k = true) (hk : 0 < k) (he : ∀ m, m < n → Rdr P w m e k toD wf) : Rdr P w n t 1 (fun l : List X => [.sl k (l.map toD)]) (fun l => l.length * P.bytesOf e ≤ 140737488351232 ∧ ∀ x ∈ l, wf x) := by
  refine ⟨fun _ => rfl, fun H enc cs d ps h hz => ?_⟩
  obtain ⟨inf, hu, hi, hs⟩ := sl_spec ht
  have hcell : P.cellsOf e = k := by unfold Program.cellsOf; rw [hi]; exact hs
  rcases DataW.trod_slice hu h with ⟨rfl, h2⟩ | ⟨a, len, cap, elems, rest, m, rfl, rfl, h2, _, hlc, hcm, hel, helems, _⟩
  · refine ⟨[], ⟨by simp, by simp⟩, ?_⟩
    simp only [RepVs, RepD, List.map_nil]
    exact ⟨_, _, rfl, rfl, ⟨none, 0, 0, rfl, rfl, Nat.le_refl _, Nat.zero_le _, .inl rfl⟩, rfl⟩
  · rw [hcell] at helems
    simp only [Prod.mk.injEq] at h2
    obtain ⟨rfl, _⟩ := h2
    simp only [DataW.weights, hu, List.all_cons, List.all_append, Bool.and_eq_true, decide_eq_true_eq, List.length_map] at hz
    obtain ⟨hz1, hz2, _⟩ := hz
    obtain ⟨l, hl, hQ⟩ := list_choose (X := X) (Q := fun i x => wf x ∧ ∃ cs, w.cells? 0 (a.add (i * k)) k = some cs ∧ RepVs w (Here w) (toD x) cs) len fun i hi => by
      have h3 := helems i hi
      have h4 : elems[i]? = some (elems[i]'(by omega)) := by simp [show i < elems.length by omega]
      rw [h4] at h3
      obtain ⟨csi, h5, h6⟩ := Option.bind_eq_some_iff.1 h3
      obtain ⟨x, h7, h8⟩ := (he m (by omega)).rd H enc csi _ _ h6 (weightsAll_get hz2 (i := i) (by rw [List.getElem?_map, h4]; rfl))
      exact ⟨x, h7, csi, h5, h8⟩
    refine ⟨l, ⟨?_, fun x hx => ?_⟩, ?_⟩
    · have : l.length * P.bytesOf e ≤ (elems.length + rest.length) * P.bytesOf e := Nat.mul_le_mul_right _ (by omega)
      simp only [reachBytes] at hz1; omega
    · obtain ⟨i, hi⟩ := List.getElem?_of_mem hx
      exact (hQ i x hi).1
    · simp only [RepVs, RepD]
      refine ⟨_, _, rfl, rfl, ⟨some a, len, cap, rfl, by simp [hl], hlc, hcm, ?_⟩, rfl⟩
      by_cases h0 : len = 0
      · exact .inl h0
      · right
        have hx0 : l[0]? = some (l[0]'(by omega)) := by simp [show 0 < l.length by omega]
        obtain ⟨_, cs0, h3, _⟩ := hQ 0 _ hx0
        obtain ⟨_, h5⟩ := cells_get h3
        have h6 := h5 0 hk
        have e1 : (a.add (0 * k)).add 0 = a := by simp [Addr.add]
        rw [e1] at h6
        have hlen0 := (cells_get h3).1
        have h7 : cs0[0]? = some (cs0[0]'(by omega)) := by simp [show 0 < cs0.length by omega]
        rw [h7] at h6
        have hsp : a.spot = none ∧ a.block < w.heap.size := by
          unfold World.cell? at h6
          split at h6
          · rename_i c ty fr hb
            refine ⟨?_, (Array.getElem?_eq_some_iff.1 hb).1⟩
            split at h6
            · cases h6
            · rename_i hh; simpa using hh
          · cases h6
        obtain ⟨ab, ao, as_⟩ := a
        simp only at hsp
        obtain ⟨rfl, hlt⟩ := hsp
        refine ⟨ab, ao, rfl, hlt, RepEs.of fun i ds hds => ?_⟩
        rw [List.getElem?_map] at hds
        obtain ⟨x, hx, rfl⟩ := Option.map_eq_some_iff.1 hds
        obtain ⟨_, csi, h8, h9⟩ := hQ i x hx
        obtain ⟨h10, h11⟩ := cells_get h8
        have hlx : (toD x).length = k := by rw [← h9.length]; exact h10
        refine ⟨hlx, h9.cs fun j v hv => ?_⟩
        have hj : j < k := by have := (List.getElem?_eq_some_iff.1 hv).1; omega
        have := h11 j hj
        rw [add_plain, add_plain] at this
        rw [this]; exact hv

/-- Fields that lie side by side. -/
structure RdrF {X : Type} (P : Program) (w : World) (n : Nat) (off : Nat) (fs : List (TypeId × Nat × Nat)) (total : Nat) (toD : X → List D) (wf : X → Prop) : Prop where
  len : ∀ x, (toD x).length = total
  rd : ∀ (H : Type) (enc : TypeId × Value → H) (cs : List Value) (xs : List (DataW H × List MemPlace)), xs.length = fs.length → (∀ (i : Nat) (f : TypeId × Nat × Nat), fs[i]? = some f → DataW.trod enc P w 0 (fun _ => true) true n f.1 ((cs.drop f.2.1).take f.2.2) = xs[i]?) → (DataW.weightsEach P (fs.map (·.1)) (xs.map (·.1))).all (· ≤ reachBytes) = true → ∃ x, wf x ∧ RepVs w (Here w) (toD x) ((cs.drop off).take total)
theorem RdrF.nil {n off : Nat} : RdrF P w n off [] 0 (fun _ : Unit => []) (fun _ => True) :=
  ⟨fun _ => rfl, fun H enc cs xs _ _ _ => ⟨(), trivial, by simp [RepVs]⟩⟩
theorem RdrF.cons {X Y : Type} {n off k r : Nat} {t : TypeId} {fs : List (TypeId × Nat × Nat)} {toD : X → List D} {wf : X → Prop} {toE : Y → List D} {wg : Y → Prop} (h : Rdr P w n t k toD wf) (hr : RdrF P w n (off + k) fs r toE wg) : RdrF P w n off ((t, off, k) :: fs) (k + r) (fun p : X × Y => toD p.1 ++ toE p.2) (fun p => wf p.1 ∧ wg p.2) := by
  refine ⟨fun p => by simp [h.len, hr.len], fun H enc cs xs hl hx hz => ?_⟩
  cases xs with
  | nil => simp at hl
  | cons x xs =>
    simp only [List.map_cons, DataW.weightsEach, List.all_append, Bool.and_eq_true] at hz
    have h0 := hx 0 _ rfl
    simp only [List.getElem?_cons_zero] at h0
    obtain ⟨a, h1, h2⟩ := h.rd H enc _ _ _ h0 hz.1
    obtain ⟨b, h3, h4⟩ := hr.rd H enc cs xs (by simpa using hl) (fun i f hf => by have := hx (i + 1) f (by simpa using hf); simpa using this) hz.2
    refine ⟨(a, b), ⟨h1, h3⟩, ?_⟩
    have e : (cs.drop off).take (k + r) = (cs.drop off).take k ++ (cs.drop (off + k)).take r := by
      rw [List.take_add, List.drop_drop]
    rw [e]
    exact h2.append h4
/-- A struct's fields: their types, places, sizes; its cells. -/
def stB (P : Program) (t : TypeId) (l : List (TypeId × Nat × Nat)) (total : Nat) : Bool :=
  match P.underlying t with
  | some (.struct fs) => (fs.toList.map fun f => (f.type, f.offset, P.cellsOf f.type)) == l && P.cellsOf t == total
  | _ => false
theorem stB_struct {t : TypeId} {fs : List (TypeId × Nat × Nat)} {total : Nat} (ht : stB P t fs total = true) : ∃ gs, P.underlying t = some (.struct gs) := by
  unfold stB at ht
  split at ht
  · rename_i gs hu; exact ⟨gs, hu⟩
  · cases ht
theorem Rdr.struct {X : Type} {n total : Nat} {t : TypeId} {fs : List (TypeId × Nat × Nat)} {toD : X → List D} {wf : X → Prop} (ht : stB P t fs total = true) (hl : ∀ x, (toD x).length = total) (h : ∀ m, m < n → RdrF P w m 0 fs total toD wf) : Rdr P w n t total toD wf := by
  refine ⟨hl, fun H enc cs d ps e hz => ?_⟩
  unfold stB at ht
  split at ht
  · rename_i gs hu
    simp only [Bool.and_eq_true, beq_iff_eq] at ht
    obtain ⟨rfl, hc⟩ := ht
    obtain ⟨xs, m, rfl, h2, h3, h4, h5⟩ := DataW.trod_struct hu e
    simp only [Prod.mk.injEq] at h2
    obtain ⟨rfl, _⟩ := h2
    simp only [DataW.weights, hu] at hz
    obtain ⟨x, h6, h7⟩ := (h m (by omega)).rd H enc cs xs (by simpa using h4) (fun i f hf => by
      rw [List.getElem?_map] at hf
      obtain ⟨g, hg, rfl⟩ := Option.map_eq_some_iff.1 hf
      exact h5 i g (by simpa using hg)) (by simpa [List.map_map, Function.comp_def] using hz)
    refine ⟨x, h6, ?_⟩
    rwa [List.drop_zero, List.take_of_length_le (by omega)] at h7
  · cases ht
theorem Rdr.map {X Y : Type} {n k : Nat} {t : TypeId} {toD : X → List D} {wf : X → Prop} {toE : Y → List D} {wg : Y → Prop} (g : X → Y) (h : Rdr P w n t k toD wf) (hl : ∀ y, (toE y).length = k) (hD : ∀ x, wf x → toE (g x) = toD x) (hw : ∀ x, wf x → wg (g x)) : Rdr P w n t k toE wg :=
  ⟨hl, fun H enc cs d ps e hz => by
    obtain ⟨x, h1, h2⟩ := h.rd H enc cs d ps e hz
    exact ⟨g x, hw x h1, by rw [hD x h1]; exact h2⟩⟩
end
end Go.Proofs.Ytdecgkhdbfgldaa
