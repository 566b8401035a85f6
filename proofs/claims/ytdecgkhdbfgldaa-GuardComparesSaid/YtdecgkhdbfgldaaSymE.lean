/- Plain proof kit of this session, fifth part: what may be forgotten; structs and slices that are built; append. -/
import Derived.Test.YtdecgkhdbfgldaaSymD
import Derived.Maps.AppendAt
set_option linter.unusedVariables false
set_option linter.unusedSimpArgs false
namespace Go.Proofs.Ytdecgkhdbfgldaa
open Go

/-! ### Which objects a value names -/
mutual
def AV.allL (p : Nat → Bool) : AV → Bool
  | .any => true
  | .imm _ => true
  | .dat _ _ _ => true
  | .agg cs => AV.allLs p cs
  | .ptr l _ => p l
  | .elp _ _ => true
  | .row l => p l
  | .fn _ cs => AV.allLs p cs
  | .map l => p l
  | .tup cs => AV.allLs p cs
def AV.allLs (p : Nat → Bool) : List AV → Bool
  | [] => true
  | v :: vs => AV.allL p v && AV.allLs p vs
end
def Ob.allL (p : Nat → Bool) : Ob → Bool
  | .box cs => AV.allLs p cs
  | .row _ _ cs => AV.allLs p cs
  | .rowd _ _ _ _ => true
  | .mp _ => true
  | .dead => true

mutual
theorem Rep.move {w w' : World} {ρ ρ' : Nat → Value} {S S' : Bool → Nat → Prop} {U U' : Nat → Prop} {p : Nat → Bool} (hS : ∀ f b, S f b → S' f b) (hw : ∀ f b, S f b → w'.heap[b]? = w.heap[b]?)
    (hp : ∀ l, p l = true → U l → U' l ∧ ρ' l = ρ l) : ∀ (v : AV) (x : Value), v.allL p = true → Rep w ρ S U v x → Rep w' ρ' S' U' v x
  | .any, x, _, _ => by simp [Rep]
  | .imm v, x, _, h => by simpa [Rep] using h
  | .dat f k es, x, _, h => by
    simp only [Rep] at h ⊢
    exact RepD.mono (hS f) (hw f) _ _ h
  | .agg cs, x, ha, h => by
    simp only [Rep] at h ⊢
    simp only [AV.allL] at ha
    obtain ⟨xs, hx, h1, h⟩ := h
    exact ⟨xs, hx, h1, RepL.move hS hw hp cs xs ha h⟩
  | .ptr l off, x, ha, h => by
    simp only [Rep] at h ⊢
    simp only [AV.allL] at ha
    obtain ⟨hl, b, hb, hx⟩ := h
    exact ⟨(hp l ha hl).1, b, by rw [(hp l ha hl).2]; exact hb, hx⟩
  | .elp f cs, x, _, h => by
    simp only [Rep] at h ⊢
    obtain ⟨b, off, hx, hb, h⟩ := h
    exact ⟨b, off, hx, hS f b hb, RepCs.mono (hS f) (hw f) b hb off cs h⟩
  | .row l, x, ha, h => by
    simp only [Rep] at h ⊢
    simp only [AV.allL] at ha
    exact ⟨(hp l ha h.1).1, by rw [(hp l ha h.1).2]; exact h.2.1, h.2.2⟩
  | .fn f caps, x, ha, h => by
    simp only [Rep] at h ⊢
    simp only [AV.allL] at ha
    obtain ⟨xs, hx, h⟩ := h
    exact ⟨xs, hx, RepL.move hS hw hp caps xs ha h⟩
  | .map l, x, ha, h => by
    simp only [Rep] at h ⊢
    simp only [AV.allL] at ha
    exact ⟨(hp l ha h.1).1, by rw [(hp l ha h.1).2]; exact h.2.1, h.2.2⟩
  | .tup vs, x, ha, h => by
    simp only [Rep] at h ⊢
    simp only [AV.allL] at ha
    obtain ⟨xs, hx, h⟩ := h
    exact ⟨xs, hx, RepL.move hS hw hp vs xs ha h⟩
theorem RepL.move {w w' : World} {ρ ρ' : Nat → Value} {S S' : Bool → Nat → Prop} {U U' : Nat → Prop} {p : Nat → Bool} (hS : ∀ f b, S f b → S' f b) (hw : ∀ f b, S f b → w'.heap[b]? = w.heap[b]?)
    (hp : ∀ l, p l = true → U l → U' l ∧ ρ' l = ρ l) : ∀ (vs : List AV) (xs : List Value), AV.allLs p vs = true → RepL w ρ S U vs xs → RepL w' ρ' S' U' vs xs
  | [], xs, _, h => by simpa [RepL] using h
  | v :: vs, xs, ha, h => by
    simp only [RepL] at h ⊢
    simp only [AV.allLs, Bool.and_eq_true] at ha
    obtain ⟨y, ys, hx, h1, h2⟩ := h
    exact ⟨y, ys, hx, Rep.move hS hw hp v y ha.1 h1, RepL.move hS hw hp vs ys ha.2 h2⟩
end
theorem allLs_lift (p : Nat → Bool) (f : Bool) : ∀ ds : List D, AV.allLs p (lift f ds) = true
  | [] => rfl
  | d :: ds => by
    simp only [lift, List.map_cons, AV.allLs, Bool.and_eq_true]
    exact ⟨by cases d <;> rfl, allLs_lift p f ds⟩
theorem ObOk.move {w w' : World} {ρ ρ' : Nat → Value} {S S' : Bool → Nat → Prop} {U U' : Nat → Prop} {l : Nat} {p : Nat → Bool} (hS : ∀ f b, S f b → S' f b) (hw : ∀ f b, S f b → w'.heap[b]? = w.heap[b]?)
    (hp : ∀ l, p l = true → U l → U' l ∧ ρ' l = ρ l) (hl : ρ' l = ρ l) {o : Ob} (ha : o.allL p = true) (hb : ∀ b, blk (ρ l) = some b → w'.heap[b]? = w.heap[b]?) (h : ObOk w ρ S U l o) : ObOk w' ρ' S' U' l o := by
  cases o with
  | box cs =>
    obtain ⟨b, ty, xs, h1, h2, h3, h4⟩ := h
    exact ⟨b, ty, xs, by rw [hl, h1], by rw [hb b (by simp [h1, blk]), h2], h3, RepL.move hS hw hp _ _ ha h4⟩
  | row e k cs =>
    obtain ⟨n, xs, h1, h2, h3⟩ := h
    exact ⟨n, xs, by rw [hl]; exact ownsRow_of_block h1 hb, h2, RepL.move hS hw hp _ _ ha h3⟩
  | rowd e k f es =>
    obtain ⟨h0, xs, h1, h2, h3⟩ := h
    exact ⟨h0, xs, by rw [hl]; exact ownsRow_of_block h1 hb, h2, RepL.move hS hw hp _ _ (allLs_lift p f _) h3⟩
  | mp es =>
    obtain ⟨r, h1, h2⟩ := h
    exact ⟨r, by rw [hl, h1], h2.of_block (hb r (by simp [h1, blk]))⟩
  | dead => trivial

/-! ### What is forgotten -/
def SubT (T1 T : List (Nat × AV)) : Prop := ∀ t v, lk T1 t = some v → lk T t = some v
def SubO (O1 O : List (Nat × Ob)) : Prop := ∀ t v, ok O1 t = some v → ok O t = some v
theorem SubT.nil {T : List (Nat × AV)} : SubT [] T := fun _ _ h => by simp [lk] at h
theorem SubT.cons {T1 T : List (Nat × AV)} {t : Nat} {v : AV} (h : lk T t = some v) (k : SubT T1 T) : SubT ((t, v) :: T1) T := fun s u hs => by
  rw [lk_cons] at hs
  split at hs
  · rename_i e; subst e; rw [h]; exact hs
  · exact k s u hs
theorem SubO.nil {T : List (Nat × Ob)} : SubO [] T := fun _ _ h => by simp [ok] at h
theorem SubO.cons {T1 T : List (Nat × Ob)} {t : Nat} {v : Ob} (h : ok T t = some v) (k : SubO T1 T) : SubO ((t, v) :: T1) T := fun s u hs => by
  rw [ok_cons] at hs
  split at hs
  · rename_i e; subst e; rw [h]; exact hs
  · exact k s u hs
theorem SubO.refl (O : List (Nat × Ob)) : SubO O O := fun _ _ h => h

def inD (O : List (Nat × Ob)) (l : Nat) : Bool := (ok O l).isSome
def allT (p : Nat → Bool) : List (Nat × AV) → Bool
  | [] => true
  | (_, v) :: T => v.allL p && allT p T
def allO (p : Nat → Bool) : List (Nat × Ob) → Bool
  | [] => true
  | (_, v) :: T => v.allL p && allO p T
theorem allT_get {p : Nat → Bool} : ∀ {T : List (Nat × AV)} {t : Nat} {v : AV}, allT p T = true → lk T t = some v → v.allL p = true
  | (s, u) :: T, t, v, h, hv => by
    simp only [allT, Bool.and_eq_true] at h
    rw [lk_cons] at hv
    split at hv
    · simp only [Option.some.injEq] at hv; subst hv; exact h.1
    · exact allT_get h.2 hv
theorem allO_get {p : Nat → Bool} : ∀ {T : List (Nat × Ob)} {t : Nat} {v : Ob}, allO p T = true → ok T t = some v → v.allL p = true
  | (s, u) :: T, t, v, h, hv => by
    simp only [allO, Bool.and_eq_true] at h
    rw [ok_cons] at hv
    split at hv
    · simp only [Option.some.injEq] at hv; subst hv; exact h.1
    · exact allO_get h.2 hv

section
variable {P : Program} {c : Ctx} {N : Nat} {Q : Exit → St → Prop} {σ : St} {o : Oper}

/-- Temporaries are forgotten. -/
theorem sub_T {T T1 : List (Nat × AV)} {O : List (Nat × Ob)} (h : SubT T1 T) : Sub c N ⟨T, O⟩ ⟨T1, O⟩ := by
  rintro a w ⟨ρ, S, hc⟩
  exact ⟨ρ, S, { hc with tm := hc.tm, T := fun t v ht => hc.T t v (h t v ht) }⟩

/-- Temporaries and objects are forgotten; what is kept names kept objects alone; what was handed in is kept. -/
theorem sub_TO {T T1 : List (Nat × AV)} {O O1 : List (Nat × Ob)} (h : SubT T1 T) (k : SubO O1 O) (hT : allT (inD O1) T1 = true) (hO : allO (inD O1) O1 = true) (hL : ∀ l, c.L l → inD O1 l = true) : Sub c N ⟨T, O⟩ ⟨T1, O1⟩ := by
  rintro a w ⟨ρ, S, hc⟩
  have hp : ∀ l, inD O1 l = true → St.U ⟨T, O⟩ l → St.U ⟨T1, O1⟩ l ∧ ρ l = ρ l := fun l hl _ => ⟨hl, rfl⟩
  refine ⟨ρ, S, ⟨hc.tm, hc.df, fun t v ht => ?_, fun l ob hl => ?_, fun l l' ob ob' b h1 h2 => hc.dj l l' ob ob' b (k l ob h1) (k l' ob' h2), fun l ob b f h1 => hc.dS l ob b f (k l ob h1), fun l ob b h1 => hc.wr l ob b (k l ob h1), fun l ob b h1 => hc.lt l ob b (k l ob h1), hc.SS, hc.Sb, hc.Sn, hc.So, fun l hl => ⟨hL l hl, (hc.lo l hl).2⟩, hc.fm⟩⟩
  · exact (hc.T t v (h t v ht)).move (fun _ _ h => h) (fun _ _ _ => rfl) hp v _ (allT_get hT ht)
  · exact (hc.O l ob (k l ob hl)).move (fun _ _ h => h) (fun _ _ _ => rfl) hp rfl (allO_get hO hl) (fun _ _ => rfl)

theorem awp_keepT {x : Code} {T T1 : List (Nat × AV)} {O : List (Nat × Ob)} (h : SubT T1 T) (K : awp P c N x Q ⟨T1, O⟩) : awp P c N x Q ⟨T, O⟩ := awp_sub (sub_T h) K
theorem awps_keepT {ops : Array Oper} {rest : List Oper} {T T1 : List (Nat × AV)} {O : List (Nat × Ob)} (h : SubT T1 T) (K : awps P c N ops rest Q ⟨T1, O⟩) : awps P c N ops rest Q ⟨T, O⟩ := awps_sub (sub_T h) K

/-! ### Structs and slices that are built -/
def fillA (pl : Nat → Option (Nat × Nat)) : List AV → List (Nat × List AV) → Option (List AV)
  | cs, [] => some cs
  | cs, (i, vs) :: rest => match pl i with
    | none => none
    | some (off, size) => if vs.length = size ∧ off + size ≤ cs.length then fillA pl (splice cs off vs) rest else none

theorem foldl_set {xs : List Value} : ∀ (ys : List Value) (j off : Nat) (cur : List Value), off + j + ys.length ≤ cur.length →
    (ys.zipIdx j).foldl (fun (cs : Array Value) (p : Value × Nat) => cs.setIfInBounds (off + p.2) p.1) cur.toArray = (splice cur (off + j) ys).toArray
  | [], j, off, cur, h => by simp [splice]
  | y :: ys, j, off, cur, h => by
    simp only [List.zipIdx_cons, List.foldl_cons, List.setIfInBounds_toArray]
    simp only [List.length_cons] at h
    rw [foldl_set (xs := xs) ys (j + 1) off (cur.set (off + j) y) (by simp; omega)]
    congr 1
    apply List.ext_getElem?
    intro i
    rw [splice_get (by simp; omega), splice_get (by simp; omega)]
    simp only [List.length_cons]
    by_cases h1 : i < off + j
    · rw [if_pos (by omega), if_pos h1, List.getElem?_set_ne (by omega)]
    · rw [if_neg h1]
      by_cases h2 : i = off + j
      · subst h2
        rw [if_pos (by omega), if_pos (by omega), List.getElem?_set_self (by omega)]
        simp
      · rw [if_neg (by omega)]
        by_cases h3 : i < off + (j + 1) + ys.length
        · rw [if_pos h3, if_pos (by omega), show i - (off + j) = (i - (off + (j + 1))) + 1 from by omega]
          simp
        · rw [if_neg h3, if_neg (by omega), List.getElem?_set_ne (by omega)]

/-- What lies in the parts of a literal, operand by operand. -/
def RepP (w : World) (ρ : Nat → Value) (S : Bool → Nat → Prop) (U : Nat → Prop) : List (Nat × List AV) → List (Nat × Value) → Prop
  | [], ps => ps = []
  | (i, vs) :: rest, ps => ∃ x xs ps', ps = (i, x) :: ps' ∧ x.cells = xs.toArray ∧ (∀ y ∈ xs, y.oneCell' = true) ∧ RepL w ρ S U vs xs ∧ RepP w ρ S U rest ps'

theorem fill_rep {w : World} {ρ : Nat → Value} {S : Bool → Nat → Prop} {U : Nat → Prop} {pl : Nat → Option (Nat × Nat)} : ∀ {parts : List (Nat × List AV)} {ps : List (Nat × Value)} {cs cs' : List AV} {xs : List Value}, RepP w ρ S U parts ps → RepL w ρ S U cs xs → (∀ y ∈ xs, y.oneCell' = true) → fillA pl cs parts = some cs' →
    ∃ xs', Instr.fill pl xs.toArray ps = some xs'.toArray ∧ RepL w ρ S U cs' xs' ∧ ∀ y ∈ xs', y.oneCell' = true
  | [], ps, cs, cs', xs, hP, hr, h1, h => by
    simp only [RepP] at hP; subst hP
    simp only [fillA, Option.some.injEq] at h; subst h
    exact ⟨xs, rfl, hr, h1⟩
  | (i, vs) :: rest, ps, cs, cs', xs, hP, hr, h1, h => by
    simp only [RepP] at hP
    obtain ⟨x, us, ps', rfl, hx, h2, h3, hP⟩ := hP
    simp only [fillA] at h
    split at h
    · simp at h
    · rename_i off size hpl
      split at h
      · rename_i hsz
        have hl := hr.length
        have hl3 := h3.length
        have hsp : RepL w ρ S U (splice cs off vs) (splice xs off us) := by
          simp only [splice]; rw [hl3]; exact ((hr.take off).append h3).append (hr.drop _)
        have h1' : ∀ y ∈ splice xs off us, y.oneCell' = true := by
          intro y hy
          simp only [splice, List.mem_append] at hy
          rcases hy with (hy | hy) | hy
          · exact h1 y (List.mem_of_mem_take hy)
          · exact h2 y hy
          · exact h1 y (List.mem_of_mem_drop hy)
        obtain ⟨xs', hf, hr', h1''⟩ := fill_rep hP hsp h1' h
        refine ⟨xs', ?_, hr', h1''⟩
        have hfold := foldl_set (xs := xs) us 0 off xs (by omega)
        simp only [Nat.add_zero] at hfold
        simp only [Instr.fill, hpl, hx, List.size_toArray]
        rw [if_neg (by simp; omega)]
        have hfold' : Array.foldl (fun (cs : Array Value) (x : Value × Nat) => cs.setIfInBounds (off + x.2) x.1) xs.toArray us.toArray.zipIdx = (splice xs off us).toArray := by
          rw [← hfold, ← Array.foldl_toList]
          simp
        exact (congrArg (fun z => Instr.fill pl z ps') hfold').trans hf
      · simp at h

def partsA (T : List (Nat × AV)) : List (Nat × Operand) → Option (List (Nat × List AV))
  | [] => some []
  | (i, x) :: r => match (ev T x).bind AV.cellsOf, partsA T r with
    | some cs, some rest => some ((i, cs) :: rest)
    | _, _ => none

theorem parts_rep {a : Act} {w : World} {ρ : Nat → Value} {S : Bool → Nat → Prop} {σ σ' : St} (hc : Conc c N σ' a w ρ S) : ∀ {parts : List (Nat × Operand)} {avs : List (Nat × List AV)}, (∀ p ∈ parts, ∀ u, ev σ.T p.2 = some u → ev σ'.T p.2 = some u) → partsA σ.T parts = some avs →
    RepP w ρ S σ'.U avs (parts.map fun (p : Nat × Operand) => (p.1, a.eval p.2))
  | [], avs, _, h => by simp only [partsA, Option.some.injEq] at h; subst h; simp [RepP]
  | (i, x) :: r, avs, h1, h => by
    simp only [partsA] at h
    split at h
    · rename_i cs rest hx hr
      simp only [Option.some.injEq] at h; subst h
      cases hv : ev σ.T x with
      | none => simp [hv] at hx
      | some v =>
        simp only [hv, Option.bind_some] at hx
        obtain ⟨xs, h2, h3, h4⟩ := rep_cellsOf hx (ev_rep hc (h1 (i, x) (by simp) v hv))
        simp only [RepP, List.map_cons]
        exact ⟨_, xs, _, rfl, h2, h3, h4, parts_rep hc (fun p hp => h1 p (by simp [hp])) hr⟩
    · simp at h

/-- The places of a struct type's fields. -/
def plB (P : Program) (t : TypeId) : Option (List (Nat × Nat)) :=
  match P.underlying t with
  | some (.struct fs) => fs.toList.mapM (fun f => (P.info? f.type).map fun i => (f.offset, i.size))
  | _ => none

theorem stp_build {t : TypeId} {parts : List (Nat × Operand)} {zs : List Value} {pl : List (Nat × Nat)} {avs : List (Nat × List AV)} {cs : List AV} (ho : o.op = .build t parts.toArray) (hz : zvB P t = some (some zs)) (h1 : zs.all (·.oneCell') = true) (hp : plB P t = some pl)
    (ha : partsA σ.T parts = some avs) (hf : fillA (pl[·]?) (zs.map .imm) avs = some cs) : Stp P c N o σ [] (.agg cs) [] := by
  refine stp_value fun σ' h2 _ a w ρ S hc => ?_
  obtain ⟨i, z, h3, h4, h5⟩ := zv_spec hz
  have hP := parts_rep hc (fun p hp u hu => h2 p.2 (by simp only [ho, Op.operands]; simpa using ⟨p.1, hp⟩) u hu) ha
  obtain ⟨xs, hx, hr, hone⟩ := fill_rep (pl := (pl[·]?)) hP (repL_imm zs) (fun y hy => (List.all_eq_true.1 h1) y hy) hf
  refine ⟨.agg xs.toArray, ?_, by simp only [Rep]; exact ⟨xs, rfl, hone, hr⟩⟩
  have hb : P.built t (parts.map fun (p : Nat × Operand) => (p.1, a.eval p.2)) = some xs.toArray := by
    unfold plB at hp
    unfold Program.built
    cases hu : P.underlying t with
    | none => simp [hu] at hp
    | some d =>
      cases d <;> simp only [hu, reduceCtorEq] at hp
      rename_i fs
      have hzz : z.cells = zs.toArray := by rw [← h5]
      simp only [h3, h4, hp, hzz]
      simpa using hx
  have hrun := run_build w t (parts.map fun (p : Nat × Operand) => (p.1, a.eval p.2)).toArray xs.toArray (by simpa using hb)
  simp only [execOp, ho]
  simp [Sem.run_bind, hrun]

theorem repL_any {w : World} {ρ : Nat → Value} {S : Bool → Nat → Prop} {U : Nat → Prop} : ∀ xs : List Value, RepL w ρ S U (List.replicate xs.length .any) xs
  | [] => by simp [RepL]
  | x :: xs => by simp only [List.length_cons, List.replicate_succ, RepL]; exact ⟨x, xs, rfl, by simp [Rep], repL_any xs⟩

theorem zeros_one {zs : List Value} (h1 : zs.all (·.oneCell') = true) (n : Nat) (z : Value) (hz : z.cells.toList = zs) (h0 : 0 < zs.length) : ∀ y ∈ ((Array.range n).map (z.cells[· % z.cells.size]!)).toList, y.oneCell' = true := by
  intro y hy
  simp only [Array.toList_map, List.mem_map] at hy
  obtain ⟨i, _, rfl⟩ := hy
  have hs : z.cells.size = zs.length := by rw [← hz]; simp
  have hlt : i % z.cells.size < z.cells.size := Nat.mod_lt _ (by omega)
  rw [getElem!_pos z.cells _ hlt]
  refine (List.all_eq_true.1 h1) _ ?_
  rw [← hz]
  exact Array.mem_toList_iff.2 (Array.getElem_mem _)

theorem stp_buildSlice {t e : TypeId} {n k : Nat} {parts : List (Nat × Operand)} {zs : List Value} {avs : List (Nat × List AV)} {cs : List AV} (l : Nat) (ho : o.op = .buildSlice t n parts.toArray) (ht : slB P t e k = true) (hz : zvB P e = some (some zs)) (h1 : zs.all (·.oneCell') = true) (hzl : zs.length = k) (hk : 0 < k) (hn : n * k ≤ 16777216)
    (hn0 : 0 < n) (ha : partsA σ.T parts = some avs) (hf : fillA (fun i => some (i * k, k)) (List.replicate (n * k) .any) avs = some cs) (hcs : cs.length = n * k) : Stp P c N o σ [] (.row l) [(l, .row e k cs)] := by
  rintro hd σ' h2 _ hnew
  refine aop_new (p0 := fun b => .slice (some ⟨b, 0, none⟩) n n) hd (hnew _ (List.mem_singleton.2 rfl)) fun a w ρ S hc => ?_
  obtain ⟨i, z, h3, h4, h5⟩ := zv_spec hz
  obtain ⟨i', h6, h7, h8⟩ := sl_spec ht
  rw [h3] at h7; simp only [Option.some.injEq] at h7; subst h7
  have hP := parts_rep hc (fun p hp u hu => h2 p.2 (by simp only [ho, Op.operands]; simpa using ⟨p.1, hp⟩) u hu) ha
  have hz0 : ((Array.range (n * k)).map (z.cells[· % z.cells.size]!)).toList.length = n * k := by simp
  have hr0 := repL_any (w := w) (ρ := ρ) (S := S) (U := σ'.U) ((Array.range (n * k)).map (z.cells[· % z.cells.size]!)).toList
  rw [hz0] at hr0
  obtain ⟨xs, hx, hr, hone⟩ := fill_rep (pl := fun i => some (i * k, k)) hP hr0 (zeros_one h1 _ z h5 (by omega)) hf
  have hxl := hr.length
  refine ⟨.cells xs.toArray e, ?_, rfl, fun ρ' U' hρ hU hl hp => ⟨⟨n, xs, ⟨by omega, .inr ⟨w.heap.size, n, xs.toArray, hp, Nat.zero_le _, heap_new w _, Nat.le_refl _, ?_, by simp; omega, by simp; rw [List.take_of_length_le (by omega)]⟩⟩, hone, hr.mono (fun _ _ h => h) (fun f b hb => (Far.alloc (fun _ => False) w _).block b (hc.Sb f b hb) (fun h => h)) hU hρ⟩, ?_⟩⟩
  · have hrun : (Instr.buildSlice t n (parts.map fun (p : Nat × Operand) => (p.1, a.eval p.2)).toArray).run P w = .ok (.slice (some ⟨w.heap.size, 0, none⟩) n n) (w.alloc (.cells xs.toArray e)) := by
      have hpos : 0 < n * k := Nat.mul_pos hn0 hk
      have hx' : Instr.fill (fun i => some (i * k, k)) ((Array.range (n * k)).map (z.cells[· % z.cells.size]!)) (parts.map fun (p : Nat × Operand) => (p.1, a.eval p.2)) = some xs.toArray := by rw [← hx]
      simp only [Instr.buildSlice, Sem.run_bind, run_underlying h6 w, Result.andThen_ok, sizeOf, run_typeInfo w h3, Sem.run_pure, h8]
      rw [if_neg (by omega), if_neg (by omega)]
      simp only [Sem.run_bind, run_zero h3 h4, Result.andThen_ok, Sem.run_pure]
      rw [hx']
      simp [newRow, Sem.run_bind, run_newObj_alloc]
    simp only [execOp, ho]
    simp only [List.map_toArray]
    simp [Sem.run_bind, hrun]
  · simp only [maxLen]
    have : n ≤ n * k := Nat.le_mul_of_pos_right n hk
    omega
  · simp only [Rep]
    exact ⟨hl, hp.symm, _, _, _, rfl⟩

end
end Go.Proofs.Ytdecgkhdbfgldaa
