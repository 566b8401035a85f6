/- Plain proof kit of this session, ninth part: a call, by what its function is said to do. -/
import Derived.Test.YtdecgkhdbfgldaaSymH
set_option linter.unusedVariables false
set_option linter.unusedSimpArgs false
namespace Go.Proofs.Ytdecgkhdbfgldaa
open Go

mutual
theorem allL_true : ∀ v : AV, v.allL (fun _ => true) = true
  | .any => rfl
  | .imm _ => rfl
  | .dat _ _ _ => rfl
  | .agg cs => by simp only [AV.allL]; exact allLs_true cs
  | .ptr _ _ => rfl
  | .elp _ _ => rfl
  | .row _ => rfl
  | .fn _ cs => by simp only [AV.allL]; exact allLs_true cs
  | .map _ => rfl
  | .tup cs => by simp only [AV.allL]; exact allLs_true cs
theorem allLs_true : ∀ vs : List AV, AV.allLs (fun _ => true) vs = true
  | [] => rfl
  | v :: vs => by simp only [AV.allLs, allL_true v, allLs_true vs, Bool.and_self]
end
mutual
theorem allQ_true : ∀ v : AV, v.allQ (fun _ => true) = true
  | .any => rfl
  | .imm _ => rfl
  | .dat _ _ _ => rfl
  | .agg cs => by simp only [AV.allQ]; exact allQs_true cs
  | .ptr _ _ => rfl
  | .elp _ _ => rfl
  | .row _ => rfl
  | .fn _ cs => by simp only [AV.allQ]; exact allQs_true cs
  | .map _ => rfl
  | .tup cs => by simp only [AV.allQ]; exact allQs_true cs
theorem allQs_true : ∀ vs : List AV, AV.allQs (fun _ => true) vs = true
  | [] => rfl
  | v :: vs => by simp only [AV.allQs, allQ_true v, allQs_true vs, Bool.and_self]
end
theorem oallL_true : ∀ v : Ob, v.allL (fun _ => true) = true
  | .box cs => allLs_true cs
  | .row _ _ cs => allLs_true cs
  | .rowd _ _ _ _ => rfl
  | .mp _ => rfl
  | .dead => rfl
theorem oallQ_true : ∀ v : Ob, v.allQ (fun _ => true) = true
  | .box cs => allQs_true cs
  | .row _ _ cs => allQs_true cs
  | .rowd _ _ _ _ => rfl
  | .mp _ => rfl
  | .dead => rfl

theorem ok_append (O' O : List (Nat × Ob)) (l : Nat) : ok (O' ++ O) l = (match ok O' l with | some v => some v | none => ok O l) := by
  induction O' with
  | nil => rfl
  | cons p O' ih =>
    obtain ⟨s, v⟩ := p
    simp only [List.cons_append, ok_cons]
    by_cases h : s = l
    · simp [h]
    · simp [h, ih]

/-- The objects that are handed over, as the callee sees them. -/
def PassO (B : Bool) (O Oin : List (Nat × Ob)) : Prop := ∀ l ob', ok Oin l = some ob' → ∃ ob, ok O l = some ob ∧ ob.live ∧ ob' = ob.cv B O (inD Oin)

theorem PassO.nil {B : Bool} {O : List (Nat × Ob)} : PassO B O [] := fun l ob' h => by simp [ok] at h

def allOQ (q : Bool → Bool) : List (Nat × Ob) → Bool
  | [] => true
  | (_, v) :: T => v.allQ q && allOQ q T
theorem allOQ_get {q : Bool → Bool} : ∀ {T : List (Nat × Ob)} {t : Nat} {v : Ob}, allOQ q T = true → ok T t = some v → v.allQ q = true
  | (s, u) :: T, t, v, h, hv => by
    simp only [allOQ, Bool.and_eq_true] at h
    rw [ok_cons] at hv
    split at hv
    · simp only [Option.some.injEq] at hv; subst hv; exact h.1
    · exact allOQ_get h.2 hv

/-- A function that is entered when it is called. -/
def Enters (P : Program) (g : FuncId) : Prop := ∀ args w, (callFunc g args).run P w = .ok (.enter g args) w

theorem enters_of {P : Program} {f : FuncId} {fn : Func} (hf : P.funcs[f]? = some fn) (hname : (fn.name == "runtime.NumGoroutine") = false) (hb : fn.body.isNone = false) : Enters P f := by
  intro args w
  have hn : fn.name ≠ "runtime.NumGoroutine" := by simpa using hname
  cases hbb : fn.body with
  | none => rw [hbb] at hb; cases hb
  | some c => simp [callFunc, program, Sem.run_bind, Sem.run, hf, hn, hbb]

section
variable {P : Program} {c : Ctx} {N : Nat} {Q : Exit → St → Prop} {σ : St} {o : Oper}

theorem call_core {x : Operand} {xs : List Operand} {tys : Array TypeId} {g : FuncId} {caps avs args : List AV} {T : List (Nat × AV)} {O Oin : List (Nat × Ob)} {Post : AV → List (Nat × Ob) → Prop} {Φ : St → Prop} (B : Bool)
    (ho : o.op = .call { callee := .value x, args := xs.toArray, argTypes := tys }) (hdN : ∀ d, o.dst = some d → d < N) (hen : Enters P g)
    (hx : ev T x = some (.fn g caps)) (hxs : xs.map (ev T) = avs.map some) (hcv : AV.cvs B O (inD Oin) (avs ++ caps) = args) (hOin : PassO B O Oin) (hAC : AC P g args Oin Post)
    (hfr : ∀ r O', Post r O' → ∀ l, inD O' l = true → inD Oin l = true ∨ inD O l = false)
    (hq : B = true → ∀ r O', Post r O' → r.allQ (fun f => f) = true ∧ allOQ (fun f => f) O' = true)
    (K : ∀ r O', Post r O' → Φ (St.put ⟨T, O' ++ O⟩ o.dst r)) : AOp P c N o ⟨T, O⟩ Φ := by
  rintro a w ⟨ρ, S, hc⟩
  have hf := ev_rep hc hx
  simp only [Rep] at hf
  obtain ⟨cs, hfe, hcs⟩ := hf
  have has := repL_evs (σ := ⟨T, O⟩) hc (fun _ _ _ h => h) hxs
  have hall := repL_cv (B := B) (p := inD Oin) (U' := St.U ⟨argT 0 args, Oin⟩) hc (fun l h => h) _ _ (has.append hcs)
  rw [hcv] at hall
  have hpl : ∀ l, inD Oin l = true → ∃ ob, ok O l = some ob ∧ ob.live := fun l hl => by
    obtain ⟨ob', h'⟩ := Option.isSome_iff_exists.1 (show (ok Oin l).isSome = true from hl)
    obtain ⟨ob, h1, h2, _⟩ := hOin l ob' h'
    exact ⟨ob, h1, h2⟩
  let W : Nat → Prop := fun b => ∃ l, inD Oin l = true ∧ blk (ρ l) = some b
  let cc : Ctx := ⟨w, W, seen B O (inD Oin) ρ S, ρ, fun l => inD Oin l = true⟩
  have hseen : ∀ b, seen B O (inD Oin) ρ S b → b < w.heap.size ∧ ∀ l, inD Oin l = true → blk (ρ l) ≠ some b := by
    intro b hb
    rcases hb with h | ⟨_, h | ⟨l, e, k, f, es, h1, h2, h3⟩⟩
    · exact ⟨hc.Sb _ b h, fun l hl e => by obtain ⟨ob, h1, h2⟩ := hpl l hl; exact hc.dS l ob b _ h1 h2 e h⟩
    · exact ⟨hc.Sb _ b h, fun l hl e => by obtain ⟨ob, h1, h2⟩ := hpl l hl; exact hc.dS l ob b _ h1 h2 e h⟩
    · refine ⟨hc.lt l _ b h1 trivial h3, fun m hm e' => ?_⟩
      obtain ⟨ob, h4, h5⟩ := hpl m hm
      have := hc.dj m l ob _ b h4 h1 h5 trivial e' h3
      subst this; rw [hm] at h2; cases h2
  have hent : Conc cc args.length ⟨argT 0 args, Oin⟩ ⟨(xs.map a.eval ++ cs).toArray, []⟩ w ρ (seenS B O (inD Oin) ρ S) := by
    refine ⟨by have := hall.length; simpa using this, rfl, fun t v ht => ?_, fun l ob' hl => ?_, fun l l' ob ob' b h1 h2 h3 h4 h5 h6 => ?_, fun l ob b f h1 h2 h3 h4 => ?_, fun l ob b h1 h2 h3 => ?_, fun l ob b h1 h2 h3 => ?_, fun b h => (by cases h.1.1), fun f b h => (hseen b h.2).1, fun b h => (by cases h.1), fun b h => .inl h.2, fun l hl => ⟨hl, rfl⟩, Far.refl _ _⟩
    · obtain ⟨j, h1, y, hy, hv⟩ := lk_argT 0 hall t v ht
      have : (xs.map a.eval ++ cs).toArray.getD t undef = y := by
        rw [Array.getD_eq_getD_getElem?]
        simp only [List.getElem?_toArray]
        rw [h1, Nat.zero_add, hy]; rfl
      simp only
      rw [this]; exact hv
    · obtain ⟨ob, h1, h2, rfl⟩ := hOin l ob' hl
      exact ob_cv hc (fun l h => h) h1
    · obtain ⟨o1, k1, k2, rfl⟩ := hOin l ob h1
      obtain ⟨o2, k3, k4, rfl⟩ := hOin l' ob' h2
      exact hc.dj l l' o1 o2 b k1 k3 k2 k4 h5 h6
    · exact (hseen b h4.2).2 l (by simp [inD, h1]) h3
    · have hl : inD Oin l = true := by simp [inD, h1]
      exact .inr ⟨hl, l, hl, h3⟩
    · obtain ⟨o1, k1, k2, rfl⟩ := hOin l ob h1
      exact hc.lt l o1 b k1 k2 h3
  have hcall := hAC cc w (xs.map a.eval ++ cs) ρ _ rfl (fun l => Iff.rfl) (fun b h => by cases h.1) hent
  have hex : (execOp a.eval o).run P w = .ok (.enter g (xs.map a.eval ++ cs).toArray) w := by
    simp only [execOp, ho, resolve]
    simp [Sem.run_bind, hfe, Deferred.ofValue, invoke, hen _ _]
  unfold Oper.wp
  rw [hex]
  simp only [Oper.upon_enter]
  refine Calls.mono hcall ?_
  rintro e w' ⟨v, r, O', rfl, hP, ρ', S', h'⟩
  simp only
  refine ⟨_, ?_, K r O' hP⟩
  have hfar := h'.fm
  have hsz : w.heap.size ≤ w'.heap.size := hfar.size
  have hin : ∀ l, inD Oin l = true → inD O' l = true ∧ ρ' l = ρ l := fun l hl => h'.lo l hl
  have hw0 := hc.fm.size
  let ρ'' : Nat → Value := fun l => if inD O' l = true then ρ' l else ρ l
  let S'' : Bool → Nat → Prop := fun f b => S f b ∨ (S' f b ∧ w.heap.size ≤ b)
  have hρ1 : ∀ l, inD O' l = true → ρ'' l = ρ' l := fun l hl => if_pos hl
  have hρ2 : ∀ l, inD O l = true → ρ'' l = ρ l := fun l hl => by
    by_cases h : inD O' l = true
    · rw [hρ1 l h]
      rcases hfr r O' hP l h with h1 | h1
      · exact (hin l h1).2
      · rw [hl] at h1; cases h1
    · exact if_neg h
  have hnW : ∀ l ob b, ok O l = some ob → ob.live → inD O' l = false → blk (ρ l) = some b → ¬ W b := fun l ob b h1 h2 h3 h4 ⟨m, hm, hb⟩ => by
    obtain ⟨o1, k1, k2⟩ := hpl m hm
    have := hc.dj m l o1 ob b k1 h1 k2 h2 hb h4
    subst this; rw [(hin m hm).1] at h3; cases h3
  have hSW : ∀ f b, S f b → w'.heap[b]? = w.heap[b]? := fun f b hb => hfar.block b (hc.Sb f b hb) fun ⟨m, hm, e⟩ => by
    obtain ⟨o1, k1, k2⟩ := hpl m hm
    exact hc.dS m o1 b f k1 k2 e hb
  have hUO : ∀ l, inD O l = true → St.U ⟨T, O' ++ O⟩ l := fun l hl => by
    simp only [St.U, ok_append]
    split
    · rfl
    · exact hl
  have hUO' : ∀ l, inD O' l = true → St.U ⟨T, O' ++ O⟩ l := fun l hl => by
    simp only [St.U, ok_append]
    split
    · rfl
    · rename_i h; simp [inD, h] at hl
  -- what the callee told, told here
  let q : Bool → Bool := if B = true then (fun f => f) else fun _ => true
  have hqS : ∀ f b, q f = true → S' f b → S'' f b := fun f b hqf hb => by
    cases f with
    | true => exact .inr ⟨hb, h'.Sn b hb⟩
    | false =>
      by_cases hB : B = true
      · simp [q, hB] at hqf
      · rcases h'.So b hb with h | h
        · rcases h with h | ⟨h, _⟩
          · exact .inl h
          · exact absurd h hB
        · exact .inr ⟨hb, h⟩
  have hqr : r.allQ q = true := by
    by_cases hB : B = true
    · simp only [q, hB, if_true]; exact (hq hB r O' hP).1
    · simp only [q, hB, if_false]; exact allQ_true r
  have hqO : ∀ l ob, ok O' l = some ob → ob.allQ q = true := fun l ob hl => by
    by_cases hB : B = true
    · simp only [q, hB, if_true]; exact allOQ_get (hq hB r O' hP).2 hl
    · simp only [q, hB, if_false]; exact oallQ_true ob
  have hpp : ∀ l, (fun _ : Nat => true) l = true → St.U ⟨[(0, r)], O'⟩ l → St.U ⟨T, O' ++ O⟩ l ∧ ρ'' l = ρ' l := fun l _ hl => ⟨hUO' l hl, hρ1 l hl⟩
  have hsp : ∀ l ob, ok (O' ++ O) l = some ob → ok O' l = some ob ∨ (inD O' l = false ∧ ok O l = some ob) := fun l ob h => by
    rw [ok_append] at h
    split at h
    · rename_i v hv; simp only [Option.some.injEq] at h; subst h; exact .inl hv
    · rename_i hv; exact .inr ⟨by simp [inD, hv], h⟩
  -- blocks of what the callee hands back
  have hblk : ∀ l ob b, ok O' l = some ob → ob.live → blk (ρ'' l) = some b → (inD Oin l = true ∧ blk (ρ l) = some b) ∨ (w.heap.size ≤ b) := fun l ob b h1 h2 h3 => by
    have hl : inD O' l = true := by simp [inD, h1]
    rw [hρ1 l hl] at h3
    rcases h'.wr l ob b h1 h2 h3 with h | ⟨h, _⟩
    · exact .inr h
    · exact .inl ⟨h, by rw [← (hin l h).2]; exact h3⟩
  have hnew : Conc c N ⟨T, O' ++ O⟩ a w' ρ'' S'' := by
    refine ⟨hc.tm, hc.df, fun t v ht => (hc.T t v ht).mono (fun f b h => .inl h) hSW hUO hρ2, fun l ob hl => ?_, fun l l' ob ob' b h1 h2 h3 h4 h5 h6 => ?_, fun l ob b f h1 h2 h3 h4 => ?_, fun l ob b h1 h2 h3 => ?_, fun l ob b h1 h2 h3 => ?_, ?_, ?_, ?_, ?_, fun l hl => ?_, ?_⟩
    · rcases hsp l ob hl with h1 | ⟨h1, h2⟩
      · have hl1 : inD O' l = true := by simp only [inD, h1]; rfl
        exact ObOk.gen hqS (fun _ _ _ _ => rfl) hpp (hρ1 l hl1) (oallL_true ob) (hqO l ob h1) (fun _ _ => rfl) (h'.O l ob h1)
      · by_cases hv : ob.live
        · exact (hc.O l ob h2).mono (fun f b h => .inl h) hSW hUO hρ2 (show St.U ⟨T, O⟩ l by simp [St.U, h2]) (fun b hb => hfar.block b (hc.lt l ob b h2 hv hb) (hnW l ob b h2 hv h1 hb))
        · cases ob <;> first | exact absurd trivial hv | trivial
    · have mix : ∀ l l' ob ob' b, ok O' l = some ob → (inD O' l' = false ∧ ok O l' = some ob') → ob.live → ob'.live → blk (ρ'' l) = some b → blk (ρ'' l') = some b → l = l' := by
        rintro l l' ob ob' b k1 ⟨k2, k3⟩ k4 k5 k6 k7
        have k8 : blk (ρ l') = some b := by rw [← hρ2 l' (by simp [inD, k3])]; exact k7
        rcases hblk l ob b k1 k4 k6 with ⟨k9, k10⟩ | k9
        · obtain ⟨o1, j1, j2⟩ := hpl l k9
          exact hc.dj l l' o1 ob' b j1 k3 j2 k5 k10 k8
        · have := hc.lt l' ob' b k3 k5 k8; omega
      rcases hsp l ob h1 with k1 | k1 <;> rcases hsp l' ob' h2 with k2 | k2
      · rw [hρ1 l (by simp [inD, k1])] at h5
        rw [hρ1 l' (by simp [inD, k2])] at h6
        exact h'.dj l l' ob ob' b k1 k2 h3 h4 h5 h6
      · exact mix l l' ob ob' b k1 k2 h3 h4 h5 h6
      · exact (mix l' l ob' ob b k2 k1 h4 h3 h6 h5).symm
      · rw [hρ2 l (by simp [inD, k1.2])] at h5
        rw [hρ2 l' (by simp [inD, k2.2])] at h6
        exact hc.dj l l' ob ob' b k1.2 k2.2 h3 h4 h5 h6
    · rcases hsp l ob h1 with k1 | ⟨k1, k2⟩
      · rcases h4 with h4 | ⟨h4, h7⟩
        · rcases hblk l ob b k1 h2 h3 with ⟨k9, k10⟩ | k9
          · obtain ⟨o1, j1, j2⟩ := hpl l k9
            exact hc.dS l o1 b f j1 j2 k10 h4
          · have := hc.Sb f b h4; omega
        · rw [hρ1 l (by simp [inD, k1])] at h3
          exact h'.dS l ob b f k1 h2 h3 h4
      · rw [hρ2 l (by simp [inD, k2])] at h3
        rcases h4 with h4 | ⟨h4, h7⟩
        · exact hc.dS l ob b f k2 h2 h3 h4
        · have := hc.lt l ob b k2 h2 h3; omega
    · rcases hsp l ob h1 with k1 | ⟨k1, k2⟩
      · rcases hblk l ob b k1 h2 h3 with ⟨k9, k10⟩ | k9
        · obtain ⟨o1, j1, j2⟩ := hpl l k9
          exact hc.wr l o1 b j1 j2 k10
        · exact .inl (by omega)
      · rw [hρ2 l (by simp [inD, k2])] at h3
        exact hc.wr l ob b k2 h2 h3
    · rcases hsp l ob h1 with k1 | ⟨k1, k2⟩
      · rw [hρ1 l (by simp [inD, k1])] at h3
        exact h'.lt l ob b k1 h2 h3
      · rw [hρ2 l (by simp [inD, k2])] at h3
        exact Nat.lt_of_lt_of_le (hc.lt l ob b k2 h2 h3) hsz
    · rintro b ⟨h1 | ⟨h1, h3⟩, h2 | ⟨h2, h4⟩⟩
      · exact hc.SS b ⟨h1, h2⟩
      · have := hc.Sb _ b h1; omega
      · have := hc.Sb _ b h2; omega
      · exact h'.SS b ⟨h1, h2⟩
    · rintro f b (h1 | ⟨h1, h3⟩)
      · exact Nat.lt_of_lt_of_le (hc.Sb f b h1) hsz
      · exact h'.Sb f b h1
    · rintro b (h1 | ⟨h1, h3⟩)
      · exact hc.Sn b h1
      · omega
    · rintro b (h1 | ⟨h1, h3⟩)
      · exact hc.So b h1
      · exact .inr (by omega)
    · obtain ⟨h1, h2⟩ := hc.lo l hl
      exact ⟨hUO l h1, by rw [hρ2 l h1]; exact h2⟩
    · refine hc.fm.step hfar ?_
      rintro b hb ⟨m, hm, e⟩
      obtain ⟨o1, k1, k2⟩ := hpl m hm
      rcases hc.wr m o1 b k1 k2 e with h | h
      · omega
      · exact h.2
  have hrr : Rep w' ρ'' S'' (St.U ⟨T, O' ++ O⟩) r v := by
    have h1 := h'.T 0 r (by simp [lk_cons])
    exact Rep.gen hqS (fun _ _ _ _ => rfl) hpp r v (allL_true r) hqr h1
  exact ⟨_, _, hnew.put hdN hrr⟩

end
end Go.Proofs.Ytdecgkhdbfgldaa
