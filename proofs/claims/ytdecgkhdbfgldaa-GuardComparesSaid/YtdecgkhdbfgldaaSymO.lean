/- Plain proof kit of this session, fifteenth part: sets of texts that a call makes. -/
import Derived.Test.YtdecgkhdbfgldaaSymN
import Derived.StringKeys
import Derived.Carry
import Derived.Maps.OwnSet
set_option linter.unusedVariables false
set_option linter.unusedSimpArgs false
namespace Go.Proofs.Ytdecgkhdbfgldaa
open Go Go.Maps Go.WideMaps Go.RowKit

theorem keyOf_string_eq {P P' : Program} {k k' : TypeId} (hk : P.underlying k = some .string) (hk' : P'.underlying k' = some .string) (v : Value) : keyOf P k v = keyOf P' k' v := by
  cases h : keyOf P k v with
  | some l =>
    obtain ⟨s, rfl, rfl, hs⟩ := string_of_keyOf hk h
    exact (keyOf_string_mk hk' hs).symm
  | none =>
    cases h' : keyOf P' k' v with
    | none => rfl
    | some l =>
      obtain ⟨s, rfl, rfl, hs⟩ := string_of_keyOf hk' h'
      rw [keyOf_string_mk hk hs] at h; cases h
theorem ownsMap_string {P P' : Program} {k k' : TypeId} (hk : P.underlying k = some .string) (hk' : P'.underlying k' = some .string) {w : World} {b n : Nat} {D : DataW Unit} (h : w.ownsMap P k R1 b n D) : w.ownsMap P' k' R1 b n D := by
  obtain ⟨es, clock, h1, h2, h3, h4⟩ := h
  have hrd : ∀ x, WideElems.rd P k R1 x = WideElems.rd P' k' R1 x := fun x => by unfold WideElems.rd; rw [keyOf_string_eq hk hk']
  have hrg : WideElems.rg P k R1 = WideElems.rg P' k' R1 := funext fun x => by unfold WideElems.rg; rw [hrd]
  exact ⟨es, clock, h1, ⟨h2.size, h2.stamped, fun x hx => by rw [← hrd]; exact h2.reads x hx⟩, h3, by rw [← hrg]; exact h4⟩

section
variable {P : Program} {c : Ctx} {N : Nat} {Q : Exit → St → Prop} {σ : St} {o : Oper}

theorem stp_makeMap {t k : TypeId} (l : Nat) (ho : o.op = .makeMap t none) (hk : P.underlying k = some .string) : Stp P c N o σ [] (.map l) [(l, .mp [])] := by
  rintro hd σ' _ _ hn
  refine aop_new (p0 := fun b => .map (some b)) hd (hn _ (List.mem_singleton.2 rfl)) fun a w ρ S hc => ?_
  refine ⟨.map #[] 0, ?_, rfl, fun ρ' U' hρ hU hl hp => ⟨⟨w.heap.size, hp, P, k, 0, .map [], hk, World.ownsMap_made w P k R1, Nat.le_refl _, fun s => ?_⟩, ?_⟩⟩
  · simp only [execOp, ho, Option.map_none]
    simp [Sem.run_bind, run_makeMap]
  · simp [Maps.has]
  · simp only [Rep]
    exact ⟨hl, hp.symm, _, rfl⟩

theorem aop_mapSet {t k e : TypeId} {x y z : Operand} {l : Nat} {ss : List ByteArray} {s : ByteArray} {T : List (Nat × AV)} {O : List (Nat × Ob)} (ho : o.op = .mapUpdate t x y z) (hd : o.dst = none) (ht : P.underlying t = some (.map k e)) (hk : P.underlying k = some .string)
    (hx : ev T x = some (.map l)) (hl : ok O l = some (.mp ss)) (hy : ev T y = some (.imm (.string s))) (hz : ev T z = some (.imm (.bool true))) (hs : s.size ≤ maxLen) (hn : ss.length < maxLen) : AOp P c N o ⟨T, O⟩ (fun σ2 => σ2 = ⟨T, (l, .mp (s :: ss)) :: O⟩) := by
  rintro a w ⟨ρ, S, hc⟩
  have hx' := ev_rep hc hx
  have hy' := ev_rep hc hy
  have hz' := ev_rep hc hz
  simp only [Rep] at hx' hy' hz'
  obtain ⟨hU, hxe, r', hr'⟩ := hx'
  obtain ⟨r, hr, P', k', n, D, hk', hown, hnn, hmem⟩ := hc.O l _ hl
  rw [hr] at hxe
  have hown' := ownsMap_string hk' hk hown
  have hkey := keyOf_string_mk hk hs
  obtain ⟨w', hrun, hown2, hgrow⟩ := hown'.update (Maps.string_keyed hk) ht (Nat.lt_of_le_of_lt hnn hn) hkey (val := .bool true) (d := .lit (.bool true)) (ps := []) rfl
  have hf : Far (fun b => blk (ρ l) = some b) w w' := by
    refine ⟨hgrow.os, hgrow.tape, hgrow.output, hgrow.size, fun i hi hb => hgrow.block i hi fun e => hb ?_⟩
    rw [hr]; simpa [blk] using e.symm
  have hIs : Maps.IsMap D := hown'.isMap
  have hob : ObOk w' ρ S (St.U ⟨T, (l, .mp (s :: ss)) :: O⟩) l (.mp (s :: ss)) := by
    refine ⟨r, hr, P, k, n + 1, _, hk, hown2, by simp only [List.length_cons]; omega, fun u => ?_⟩
    by_cases hu : u = s
    · subst hu; simp [Maps.has_put_same hIs (k := .string u.data.toList) (by simp [WideAt.IsKeyLit])]
    · rw [Maps.has_put_other (by
        intro e; simp only [Lit.string.injEq] at e; exact hu (by cases u; cases s; congr 1; exact Array.toList_inj.1 e))]
      rw [← hmem u]; simp [hu]
  unfold Oper.wp
  have : (execOp a.eval o).run P w = .ok .skip w' := by
    simp only [execOp, ho, hxe, hy', hz']
    simp [Sem.run_bind, hrun]
  rw [this]
  have hput : a.put o.dst undef = a := by rw [hd]; rfl
  simp only [Oper.upon, hput]
  exact ⟨_, ⟨ρ, S, hc.modOb hl trivial hf hob⟩, rfl⟩
theorem awps_mapSet {ops : Array Oper} {rest : List Oper} {t k e : TypeId} {x y z : Operand} {l : Nat} {ss : List ByteArray} {s : ByteArray} {T : List (Nat × AV)} {O : List (Nat × Ob)} (hg : o.guard = none) (ho : o.op = .mapUpdate t x y z) (hd : o.dst = none) (ht : P.underlying t = some (.map k e)) (hk : P.underlying k = some .string)
    (hx : ev T x = some (.map l)) (hl : ok O l = some (.mp ss)) (hy : ev T y = some (.imm (.string s))) (hz : ev T z = some (.imm (.bool true))) (hs : s.size ≤ maxLen) (hn : ss.length < maxLen)
    (K : awps P c N ops rest Q ⟨T, (l, .mp (s :: ss)) :: O⟩) : awps P c N ops (o :: rest) Q ⟨T, O⟩ := by
  refine awps_op hg fun a w hc => Oper.wp_mono ?_ (aop_mapSet ho hd ht hk hx hl hy hz hs hn a w hc)
  rintro a w ⟨σ2, h2, rfl⟩
  exact ⟨_, h2, K⟩
theorem Far.of_below {w w' : World} (h : Below w.heap.size w w') : Far (fun _ => False) w w' := ⟨h.os, h.tape, h.output, h.size, fun b hb _ => h.block b hb⟩

/-- A call of the shelf that hands back a new row of plain cells. -/
theorem C_freshrow {T T' : List (Nat × AV)} {O O' : List (Nat × Ob)} {a : Act} {w w' : World} {ρ : Nat → Value} {S : Bool → Nat → Prop} {e : TypeId} {v : Value} {xs : List Value} {d l : Nat} (hc : Conc c N ⟨T, O⟩ a w ρ S) (hf : Far (fun _ => False) w w') (hrow : w'.ownsRow w.heap.size e 1 v xs.length xs) (h1 : ∀ y ∈ xs, y.oneCell' = true)
    (hd : d < N) (hl : ok O l = none) (hL : ¬ c.L l) (hT' : frT l (.dat true 1 (xs.map fun x => [.imm x])) ((d, .row l) :: T) = T') (hO' : frO l (.dat true 1 (xs.map fun x => [.imm x])) ((l, .rowd e 1 true (xs.map fun x => [.imm x])) :: O) = O') : C c N ⟨T', (l, .dead) :: O'⟩ (a.put (some d) v) w' := by
  have hw0 := hc.fm.size
  have hg : Conc c N ⟨T, O⟩ a w' ρ S := hc.grow hf (fun _ _ _ h => h) (fun _ _ _ _ _ _ h => h) (fun _ _ h => h.elim)
  have hfl : (xs.map fun x => [D.imm x]).flatten = xs.map .imm := by
    clear hrow h1 hT' hO'
    induction xs with
    | nil => rfl
    | cons x xs ih => simp only [List.map_cons, List.flatten_cons, ih]; rfl
  have hrl : ∀ (ρ : Nat → Value) (S : Bool → Nat → Prop) (U : Nat → Prop), RepL w' ρ S U (lift true (xs.map fun x => [D.imm x]).flatten) xs := fun ρ S U => by
    rw [hfl]
    clear hrow h1 hT' hO' hfl
    induction xs with
    | nil => simp [lift, RepL]
    | cons x xs ih => simp only [lift, List.map_cons, D.av, RepL]; exact ⟨x, xs, rfl, by simp [Rep], ih⟩
  have ha : Conc c N ⟨T, (l, .rowd e 1 true (xs.map fun x => [.imm x])) :: O⟩ a w' (upd ρ l v) S := by
    refine hg.addOb hl (fun b hb => ?_) ⟨fun d hd => by simp only [List.mem_map] at hd; obtain ⟨x, _, rfl⟩ := hd; rfl, xs, by rw [upd_same, List.length_map]; exact ⟨hrow.1, hrow.2.imp id fun ⟨g, cap, cur, h2, h3, h4⟩ => ⟨g, cap, cur, h2, Nat.zero_le _, h4⟩⟩, h1, hrl _ _ _⟩
    rcases hrow.2 with ⟨hv, _⟩ | ⟨g, cap, cur, hv, hgb, hh, _⟩
    · rw [hv] at hb; simp [blk] at hb
    · rw [hv] at hb; simp only [blk, Option.some.injEq] at hb; subst hb
      have hlt : g < w'.heap.size := by
        rcases Nat.lt_or_ge g w'.heap.size with h | h
        · exact h
        · rw [Array.getElem?_eq_none h] at hh; cases hh
      exact ⟨hlt, by omega, fun f hS => by have := hc.Sb f _ hS; omega, fun m om hm hv' e' => by have := hc.lt m om _ hm hv' e'; omega⟩
  have hput := ha.put (dst := some d) (v := .row l) (x := v) (fun e he => by cases he; exact hd) (by
    simp only [Rep]
    refine ⟨by simp [St.U, ok_cons], by rw [upd_same], ?_⟩
    rcases hrow.2 with ⟨hv, _⟩ | ⟨g, cap, cur, hv, _⟩
    · exact ⟨none, 0, 0, hv⟩
    · exact ⟨_, _, _, hv⟩)
  exact sub_freeze (c := c) (N := N) (T := (d, .row l) :: T) (O := (l, .rowd e 1 true (xs.map fun x => [.imm x])) :: O) (e := e) (by simp [ok_cons]) (Nat.one_pos) hL hT' hO' _ _ ⟨_, _, hput⟩
end
end Go.Proofs.Ytdecgkhdbfgldaa
