/- Plain proof kit of this session, seventh part: numbers, texts, lengths, fields. -/
import Derived.Test.YtdecgkhdbfgldaaSymF
import Derived.WideLaws
set_option linter.unusedVariables false
set_option linter.unusedSimpArgs false
namespace Go.Proofs.Ytdecgkhdbfgldaa
open Go

section
variable {P : Program} {c : Ctx} {N : Nat} {Q : Exit → St → Prop} {σ : St} {o : Oper}

def binI (op : BinOp) (k : IntKind) (a b : Int) : Option Value :=
  match op with
  | .add => some (.int k (k.wrap (a + b)))
  | .sub => some (.int k (k.wrap (a - b)))
  | .mul => some (.int k (k.wrap (a * b)))
  | .quo => if b = 0 then none else some (.int k (k.wrap (a.tdiv b)))
  | .rem => if b = 0 then none else some (.int k (a.tmod b))
  | .eql => some (.bool (a == b))
  | .neq => some (.bool (a != b))
  | .lss => some (.bool (decide (a < b)))
  | .leq => some (.bool (decide (a ≤ b)))
  | .gtr => some (.bool (decide (a > b)))
  | .geq => some (.bool (decide (a ≥ b)))
  | _ => none

theorem stp_binI {op : BinOp} {t t' : TypeId} {x y : Operand} {k : IntKind} {a b : Int} {r : Value} (ho : o.op = .binOp op t x y t') (hx : ev σ.T x = some (.imm (.int k a))) (hy : ev σ.T y = some (.imm (.int k b))) (hr : binI op k a b = some r) : Stp P c N o σ [] (.imm r) [] := by
  refine stp_value fun σ' h1 _ s w ρ S hc => ⟨r, ?_, by simp [Rep]⟩
  have hx' := ev_rep hc (h1 x (by simp [ho, Op.operands]) _ hx)
  have hy' := ev_rep hc (h1 y (by simp [ho, Op.operands]) _ hy)
  simp only [Rep] at hx' hy'
  simp only [execOp, ho, hx', hy']
  cases op <;> simp only [binI, Option.some.injEq, reduceCtorEq] at hr <;> first
    | exact hr.elim
    | (subst hr; simp [Sem.run_bind, eqGuard, binOp, Op.intArith, Op.intCmp]; done)
    | (split at hr <;> simp only [Option.some.injEq, reduceCtorEq] at hr; rename_i h0; subst hr; simp [Sem.run_bind, eqGuard, binOp, Op.intDiv, h0])

theorem wrap_in {n : Int} (h : -9223372036854775808 ≤ n ∧ n ≤ 9223372036854775807) : IntKind.i64.wrap n = n := by
  simp only [IntKind.wrap, IntKind.signed, IntKind.bits]
  by_cases h0 : 0 ≤ n
  · have : n % (2 ^ 64 : Int) = n := Int.emod_eq_of_lt h0 (by omega)
    simp only [this]
    split
    · rename_i h1; simp at h1; omega
    · rfl
  · have : n % (2 ^ 64 : Int) = n + 2 ^ 64 := by
      rw [← Int.add_emod_right]
      exact Int.emod_eq_of_lt (by omega) (by omega)
    simp only [this]
    split
    · omega
    · rename_i h1; simp at h1; omega

theorem stp_add {t t' : TypeId} {x y : Operand} {a b : Int} (ho : o.op = .binOp .add t x y t') (hx : ev σ.T x = some (.imm (.int .i64 a))) (hy : ev σ.T y = some (.imm (.int .i64 b))) (hb : -9223372036854775808 ≤ a + b ∧ a + b ≤ 9223372036854775807) : Stp P c N o σ [] (.imm (.int .i64 (a + b))) [] :=
  stp_binI ho hx hy (by simp only [binI, wrap_in hb])
theorem stp_sub {t t' : TypeId} {x y : Operand} {a b : Int} (ho : o.op = .binOp .sub t x y t') (hx : ev σ.T x = some (.imm (.int .i64 a))) (hy : ev σ.T y = some (.imm (.int .i64 b))) (hb : -9223372036854775808 ≤ a - b ∧ a - b ≤ 9223372036854775807) : Stp P c N o σ [] (.imm (.int .i64 (a - b))) [] :=
  stp_binI ho hx hy (by simp only [binI, wrap_in hb])
theorem stp_mul {t t' : TypeId} {x y : Operand} {a b : Int} (ho : o.op = .binOp .mul t x y t') (hx : ev σ.T x = some (.imm (.int .i64 a))) (hy : ev σ.T y = some (.imm (.int .i64 b))) (hb : -9223372036854775808 ≤ a * b ∧ a * b ≤ 9223372036854775807) : Stp P c N o σ [] (.imm (.int .i64 (a * b))) [] :=
  stp_binI ho hx hy (by simp only [binI, wrap_in hb])

def binS (op : BinOp) (a b : ByteArray) : Option Value :=
  match op with
  | .add => if a.size + b.size ≤ 9223372036854775807 then some (.string (a ++ b)) else none
  | .eql => some (.bool (a.toList == b.toList))
  | .neq => some (.bool !(a.toList == b.toList))
  | .lss => some (.bool (Op.bytesLess a.toList b.toList))
  | .leq => some (.bool (Op.bytesLess a.toList b.toList || a.toList == b.toList))
  | .gtr => some (.bool !(Op.bytesLess a.toList b.toList || a.toList == b.toList))
  | .geq => some (.bool !(Op.bytesLess a.toList b.toList))
  | _ => none

theorem stp_binS {op : BinOp} {t t' : TypeId} {x y : Operand} {a b : ByteArray} {r : Value} (ho : o.op = .binOp op t x y t') (hx : ev σ.T x = some (.imm (.string a))) (hy : ev σ.T y = some (.imm (.string b))) (hr : binS op a b = some r) : Stp P c N o σ [] (.imm r) [] := by
  refine stp_value fun σ' h1 _ s w ρ S hc => ⟨r, ?_, by simp [Rep]⟩
  have hx' := ev_rep hc (h1 x (by simp [ho, Op.operands]) _ hx)
  have hy' := ev_rep hc (h1 y (by simp [ho, Op.operands]) _ hy)
  simp only [Rep] at hx' hy'
  simp only [execOp, ho, hx', hy']
  cases op <;> simp only [binS, Option.some.injEq, reduceCtorEq] at hr <;> first
    | exact hr.elim
    | (subst hr; simp [Sem.run_bind, eqGuard, binOp, Op.stringOp]; done)
    | (split at hr <;> simp only [Option.some.injEq, reduceCtorEq] at hr; rename_i h0; subst hr; simp [Sem.run_bind, eqGuard, binOp, run_string_add_sum, h0])

theorem stp_eqB {t t' : TypeId} {x y : Operand} {a b : Bool} (ho : o.op = .binOp .eql t x y t') (ht : P.underlying t = some .bool) (hx : ev σ.T x = some (.imm (.bool a))) (hy : ev σ.T y = some (.imm (.bool b))) : Stp P c N o σ [] (.imm (.bool (a == b))) [] := by
  refine stp_value fun σ' h1 _ s w ρ S hc => ⟨_, ?_, by simp only [Rep]; rfl⟩
  have hx' := ev_rep hc (h1 x (by simp [ho, Op.operands]) _ hx)
  have hy' := ev_rep hc (h1 y (by simp [ho, Op.operands]) _ hy)
  simp only [Rep] at hx' hy'
  simp only [execOp, ho, hx', hy']
  simp [Sem.run_bind, eqGuard, run_eql_bool w t a b ht]
theorem stp_neB {t t' : TypeId} {x y : Operand} {a b : Bool} (ho : o.op = .binOp .neq t x y t') (ht : P.underlying t = some .bool) (hx : ev σ.T x = some (.imm (.bool a))) (hy : ev σ.T y = some (.imm (.bool b))) : Stp P c N o σ [] (.imm (.bool (!(a == b)))) [] := by
  refine stp_value fun σ' h1 _ s w ρ S hc => ⟨_, ?_, by simp only [Rep]; rfl⟩
  have hx' := ev_rep hc (h1 x (by simp [ho, Op.operands]) _ hx)
  have hy' := ev_rep hc (h1 y (by simp [ho, Op.operands]) _ hy)
  simp only [Rep] at hx' hy'
  simp only [execOp, ho, hx', hy']
  simp [Sem.run_bind, eqGuard, run_neq_bool w t a b ht]

theorem stp_not {t : TypeId} {x : Operand} {b : Bool} (ho : o.op = .unOp .not t x) (hx : ev σ.T x = some (.imm (.bool b))) : Stp P c N o σ [] (.imm (.bool !b)) [] := by
  refine stp_value fun σ' h1 _ s w ρ S hc => ⟨_, ?_, by simp only [Rep]; rfl⟩
  have hx' := ev_rep hc (h1 x (by simp [ho, Op.operands]) _ hx)
  simp only [Rep] at hx'
  simp only [execOp, ho, hx']
  simp [Sem.run_bind, Op.unary]
theorem stp_neg {t : TypeId} {x : Operand} {a : Int} (ho : o.op = .unOp .neg t x) (hx : ev σ.T x = some (.imm (.int .i64 a))) (hb : -9223372036854775808 ≤ -a ∧ -a ≤ 9223372036854775807) : Stp P c N o σ [] (.imm (.int .i64 (-a))) [] := by
  refine stp_value fun σ' h1 _ s w ρ S hc => ⟨_, ?_, by simp only [Rep]; rfl⟩
  have hx' := ev_rep hc (h1 x (by simp [ho, Op.operands]) _ hx)
  simp only [Rep] at hx'
  simp only [execOp, ho, hx']
  simp [Sem.run_bind, Op.unary, Op.intArith, wrap_in hb]

theorem stp_conv {s d : TypeId} {x : Operand} {q k : IntKind} {a : Int} (ho : o.op = .convert s d x) (hs : (P.underlying s).isSome = true) (hd : P.underlying d = some (.int k)) (hx : ev σ.T x = some (.imm (.int q a))) : Stp P c N o σ [] (.imm (.int k (k.wrap a))) [] := by
  refine stp_value fun σ' h1 _ st w ρ S hc => ⟨_, ?_, by simp only [Rep]; rfl⟩
  have hx' := ev_rep hc (h1 x (by simp [ho, Op.operands]) _ hx)
  simp only [Rep] at hx'
  obtain ⟨ds, hds⟩ := Option.isSome_iff_exists.1 hs
  simp only [execOp, ho, hx', convert]
  simp [Sem.run_bind, run_underlying hds w, run_underlying hd w, Conv.intToInt]

/-! ### Lengths -/
def lenCall (t : TypeId) (x : Operand) : Op := .call { callee := .builtin .len, args := #[x], argTypes := #[t] }

theorem stp_len_str {t : TypeId} {x : Operand} {s : ByteArray} (ho : o.op = .call { callee := .builtin .len, args := #[x], argTypes := #[t] }) (ht : P.underlying t = some .string) (hx : ev σ.T x = some (.imm (.string s))) : Stp P c N o σ [] (.imm (.int .i64 s.size)) [] := by
  refine stp_value fun σ' h1 _ st w ρ S hc => ⟨_, ?_, by simp only [Rep]; rfl⟩
  have hx' := ev_rep hc (h1 x (by simp [ho, Op.operands, Call.operands]) _ hx)
  simp only [Rep] at hx'
  simp only [execOp, ho, resolve]
  simp [Sem.run_bind, invoke, builtin, hx', Builtin.len_, run_underlying ht w, goInt]

theorem stp_len_dat {t : TypeId} {x : Operand} {f : Bool} {k : Nat} {es : List (List D)} {e : TypeId} (ho : o.op = .call { callee := .builtin .len, args := #[x], argTypes := #[t] }) (ht : slB P t e k = true) (hx : ev σ.T x = some (.dat f k es)) : Stp P c N o σ [] (.imm (.int .i64 es.length)) [] := by
  refine stp_value fun σ' h1 _ st w ρ S hc => ⟨_, ?_, by simp only [Rep]; rfl⟩
  have hx' := ev_rep hc (h1 x (by simp [ho, Op.operands, Call.operands]) _ hx)
  simp only [Rep, RepD] at hx'
  obtain ⟨A, n, cc, hxe, rfl, _⟩ := hx'
  obtain ⟨i, h2, _⟩ := sl_spec ht
  simp only [execOp, ho, resolve]
  simp [Sem.run_bind, invoke, builtin, hxe, Builtin.len_, run_underlying h2 w, goInt]

theorem stp_len_nil {t : TypeId} {x : Operand} {e : TypeId} {k : Nat} (ho : o.op = .call { callee := .builtin .len, args := #[x], argTypes := #[t] }) (ht : slB P t e k = true) (hx : ev σ.T x = some (.imm (.slice none 0 0))) : Stp P c N o σ [] (.imm (.int .i64 0)) [] := by
  refine stp_value fun σ' h1 _ st w ρ S hc => ⟨_, ?_, by simp only [Rep]; rfl⟩
  have hx' := ev_rep hc (h1 x (by simp [ho, Op.operands, Call.operands]) _ hx)
  simp only [Rep] at hx'
  obtain ⟨i, h2, _⟩ := sl_spec ht
  simp only [execOp, ho, resolve]
  simp [Sem.run_bind, invoke, builtin, hx', Builtin.len_, run_underlying h2 w, goInt]

theorem stp_len_rowd {t : TypeId} {x : Operand} {f : Bool} {k l : Nat} {es : List (List D)} {e : TypeId} (ho : o.op = .call { callee := .builtin .len, args := #[x], argTypes := #[t] }) (ht : slB P t e k = true) (hx : ev σ.T x = some (.row l)) (hl : ok σ.O l = some (.rowd e k f es)) : Stp P c N o σ [l] (.imm (.int .i64 es.length)) [] := by
  refine stp_value fun σ' h1 h2 st w ρ S hc => ⟨_, ?_, by simp only [Rep]; rfl⟩
  have hx' := ev_rep hc (h1 x (by simp [ho, Op.operands, Call.operands]) _ hx)
  simp only [Rep] at hx'
  obtain ⟨_, xs, how, _⟩ := hc.O l _ (h2 l (by simp) _ hl)
  obtain ⟨i, h3, _⟩ := sl_spec ht
  have hv : ∃ A cc, ρ l = .slice A es.length cc := by
    rcases how.2 with ⟨h, h'⟩ | ⟨g, cap, cur, h, _⟩
    · exact ⟨none, 0, by rw [h, h']⟩
    · exact ⟨_, _, h⟩
  obtain ⟨A, cc, hv⟩ := hv
  rw [hv] at hx'
  simp only [execOp, ho, resolve]
  simp [Sem.run_bind, invoke, builtin, hx'.2.1, Builtin.len_, run_underlying h3 w, goInt]

/-! ### Texts -/
def byteAt (s : ByteArray) (i : Int) : Int := ((s.data.toList.getD i.toNat 0).toNat : Int)

theorem byteAt_range (s : ByteArray) (i : Int) : 0 ≤ byteAt s i ∧ byteAt s i ≤ 255 := by
  unfold byteAt
  have := (s.data.toList.getD i.toNat 0).toNat_lt
  omega

theorem stp_index_str {t : TypeId} {x y : Operand} {s : ByteArray} {q : IntKind} {i : Int} (ho : o.op = .index t x y) (ht : P.underlying t = some .string) (hx : ev σ.T x = some (.imm (.string s))) (hy : ev σ.T y = some (.imm (.int q i))) (h0 : 0 ≤ i) (h1 : i < s.size) : Stp P c N o σ [] (.imm (.int .u8 (byteAt s i))) [] := by
  refine stp_value fun σ' h2 _ st w ρ S hc => ⟨_, ?_, by simp only [Rep]; rfl⟩
  have hx' := ev_rep hc (h2 x (by simp [ho, Op.operands]) _ hx)
  have hy' := ev_rep hc (h2 y (by simp [ho, Op.operands]) _ hy)
  simp only [Rep] at hx' hy'
  have hlt : i.toNat < s.size := by omega
  have hg : s[i.toNat]? = some (s[i.toNat]'hlt) := by simp [hlt]
  have hb : ((s[i.toNat]'hlt).toNat : Int) = byteAt s i := by
    unfold byteAt
    congr 1
    have h3 : i.toNat < s.data.size := hlt
    rw [List.getD_eq_getElem?_getD, List.getElem?_eq_getElem (by simpa using h3), Option.getD_some]
    rfl
  simp only [execOp, ho, hx', hy', Instr.index]
  simp [Sem.run_bind, asIntOf, run_underlying ht w, h0, hlt, hb]

theorem stp_slice_str {t : TypeId} {x : Operand} {lo hi : Option Operand} {s : ByteArray} {i j : Int} (ho : o.op = .slice t x lo hi none) (ht : P.underlying t = some .string) (hx : ev σ.T x = some (.imm (.string s)))
    (hlo : ∀ y, lo = some y → ev σ.T y = some (.imm (.int .i64 i))) (hlo' : lo = none → i = 0) (hhi : ∀ y, hi = some y → ev σ.T y = some (.imm (.int .i64 j))) (hhi' : hi = none → j = s.size) (h0 : 0 ≤ i) (h1 : i ≤ j) (h2 : j ≤ s.size) : Stp P c N o σ [] (.imm (.string (s.extract i.toNat j.toNat))) [] := by
  refine stp_value fun σ' h3 _ st w ρ S hc => ⟨_, ?_, by simp only [Rep]; rfl⟩
  have hx' := ev_rep hc (h3 x (by simp [ho, Op.operands]) _ hx)
  simp only [Rep] at hx'
  have hbl : ∀ (y : Operand), lo = some y → st.eval y = .int .i64 i := fun y hy => by
    have := ev_rep hc (h3 y (by simp [ho, Op.operands, hy]) _ (hlo y hy))
    simpa [Rep] using this
  have hbh : ∀ (y : Operand), hi = some y → st.eval y = .int .i64 j := fun y hy => by
    have := ev_rep hc (h3 y (by simp [ho, Op.operands, hy]) _ (hhi y hy))
    simpa [Rep] using this
  have hj' : j.toNat ≤ s.size := by omega
  have hi' : i.toNat ≤ j.toNat := by omega
  have hbn : ∀ (y : Nat) (n : Int) (code : BoundsCode) (w : World), 0 ≤ n → n ≤ y → (Instr.sliceBound (.int .i64 n) y code).run P w = .ok n.toNat w := fun y n code w h h' => run_sliceBound (P := P) w .i64 n y code h h'
  cases lo with
  | none =>
    have hi0 := hlo' rfl
    subst hi0
    cases hi with
    | none =>
      have hj0 := hhi' rfl
      subst hj0
      simp only [execOp, ho, hx', Instr.sliceAt, Option.map_none]
      simp [Sem.run_bind, run_underlying ht w, Instr.slice, Instr.sliceBounds]
    | some y =>
      simp only [execOp, ho, hx', Instr.sliceAt, Option.map_none, Option.map_some, hbh y rfl]
      simp [Sem.run_bind, run_underlying ht w, Instr.slice, Instr.sliceBounds, hbn s.size j _ w (by omega) h2]
  | some z =>
    cases hi with
    | none =>
      have hj0 := hhi' rfl
      subst hj0
      simp only [execOp, ho, hx', Instr.sliceAt, Option.map_none, Option.map_some, hbl z rfl]
      simp [Sem.run_bind, run_underlying ht w, Instr.slice, Instr.sliceBounds, hbn s.size i _ w h0 h1]
    | some y =>
      simp only [execOp, ho, hx', Instr.sliceAt, Option.map_none, Option.map_some, hbl z rfl, hbh y rfl]
      simp [Sem.run_bind, run_underlying ht w, Instr.slice, Instr.sliceBounds, hbn s.size j _ w (by omega) h2, hbn j.toNat i _ w h0 (by omega)]

/-! ### Greater, lesser -/
theorem stp_max {ts : Array TypeId} {x y : Operand} {a b : Int} (ho : o.op = .call { callee := .builtin .max, args := #[x, y], argTypes := ts }) (hx : ev σ.T x = some (.imm (.int .i64 a))) (hy : ev σ.T y = some (.imm (.int .i64 b))) : Stp P c N o σ [] (.imm (.int .i64 (if b > a then b else a))) [] := by
  refine stp_value fun σ' h1 _ st w ρ S hc => ⟨_, ?_, by simp only [Rep]; rfl⟩
  have hx' := ev_rep hc (h1 x (by simp [ho, Op.operands, Call.operands]) _ hx)
  have hy' := ev_rep hc (h1 y (by simp [ho, Op.operands, Call.operands]) _ hy)
  simp only [Rep] at hx' hy'
  simp only [execOp, ho, resolve]
  simp [Sem.run_bind, invoke, builtin, hx', hy', run_max_int2]
theorem stp_min {ts : Array TypeId} {x y : Operand} {a b : Int} (ho : o.op = .call { callee := .builtin .min, args := #[x, y], argTypes := ts }) (hx : ev σ.T x = some (.imm (.int .i64 a))) (hy : ev σ.T y = some (.imm (.int .i64 b))) : Stp P c N o σ [] (.imm (.int .i64 (if b < a then b else a))) [] := by
  refine stp_value fun σ' h1 _ st w ρ S hc => ⟨_, ?_, by simp only [Rep]; rfl⟩
  have hx' := ev_rep hc (h1 x (by simp [ho, Op.operands, Call.operands]) _ hx)
  have hy' := ev_rep hc (h1 y (by simp [ho, Op.operands, Call.operands]) _ hy)
  simp only [Rep] at hx' hy'
  simp only [execOp, ho, resolve]
  simp [Sem.run_bind, invoke, builtin, hx', hy', run_min_int2]

/-! ### Parts of slices that are read -/
theorem repEs_drop {w : World} {S : Nat → Prop} {b k : Nat} : ∀ (i : Nat) {off : Nat} {es : List (List D)}, RepEs w S b k off es → RepEs w S b k (off + i * k) (es.drop i)
  | 0, off, es, h => by simpa using h
  | i + 1, off, [], h => by simp [RepEs]
  | i + 1, off, e :: es, h => by
    simp only [RepEs] at h
    have := repEs_drop i h.2
    rw [show off + (i + 1) * k = off + k + i * k from by rw [Nat.add_mul]; omega]
    simpa using this
theorem repEs_take {w : World} {S : Nat → Prop} {b k : Nat} : ∀ (i : Nat) {off : Nat} {es : List (List D)}, RepEs w S b k off es → RepEs w S b k off (es.take i)
  | 0, off, es, h => by simp [RepEs]
  | i + 1, off, [], h => by simp [RepEs]
  | i + 1, off, e :: es, h => by
    simp only [RepEs] at h
    simp only [List.take_succ_cons, RepEs]
    exact ⟨h.1, repEs_take i h.2⟩

theorem stp_slice_dat {t e : TypeId} {k : Nat} {x : Operand} {lo hi : Option Operand} {f : Bool} {es : List (List D)} {i j : Int} (ho : o.op = .slice t x lo hi none) (ht : slB P t e k = true) (hx : ev σ.T x = some (.dat f k es))
    (hlo : ∀ y, lo = some y → ev σ.T y = some (.imm (.int .i64 i))) (hlo' : lo = none → i = 0) (hhi : ∀ y, hi = some y → ev σ.T y = some (.imm (.int .i64 j))) (hhi' : hi = none → j = es.length) (h0 : 0 ≤ i) (h1 : i ≤ j) (h2 : j ≤ es.length) : Stp P c N o σ [] (.dat f k ((es.take j.toNat).drop i.toNat)) [] := by
  refine stp_value fun σ' h3 _ st w ρ S hc => ?_
  have hx' := ev_rep hc (h3 x (by simp [ho, Op.operands]) _ hx)
  simp only [Rep, RepD] at hx'
  obtain ⟨A, n, cap, hxe, rfl, hcap, hmax, hr⟩ := hx'
  have hbl : ∀ (y : Operand), lo = some y → st.eval y = .int .i64 i := fun y hy => by
    have := ev_rep hc (h3 y (by simp [ho, Op.operands, hy]) _ (hlo y hy))
    simpa [Rep] using this
  have hbh : ∀ (y : Operand), hi = some y → st.eval y = .int .i64 j := fun y hy => by
    have := ev_rep hc (h3 y (by simp [ho, Op.operands, hy]) _ (hhi y hy))
    simpa [Rep] using this
  obtain ⟨it, h4, h5, h6⟩ := sl_spec ht
  have hb : ∀ (y : Nat) (n : Int) (code : BoundsCode) (w : World), 0 ≤ n → n ≤ y → (Instr.sliceBound (.int .i64 n) y code).run P w = .ok n.toNat w := fun y n code w h h' => run_sliceBound (P := P) w .i64 n y code h h'
  have hbnd : (Instr.sliceBounds true es.length cap (lo.map st.eval) (hi.map st.eval) none).run P w = .ok (i.toNat, j.toNat, cap) w := by
    cases lo with
    | none =>
      have hi0 := hlo' rfl
      subst hi0
      cases hi with
      | none => have := hhi' rfl; subst this; simp [Instr.sliceBounds]
      | some y => simp [Instr.sliceBounds, Sem.run_bind, hbh y rfl, hb cap j _ w (by omega) (by omega)]
    | some z =>
      cases hi with
      | none => have := hhi' rfl; subst this; simp [Instr.sliceBounds, Sem.run_bind, hbl z rfl, hb es.length i _ w h0 h1]
      | some y => simp [Instr.sliceBounds, Sem.run_bind, hbh y rfl, hbl z rfl, hb cap j _ w (by omega) (by omega), hb j.toNat i _ w h0 (by omega)]
  refine ⟨.slice (if cap = i.toNat then A else A.map (·.add (i.toNat * k))) (j.toNat - i.toNat) (cap - i.toNat), ?_, ?_⟩
  · simp only [execOp, ho, hxe, Instr.sliceAt, Option.map_none]
    simp [Sem.run_bind, run_underlying h4 w, Instr.slice, hbnd, sizeOf, run_typeInfo w h5, h6]
  · simp only [Rep, RepD]
    refine ⟨_, _, _, rfl, by simp; omega, by omega, by omega, ?_⟩
    by_cases hz : j.toNat - i.toNat = 0
    · exact .inl hz
    · rcases hr with hr | ⟨b, off, rfl, hS, hr⟩
      · omega
      · right
        rw [if_neg (by omega)]
        refine ⟨b, off + i.toNat * k, by simp [add_plain], hS, ?_⟩
        exact repEs_drop i.toNat (repEs_take j.toNat hr)

/-! ### Facts out of a state -/
theorem dat_len {a : Act} {w : World} {ρ : Nat → Value} {S : Bool → Nat → Prop} (hc : Conc c N σ a w ρ S) {t : Nat} {f : Bool} {k : Nat} {es : List (List D)} (h : lk σ.T t = some (.dat f k es)) : es.length ≤ 9223372036854775807 := by
  have := hc.T t _ h
  simp only [Rep, RepD] at this
  obtain ⟨A, n, cap, _, rfl, h1, h2, _⟩ := this
  simp only [maxLen] at h2
  omega
theorem awp_len {x : Code} {t : Nat} {f : Bool} {k : Nat} {es : List (List D)} (h : lk σ.T t = some (.dat f k es)) (K : es.length ≤ 9223372036854775807 → awp P c N x Q σ) : awp P c N x Q σ :=
  fun a w hc => K (by obtain ⟨ρ, S, hc⟩ := hc; exact dat_len hc h) a w hc
theorem awps_len {ops : Array Oper} {rest : List Oper} {t : Nat} {f : Bool} {k : Nat} {es : List (List D)} (h : lk σ.T t = some (.dat f k es)) (K : es.length ≤ 9223372036854775807 → awps P c N ops rest Q σ) : awps P c N ops rest Q σ :=
  fun a w hc => K (by obtain ⟨ρ, S, hc⟩ := hc; exact dat_len hc h) a w hc

/-- Field i of struct type s: where it begins, and its type. -/
def ftB (P : Program) (s : TypeId) (i k : Nat) (ft : TypeId) : Bool :=
  match P.underlying s with
  | some (.struct fs) => match fs[i]? with
    | some f => (f.offset == k) && (f.type == ft)
    | none => false
  | _ => false

theorem stp_field {x : Operand} {s ft : TypeId} {i k n : Nat} {b : Bool} {cs : List AV} {v : AV} (ho : o.op = .field s x i) (hf : ftB P s i k ft = true) (ht : tfB P ft b n = true) (hx : ev σ.T x = some (.agg cs)) (hn : k + n ≤ cs.length) (h0 : 0 < n) (hv : mkA b n ((cs.drop k).take n) = some v) : Stp P c N o σ [] v [] := by
  refine stp_value fun σ' h1 h2 a w ρ S hc => ?_
  have h := ev_rep hc (h1 x (by simp [ho, Op.operands]) _ hx)
  simp only [Rep] at h
  obtain ⟨xs, hx', hone, hr⟩ := h
  have hlen := hr.length
  refine ⟨mkV b ((xs.drop k).take n), ?_, rep_mkA hv (fun y hy => hone y (List.mem_of_mem_drop (List.mem_of_mem_take hy))) ((hr.drop k).take n)⟩
  unfold ftB at hf
  split at hf
  · rename_i fs hfs
    split at hf
    · rename_i fd hfd
      simp only [Bool.and_eq_true, beq_iff_eq] at hf
      obtain ⟨rfl, rfl⟩ := hf
      obtain ⟨d, j, h3, h4, h5, h6, h7⟩ := tf_spec ht
      simp only [execOp, ho, hx', Instr.field]
      simp only [Sem.run_bind, run_underlying hfs w, Result.andThen_ok, hfd, asAgg, Sem.run_pure, part, isAgg_run h3, h5]
      cases b with
      | true =>
        simp [Sem.run_bind, sizeOf, run_typeInfo w h4, h6, mkV, List.extract_eq_take_drop]
      | false =>
        have hn1 : n = 1 := by simpa using h7
        subst hn1
        have hlt : fd.offset < xs.length := by omega
        have hh : (List.take 1 (List.drop fd.offset xs)).headD undef = xs[fd.offset] := by
          rw [List.drop_eq_getElem_cons hlt]; rfl
        simp only [mkV, hh, List.size_toArray]
        simp [hlt]
    · simp at hf
  · simp at hf

end
end Go.Proofs.Ytdecgkhdbfgldaa
