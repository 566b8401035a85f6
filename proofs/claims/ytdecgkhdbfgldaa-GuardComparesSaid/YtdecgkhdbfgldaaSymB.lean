/- Plain proof kit of this session, second part: rules for code, from a symbolic state on. -/
import Derived.Test.YtdecgkhdbfgldaaSymA
import Derived.LoopN
set_option linter.unusedVariables false
set_option linter.unusedSimpArgs false
namespace Go.Proofs.Ytdecgkhdbfgldaa
open Go

theorem Nat.beq_self_eq_true' (n : Nat) : Nat.beq n n = true := by simp

def wQ (c : Ctx) (N : Nat) (Q : Exit → St → Prop) : Exit → Act → World → Prop := fun e a w => ∃ σ, C c N σ a w ∧ Q e σ

def awp (P : Program) (c : Ctx) (N : Nat) (x : Code) (Q : Exit → St → Prop) (σ : St) : Prop := ∀ a w, C c N σ a w → x.wp P (wQ c N Q) a w
def awps (P : Program) (c : Ctx) (N : Nat) (ops : Array Oper) (rest : List Oper) (Q : Exit → St → Prop) (σ : St) : Prop := ∀ a w, C c N σ a w → wpList P ops (wQ c N Q) rest a w
def AOp (P : Program) (c : Ctx) (N : Nat) (o : Oper) (σ : St) (Φ : St → Prop) : Prop := ∀ a w, C c N σ a w → o.wp P a w (fun a' w' => ∃ σ', C c N σ' a' w' ∧ Φ σ') (fun _ _ _ => False)

def thenQ (K : St → Prop) (Q : Exit → St → Prop) : Exit → St → Prop
  | .normal, σ => K σ
  | e, σ => Q e σ
def inQ (id : Nat) (Q : Exit → St → Prop) : Exit → St → Prop
  | .exit id', σ => bif Nat.beq id' id then Q .normal σ else Q (.exit id') σ
  | e, σ => Q e σ

section
variable {P : Program} {c : Ctx} {N : Nat} {Q : Exit → St → Prop} {σ : St}

theorem awp_mono {x : Code} {Q' : Exit → St → Prop} (hq : ∀ e σ, Q e σ → Q' e σ) (h : awp P c N x Q σ) : awp P c N x Q' σ :=
  fun a w hc => wp_mono (h a w hc) fun e a w ⟨σ, hσ, hQ⟩ => ⟨σ, hσ, hq e σ hQ⟩

theorem awp_sub {x : Code} {σ' : St} (hs : ∀ a w, C c N σ a w → C c N σ' a w) (h : awp P c N x Q σ') : awp P c N x Q σ :=
  fun a w hc => h a w (hs a w hc)
theorem awps_sub {ops : Array Oper} {rest : List Oper} {σ' : St} (hs : ∀ a w, C c N σ a w → C c N σ' a w) (h : awps P c N ops rest Q σ') : awps P c N ops rest Q σ :=
  fun a w hc => h a w (hs a w hc)

theorem awp_skip (h : Q .normal σ) : awp P c N .skip Q σ := fun _ _ hc => wp_skip ⟨σ, hc, h⟩
theorem awp_ret (h : Q .ret σ) : awp P c N .ret Q σ := fun _ _ hc => wp_ret ⟨σ, hc, h⟩
theorem awp_exit {id : Nat} (h : Q (.exit id) σ) : awp P c N (.exit id) Q σ := fun _ _ hc => wp_exit ⟨σ, hc, h⟩
theorem awp_label {l : Nat} (h : Q .normal σ) : awp P c N (.label l) Q σ := fun _ _ hc => wp_label ⟨σ, hc, h⟩

theorem awp_seq {x y : Code} (h : awp P c N x (thenQ (awp P c N y Q) Q) σ) : awp P c N (.seq x y) Q σ :=
  fun a w hc => wp_seq (wp_mono (h a w hc) fun e a' w' ⟨σ', hσ, hQ⟩ => by
    cases e with
    | normal => exact hQ a' w' hσ
    | exit id => exact ⟨σ', hσ, hQ⟩
    | goto l => exact ⟨σ', hσ, hQ⟩
    | ret => exact ⟨σ', hσ, hQ⟩
    | panic ch => exact ⟨σ', hσ, hQ⟩
    | outgrown => exact ⟨σ', hσ, hQ⟩)

theorem awp_block {id : Nat} {x : Code} (h : awp P c N x (inQ id Q) σ) : awp P c N (.block id x) Q σ :=
  fun a w hc => wp_block (wp_mono (h a w hc) fun e a' w' ⟨σ', hσ, hQ⟩ => by
    cases e with
    | normal => exact ⟨σ', hσ, hQ⟩
    | exit id' =>
      simp only [inQ] at hQ
      simp only [Exit.inBlock]
      by_cases he : id' = id
      · rw [if_pos he]; subst he
        simp only [Nat.beq_self_eq_true', cond_true] at hQ
        exact ⟨σ', hσ, hQ⟩
      · rw [if_neg he]
        have hb : Nat.beq id' id = false := by
          cases hb : Nat.beq id' id with
          | false => rfl
          | true => exact absurd (Nat.eq_of_beq_eq_true hb) he
        simp only [hb, cond_false] at hQ
        exact ⟨σ', hσ, hQ⟩
    | goto l => exact ⟨σ', hσ, hQ⟩
    | ret => exact ⟨σ', hσ, hQ⟩
    | panic ch => exact ⟨σ', hσ, hQ⟩
    | outgrown => exact ⟨σ', hσ, hQ⟩)

def ev (T : List (Nat × AV)) : Operand → Option AV
  | .tmp t => lk T t
  | .const v => some (.imm v)
  | .func f => some (.fn f [])
  | .global _ => none

theorem ev_rep {a : Act} {w : World} {ρ : Nat → Value} {S : Bool → Nat → Prop} (h : Conc c N σ a w ρ S) {x : Operand} {v : AV} (hx : ev σ.T x = some v) : Rep w ρ S σ.U v (a.eval x) := by
  cases x with
  | tmp t => exact h.T t v hx
  | const k => simp only [ev, Option.some.injEq] at hx; subst hx; simp [Rep, Act.eval]
  | func f => simp only [ev, Option.some.injEq] at hx; subst hx; simp [Rep, RepL, Act.eval]
  | global g => simp [ev] at hx

theorem awp_cond {x : Operand} {y z : Code} {b : Bool} (hx : ev σ.T x = some (.imm (.bool b))) (ht : b = true → awp P c N y Q σ) (hf : b = false → awp P c N z Q σ) : awp P c N (.cond x y z) Q σ := by
  rintro a w ⟨ρ, S, hc⟩
  have h := ev_rep hc hx
  simp only [Rep] at h
  exact wp_cond_split h (fun hb => ht hb a w ⟨ρ, S, hc⟩) (fun hb => hf hb a w ⟨ρ, S, hc⟩)

theorem awp_condT {x : Operand} {y z : Code} (hx : ev σ.T x = some (.imm (.bool true))) (h : awp P c N y Q σ) : awp P c N (.cond x y z) Q σ := awp_cond hx (fun _ => h) (fun h => by cases h)
theorem awp_condF {x : Operand} {y z : Code} (hx : ev σ.T x = some (.imm (.bool false))) (h : awp P c N z Q σ) : awp P c N (.cond x y z) Q σ := awp_cond hx (fun h => by cases h) (fun _ => h)

theorem awp_loop (I : Nat → St → Prop) {x : Code} (n : Nat) (h0 : I n σ) (hr : ∀ n σ, I n σ → awp P c N x (thenQ (fun σ' => ∃ m, m < n ∧ I m σ') Q) σ) : awp P c N (.loop x) Q σ := by
  intro a w hc
  refine wp_loop_rounds (n + 1) ?_
  have key : ∀ n m σ a w, m ≤ n → I m σ → C c N σ a w → Code.rounds P x (wQ c N Q) (n + 1) a w := by
    intro n
    induction n with
    | zero =>
      intro m σ a w hm hI hc
      refine wp_mono (hr m σ hI a w hc) fun e a' w' ⟨σ', hσ, hQ⟩ => ?_
      cases e with
      | normal => obtain ⟨k, hk, _⟩ := hQ; omega
      | exit id => exact ⟨σ', hσ, hQ⟩
      | goto l => exact ⟨σ', hσ, hQ⟩
      | ret => exact ⟨σ', hσ, hQ⟩
      | panic ch => exact ⟨σ', hσ, hQ⟩
      | outgrown => exact ⟨σ', hσ, hQ⟩
    | succ n ih =>
      intro m σ a w hm hI hc
      refine wp_mono (hr m σ hI a w hc) fun e a' w' ⟨σ', hσ, hQ⟩ => ?_
      cases e with
      | normal => obtain ⟨k, hk, hI'⟩ := hQ; exact ih k σ' a' w' (by omega) hI' hσ
      | exit id => exact ⟨σ', hσ, hQ⟩
      | goto l => exact ⟨σ', hσ, hQ⟩
      | ret => exact ⟨σ', hσ, hQ⟩
      | panic ch => exact ⟨σ', hσ, hQ⟩
      | outgrown => exact ⟨σ', hσ, hQ⟩
  exact key n n σ a w (Nat.le_refl _) h0 hc

def Sub (c : Ctx) (N : Nat) (σ σ' : St) : Prop := ∀ a w, C c N σ a w → C c N σ' a w

/-- A loop that goes round n times, its states told by a function of the round. -/
theorem awp_for {x : Code} (n : Nat) (F : Nat → St) (h0 : Sub c N σ (F 0)) (hr : ∀ k, k < n → awp P c N x (thenQ (fun σ' => Sub c N σ' (F (k + 1))) Q) (F k))
    (hend : awp P c N x (thenQ (fun _ => False) Q) (F n)) : awp P c N (.loop x) Q σ := by
  refine awp_loop (fun m σ' => ∃ k, k ≤ n ∧ m = n - k ∧ Sub c N σ' (F k)) n ⟨0, Nat.zero_le _, rfl, h0⟩ ?_
  rintro m σ' ⟨k, hk, rfl, hs⟩
  refine awp_sub hs ?_
  by_cases hlt : k < n
  · refine awp_mono ?_ (hr k hlt)
    intro e σ2 hQ
    cases e with
    | normal => exact ⟨n - (k + 1), by omega, k + 1, by omega, rfl, hQ⟩
    | exit id => exact hQ
    | goto l => exact hQ
    | ret => exact hQ
    | panic ch => exact hQ
    | outgrown => exact hQ
  · obtain rfl : k = n := by omega
    refine awp_mono ?_ hend
    intro e σ2 hQ
    cases e with
    | normal => exact hQ.elim
    | exit id => exact hQ
    | goto l => exact hQ
    | ret => exact hQ
    | panic ch => exact hQ
    | outgrown => exact hQ

/-- A loop of at most n rounds, its states told by a function of the round, and what holds of them. -/
theorem awp_while {x : Code} (n : Nat) (p : Nat → Prop) (F : Nat → St) (hp : p 0) (h0 : Sub c N σ (F 0)) (hr : ∀ k, k ≤ n → p k → awp P c N x (thenQ (fun σ' => k < n ∧ p (k + 1) ∧ Sub c N σ' (F (k + 1))) Q) (F k)) : awp P c N (.loop x) Q σ := by
  refine awp_loop (fun m σ' => ∃ k, k ≤ n ∧ p k ∧ m = n - k ∧ Sub c N σ' (F k)) n ⟨0, Nat.zero_le _, hp, rfl, h0⟩ ?_
  rintro m σ' ⟨k, hk, hpk, rfl, hs⟩
  refine awp_sub hs (awp_mono ?_ (hr k hk hpk))
  intro e σ2 hQ
  cases e with
  | normal => exact ⟨n - (k + 1), by have := hQ.1; omega, k + 1, by have := hQ.1; omega, hQ.2.1, rfl, hQ.2.2⟩
  | exit id => exact hQ
  | goto l => exact hQ
  | ret => exact hQ
  | panic ch => exact hQ
  | outgrown => exact hQ

/-! ### Regions in the order of the text -/
theorem awp_region {id : Nat} {l : List Oper} (h : awps P c N l.toArray l Q σ) : awp P c N (.region id l.toArray false) Q σ :=
  fun a w hc => wp_region_lit (h a w hc)

theorem awps_nil {ops : Array Oper} (h : Q .normal σ) : awps P c N ops [] Q σ := fun _ _ hc => wpList_nil ⟨σ, hc, h⟩

theorem Oper.wp_weaken {o : Oper} {a : Act} {w : World} {K K' : Act → World → Prop} {Q' : Exit → Act → World → Prop} (h : ∀ a w, K a w → K' a w)
    (hh : o.wp P a w K (fun _ _ _ => False)) : o.wp P a w K' Q' := by
  unfold Oper.wp at *
  generalize (execOp a.eval o).run P w = r at *
  cases r with
  | ok n w' =>
    cases n <;> simp only [Oper.upon] at hh ⊢ <;>
      first
        | exact h _ _ hh
        | exact Calls.mono hh (fun e w'' he => by cases e <;> first | exact h _ _ he | exact he.elim | (obtain ⟨_, _, hf⟩ := he; exact hf.elim))
        | exact Rows.mono hh (fun _ _ he => h _ _ he)
        | exact hh.elim
  | halt x w' => cases x <;> simp only [Oper.upon] at hh ⊢

theorem awps_op {ops : Array Oper} {o : Oper} {rest : List Oper} (hg : o.guard = none) (h : AOp P c N o σ (fun σ' => awps P c N ops rest Q σ')) : awps P c N ops (o :: rest) Q σ :=
  fun a w hc => wpList_plain hg fun _ hK => Oper.wp_weaken (fun a' w' ⟨σ', hσ, hR⟩ => hK a' w' (hR a' w' hσ)) (h a w hc)

def St.put (σ : St) (dst : Option Nat) (v : AV) : St :=
  match dst with
  | some d => ⟨(d, v) :: σ.T, σ.O⟩
  | none => σ
def St.add (σ : St) (dst : Option Nat) (v : AV) (new : List (Nat × Ob)) : St :=
  match dst with
  | some d => ⟨(d, v) :: σ.T, new ++ σ.O⟩
  | none => ⟨σ.T, new ++ σ.O⟩

theorem Nat.beq_eq_false {s t : Nat} (h : ¬ s = t) : Nat.beq s t = false := by
  cases hb : Nat.beq s t with
  | false => rfl
  | true => exact absurd (Nat.eq_of_beq_eq_true hb) h
theorem lk_cons (s t : Nat) (v : AV) (T : List (Nat × AV)) : lk ((s, v) :: T) t = if s = t then some v else lk T t := by
  simp only [lk]
  by_cases h : s = t
  · subst h; simp
  · have : Nat.beq s t = false := Nat.beq_eq_false h
    rw [this, if_neg h]; rfl
theorem ok_cons (s t : Nat) (v : Ob) (T : List (Nat × Ob)) : ok ((s, v) :: T) t = if s = t then some v else ok T t := by
  simp only [ok]
  by_cases h : s = t
  · subst h; simp
  · have : Nat.beq s t = false := Nat.beq_eq_false h
    rw [this, if_neg h]; rfl

theorem getD_put (a : Act) (d t : Nat) (x : Value) (hd : d < a.tmps.size) : (a.put (some d) x).tmps.getD t undef = if d = t then x else a.tmps.getD t undef := by
  simp only [Act.put]
  by_cases h : d = t
  · subst h
    simp [Array.getD_eq_getD_getElem?, hd]
  · simp [Array.getD_eq_getD_getElem?, Array.getElem?_setIfInBounds, h]

theorem Conc.put {a : Act} {w : World} {ρ : Nat → Value} {S : Bool → Nat → Prop} (h : Conc c N σ a w ρ S) {dst : Option Nat} {v : AV} {x : Value} (hd : ∀ d, dst = some d → d < N) (hv : Rep w ρ S σ.U v x) : Conc c N (σ.put dst v) (a.put dst x) w ρ S := by
  cases dst with
  | none => exact h
  | some d =>
    have hdN : d < a.tmps.size := by rw [h.tm]; exact hd d rfl
    refine { h with tm := ?_, df := h.df, T := ?_ }
    · simp [Act.put, h.tm]
    · intro t u ht
      simp only [St.put, lk_cons] at ht
      rw [getD_put a d t x hdN]
      split at ht
      · rename_i he; rw [if_pos he]; simp only [Option.some.injEq] at ht; subst ht; exact hv
      · rename_i he; rw [if_neg he]; exact h.T t u ht

theorem awps_skip {ops : Array Oper} {o : Oper} {rest : List Oper} {j t : Nat} {b b' : Bool} (hg : o.guard = some (j, b)) (hj : (ops[j]?).bind (·.dst) = some t) (ht : lk σ.T t = some (.imm (.bool b'))) (hb : b' ≠ b) (hd : ∀ d, o.dst = some d → d < N) (htN : t < N)
    (h : awps P c N ops rest Q (σ.put o.dst (.imm undef))) : awps P c N ops (o :: rest) Q σ := by
  rintro a w ⟨ρ, S, hc⟩
  have h1 := hc.T t _ ht
  simp only [Rep] at h1
  have h2 : a.tmps[t]? = some (.bool b') := by
    have hlt : t < a.tmps.size := by rw [hc.tm]; exact htN
    rw [Array.getD_eq_getD_getElem?] at h1
    rw [Array.getElem?_eq_getElem hlt] at h1 ⊢
    simpa using h1
  have hy : yielded ops a.tmps j = some b' := by
    simp [yielded, hj, h2]
  unfold wpList
  rw [if_neg]
  · exact h _ _ ⟨ρ, S, hc.put hd (by simp [Rep])⟩
  · simp only [Region.wanted, hg, hy]
    simpa using hb

/-- The guard itself was passed over. -/
theorem awps_skipu {ops : Array Oper} {o : Oper} {rest : List Oper} {j t : Nat} {b : Bool} (hg : o.guard = some (j, b)) (hj : (ops[j]?).bind (·.dst) = some t) (ht : lk σ.T t = some (.imm undef)) (hd : ∀ d, o.dst = some d → d < N) (htN : t < N)
    (h : awps P c N ops rest Q (σ.put o.dst (.imm undef))) : awps P c N ops (o :: rest) Q σ := by
  rintro a w ⟨ρ, S, hc⟩
  have h1 := hc.T t _ ht
  simp only [Rep] at h1
  have h2 : a.tmps[t]? = some undef := by
    have hlt : t < a.tmps.size := by rw [hc.tm]; exact htN
    rw [Array.getD_eq_getD_getElem?] at h1
    rw [Array.getElem?_eq_getElem hlt] at h1 ⊢
    simpa using h1
  have hy : yielded ops a.tmps j = none := by
    simp [yielded, hj, h2, undef]
  unfold wpList
  rw [if_neg]
  · exact h _ _ ⟨ρ, S, hc.put hd (by simp [Rep])⟩
  · simp only [Region.wanted, hg, hy]
    simp

theorem awps_want {ops : Array Oper} {o : Oper} {rest : List Oper} {j t : Nat} {b : Bool} (hg : o.guard = some (j, b)) (hj : (ops[j]?).bind (·.dst) = some t) (ht : lk σ.T t = some (.imm (.bool b))) (htN : t < N)
    (h : AOp P c N o σ (fun σ' => awps P c N ops rest Q σ')) : awps P c N ops (o :: rest) Q σ := by
  rintro a w ⟨ρ, S, hc⟩
  have h1 := hc.T t _ ht
  simp only [Rep] at h1
  have h2 : a.tmps[t]? = some (.bool b) := by
    have hlt : t < a.tmps.size := by rw [hc.tm]; exact htN
    rw [Array.getD_eq_getD_getElem?] at h1
    rw [Array.getElem?_eq_getElem hlt] at h1 ⊢
    simpa using h1
  have hy : yielded ops a.tmps j = some b := by
    simp [yielded, hj, h2]
  unfold wpList
  rw [if_pos]
  · exact .inl (Oper.wp_weaken (fun a' w' ⟨σ', hσ, hR⟩ => hR a' w' hσ) (h a w ⟨ρ, S, hc⟩))
  · simp [Region.wanted, hg, hy]

end
end Go.Proofs.Ytdecgkhdbfgldaa
