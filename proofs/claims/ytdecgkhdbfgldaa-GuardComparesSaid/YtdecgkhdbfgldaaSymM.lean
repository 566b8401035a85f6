/- Plain proof kit of this session, thirteenth part: small helpers of the printed steps. -/
import Derived.Test.YtdecgkhdbfgldaaSymL
import Derived.Laws.Strings
set_option linter.unusedVariables false
set_option linter.unusedSimpArgs false
namespace Go.Proofs.Ytdecgkhdbfgldaa
open Go

theorem toList_inj {a b : ByteArray} : a.toList = b.toList ↔ a = b := by
  constructor
  · intro h
    cases a with | mk a => cases b with | mk b =>
    simp only [Go.ByteArray.toList_eq] at h
    congr 1
    exact Array.toList_inj.1 h
  · rintro rfl; rfl
theorem str_beq_t {a b : ByteArray} : ((a.toList == b.toList) = true) ↔ a = b := by rw [beq_iff_eq, toList_inj]
theorem str_beq_f {a b : ByteArray} : ((a.toList == b.toList) = false) ↔ ¬ a = b := by rw [beq_eq_false_iff_ne, ne_eq, toList_inj]
theorem size_zero {s : ByteArray} : s.size = 0 ↔ s = ⟨#[]⟩ := by
  cases s with | mk s =>
  simp only [ByteArray.size]
  constructor
  · intro h; congr 1; exact Array.eq_empty_of_size_eq_zero h
  · rintro ⟨⟩; rfl
section
variable {P : Program} {c : Ctx} {N : Nat} {Q : Exit → St → Prop} {σ : St} {o : Oper}
theorem hdS {d : Nat} (h : o.dst = some d) (k : d < N) : ∀ e, o.dst = some e → e < N := fun e he => by rw [h] at he; cases he; exact k
theorem hdN (h : o.dst = none) : ∀ e, o.dst = some e → e < N := fun e he => by rw [h] at he; cases he
def newB (O : List (Nat × Ob)) (ms : List MS) : Bool := ms.all fun m => m.new.all fun p => m.old.contains p.1 || (ok O p.1).isNone
theorem newB_spec {O : List (Nat × Ob)} {ms : List MS} (h : newB O ms = true) : ∀ m ∈ ms, ∀ p ∈ m.new, p.1 ∉ m.old → ok O p.1 = none := fun m hm p hp ho => by
  have := List.all_eq_true.1 (List.all_eq_true.1 h m hm) p hp
  simp only [Bool.or_eq_true, List.contains_iff_mem] at this
  rcases this with h | h
  · exact absurd h ho
  · simpa using h
/-- The first n operations in the order of the text. -/
inductive MRunN (P : Program) (c : Ctx) (N : Nat) (ops : Array Oper) : Nat → List Oper → St → List MS → St → Prop where
  | nil {l : List Oper} {σ : St} : MRunN P c N ops 0 l σ [] σ
  | cons {n : Nat} {o : Oper} {os : List Oper} {σ σ' : St} {m : MS} {ms : List MS} (hd : ∀ d, o.dst = some d → d < N) (h : MStep P c N ops o σ m) (r : MRunN P c N ops n os (σ.add o.dst m.v m.new) ms σ') : MRunN P c N ops (n + 1) (o :: os) σ (m :: ms) σ'
theorem MRunN.run {ops : Array Oper} : ∀ {n : Nat} {l : List Oper} {σ σ' : St} {ms : List MS}, MRunN P c N ops n l σ ms σ' → MRun P c N ops (l.take n) σ ms σ'
  | _, _, _, _, _, .nil => by simpa using MRun.nil
  | _, _, _, _, _, .cons hd h r => by rw [List.take_succ_cons]; exact MRun.cons hd h r.run
theorem awp_drawB (n : Nat) {id : Nat} {l : List Oper} {ms : List MS} {σ' : St} (hm : P.follows .mixedOrders = true) (hn : Nat.ble n l.length = true) (hC : chkO l.toArray n = true) (hE : chkE l.toArray = true) (hS : chkS l.toArray n = true)
    (hr : MRunN P c N l.toArray n l σ ms σ') (hN : chkN l.toArray ms = true) (hnew : newB σ.O ms = true) (K : awps P c N l.toArray (l.drop n) Q σ') : awp P c N (.region id l.toArray true) Q σ :=
  awp_drawn n hm hn hC hE hS hr.run hN (newB_spec hnew) K
def MGo (P : Program) (c : Ctx) (N : Nat) (ops : Array Oper) (n : Nat) (l : List Oper) (σ : St) (Φ : List MS → St → Prop) : Prop := ∃ ms σ', MRunN P c N ops n l σ ms σ' ∧ Φ ms σ'
theorem MGo_nil {ops : Array Oper} {l : List Oper} {Φ : List MS → St → Prop} (h : Φ [] σ) : MGo P c N ops 0 l σ Φ := ⟨_, _, .nil, h⟩
theorem MGo_c0 {ops : Array Oper} {n d : Nat} {os : List Oper} {Φ : List MS → St → Prop} {T : List (Nat × AV)} {O : List (Nat × Ob)} {need : List Nat} {v : AV} (hd : o.dst = some d) (hN : d < N) (h : MStep P c N ops o ⟨T, O⟩ ⟨need, v, [], []⟩)
    (K : MGo P c N ops n os ⟨(d, v) :: T, O⟩ (fun ms σ' => Φ (⟨need, v, [], []⟩ :: ms) σ')) : MGo P c N ops (n + 1) (o :: os) ⟨T, O⟩ Φ := by
  obtain ⟨ms, σ', hr, hΦ⟩ := K
  exact ⟨_, _, .cons (hdS hd hN) h (by simpa [St.add, hd] using hr), hΦ⟩
theorem MGo_c1 {ops : Array Oper} {n d l : Nat} {os : List Oper} {Φ : List MS → St → Prop} {T : List (Nat × AV)} {O : List (Nat × Ob)} {need : List Nat} {v : AV} {ob : Ob} (hd : o.dst = some d) (hN : d < N) (h : MStep P c N ops o ⟨T, O⟩ ⟨need, v, [(l, ob)], []⟩)
    (K : MGo P c N ops n os ⟨(d, v) :: T, (l, ob) :: O⟩ (fun ms σ' => Φ (⟨need, v, [(l, ob)], []⟩ :: ms) σ')) : MGo P c N ops (n + 1) (o :: os) ⟨T, O⟩ Φ := by
  obtain ⟨ms, σ', hr, hΦ⟩ := K
  exact ⟨_, _, .cons (hdS hd hN) h (by simpa [St.add, hd] using hr), hΦ⟩
theorem stpU_store {x y : Operand} {t : TypeId} {b : Bool} {k l off : Nat} {ob ob' : Ob} {v : AV} {vs : List AV} (ho : o.op = .store t x y) (hd : o.dst = none) (ht : tfB P t b k = true) (hx : ev σ.T x = some (.ptr l off)) (hl : ok σ.O l = some ob)
    (hy : ev σ.T y = some v) (hv : v.cellsOf = some vs) (hn : vs.length = k) (hoff : Nat.ble (off + k) ob.cells.length = true) (h0 : Nat.ble 1 k = true) (hob : (match ob with | .rowd _ _ _ _ => false | _ => true) = true) (hw : ob.with (splice ob.cells off vs) = ob') : StpU P c N o σ [l] .any [(l, ob')] [l] := by
  subst hw
  intro _ σ1 h1 h2 _
  have := aop_store (P := P) (c := c) (N := N) ho hd ht (h1 x (by simp [ho, Op.operands]) _ hx) (h2 l (by simp) _ hl) (h1 y (by simp [ho, Op.operands]) _ hy) hv hn (Nat.le_of_ble_eq_true hoff) (Nat.le_of_ble_eq_true h0) (by rintro e k f es rfl; cases hob)
  intro a w hc
  refine Oper.wp_mono ?_ (this a w hc)
  rintro a w ⟨σ2, h3, rfl⟩
  exact ⟨_, h3, by simp [St.add, hd]⟩
theorem MGo_u {ops : Array Oper} {n d : Nat} {os : List Oper} {Φ : List MS → St → Prop} {T : List (Nat × AV)} {O : List (Nat × Ob)} {need : List Nat} {v : AV} {new : List (Nat × Ob)} {old : List Nat} (hg : o.guard = none) (hd : o.dst = some d) (hN : d < N) (h : StpU P c N o ⟨T, O⟩ need v new old)
    (K : MGo P c N ops n os ⟨(d, v) :: T, new ++ O⟩ (fun ms σ' => Φ (⟨need, v, new, old⟩ :: ms) σ')) : MGo P c N ops (n + 1) (o :: os) ⟨T, O⟩ Φ := by
  obtain ⟨ms, σ', hr, hΦ⟩ := K
  exact ⟨_, _, .cons (hdS hd hN) (.upd hg h) (by simpa [St.add, hd] using hr), hΦ⟩
theorem MGo_un {ops : Array Oper} {n : Nat} {os : List Oper} {Φ : List MS → St → Prop} {T : List (Nat × AV)} {O : List (Nat × Ob)} {need : List Nat} {v : AV} {new : List (Nat × Ob)} {old : List Nat} (hg : o.guard = none) (hd : o.dst = none) (h : StpU P c N o ⟨T, O⟩ need v new old)
    (K : MGo P c N ops n os ⟨T, new ++ O⟩ (fun ms σ' => Φ (⟨need, v, new, old⟩ :: ms) σ')) : MGo P c N ops (n + 1) (o :: os) ⟨T, O⟩ Φ := by
  obtain ⟨ms, σ', hr, hΦ⟩ := K
  exact ⟨_, _, .cons (hdN hd) (.upd hg h) (by simpa [St.add, hd] using hr), hΦ⟩
def newU (O : List (Nat × Ob)) (new : List (Nat × Ob)) (old : List Nat) : Bool := new.all fun p => old.contains p.1 || (ok O p.1).isNone
theorem newU_spec {O : List (Nat × Ob)} {new : List (Nat × Ob)} {old : List Nat} (h : newU O new old = true) : ∀ p ∈ new, p.1 ∉ old → ok O p.1 = none := fun p hp ho => by
  have := List.all_eq_true.1 h p hp
  simp only [Bool.or_eq_true, List.contains_iff_mem] at this
  rcases this with h | h
  · exact absurd h ho
  · simpa using h
theorem awps_u {ops : Array Oper} {rest : List Oper} {T : List (Nat × AV)} {O : List (Nat × Ob)} {need : List Nat} {v : AV} {d : Nat} {new : List (Nat × Ob)} {old : List Nat} (hg : o.guard = none) (hd : o.dst = some d) (hN : d < N)
    (h : StpU P c N o ⟨T, O⟩ need v new old) (hnew : newU O new old = true) (K : awps P c N ops rest Q ⟨(d, v) :: T, new ++ O⟩) : awps P c N ops (o :: rest) Q ⟨T, O⟩ := by
  refine awps_op hg fun a w hc => Oper.wp_mono ?_ (h (hdS hd hN) ⟨T, O⟩ (fun _ _ _ h => h) (fun _ _ _ h => h) (newU_spec hnew) a w hc)
  rintro a w ⟨σ2, h2, rfl⟩
  refine ⟨_, h2, ?_⟩
  simpa [St.add, hd] using K
theorem awp_drawG (n : Nat) {id : Nat} {l : List Oper} (hm : P.follows .mixedOrders = true) (hn : Nat.ble n l.length = true) (hC : chkO l.toArray n = true) (hE : chkE l.toArray = true) (hS : chkS l.toArray n = true)
    (h : MGo P c N l.toArray n l σ (fun ms σ' => chkN l.toArray ms = true ∧ newB σ.O ms = true ∧ awps P c N l.toArray (l.drop n) Q σ')) : awp P c N (.region id l.toArray true) Q σ := by
  obtain ⟨ms, σ', hr, h1, h2, h3⟩ := h
  exact awp_drawB n hm hn hC hE hS hr h1 h2 h3
theorem thenQ_ret {K : St → Prop} (h : Q .ret σ) : thenQ K Q .ret σ := h
theorem thenQ_exit {K : St → Prop} {i : Nat} (h : Q (.exit i) σ) : thenQ K Q (.exit i) σ := h
theorem thenQ_nil {K : St → Prop} (h : K σ) : thenQ K Q .normal σ := h
theorem inQ_ret {i : Nat} (h : Q .ret σ) : inQ i Q .ret σ := h
theorem inQ_nil {i : Nat} (h : Q .normal σ) : inQ i Q .normal σ := h
theorem inQ_hit {i : Nat} (h : Q .normal σ) : inQ i Q (.exit i) σ := by simpa [inQ] using h
theorem inQ_other {i j : Nat} (e : Nat.beq j i = false) (h : Q (.exit j) σ) : inQ i Q (.exit j) σ := by simpa only [inQ, e, cond_false] using h
theorem SubO.left {A B : List (Nat × Ob)} : SubO A (A ++ B) := fun l v h => by rw [ok_append, h]
theorem SubO.trans {A B D : List (Nat × Ob)} (h : SubO A B) (k : SubO B D) : SubO A D := fun l v e => k l v (h l v e)
theorem inD_dom : ∀ {A B : List (Nat × Ob)} (_ : A.map (·.1) = B.map (·.1)) (l : Nat), inD A l = inD B l
  | [], [], _, l => rfl
  | [], b :: B, h, l => by simp at h
  | a :: A, [], h, l => by simp at h
  | a :: A, b :: B, h, l => by
    obtain ⟨s, v⟩ := a; obtain ⟨s', v'⟩ := b
    simp only [List.map_cons, List.cons.injEq] at h
    have ih := inD_dom h.2 l
    simp only [inD, ok_cons] at ih ⊢
    rw [h.1]
    split
    · rfl
    · exact ih
theorem LO {O O' : List (Nat × Ob)} (hL : ∀ l, c.L l ↔ inD O l = true) (h : O'.map (·.1) = O.map (·.1)) : ∀ l, c.L l → inD O' l = true := fun l hl => by rw [inD_dom h]; exact (hL l).1 hl
/-- What is handed to a call, object by object. -/
inductive PassP (B : Bool) (O : List (Nat × Ob)) (p : Nat → Bool) : List (Nat × Ob) → Prop where
  | nil : PassP B O p []
  | cons {t : Nat} {ob ob' : Ob} {L : List (Nat × Ob)} (h : ok O t = some ob) (hv : ob.live) (e : ob' = ob.cv B O p) (r : PassP B O p L) : PassP B O p ((t, ob') :: L)
theorem PassP.get {B : Bool} {O : List (Nat × Ob)} {p : Nat → Bool} : ∀ {L : List (Nat × Ob)}, PassP B O p L → ∀ {l : Nat} {ob' : Ob}, ok L l = some ob' → ∃ ob, ok O l = some ob ∧ ob.live ∧ ob' = ob.cv B O p
  | [], _, l, ob', h => by simp [ok] at h
  | _ :: _, .cons (t := t) h hv e r, l, ob', hl => by
    rw [ok_cons] at hl
    split at hl
    · rename_i hh; cases hl; subst hh; exact ⟨_, h, hv, e⟩
    · exact r.get hl
theorem passO {B : Bool} {O Oin : List (Nat × Ob)} (h : PassP B O (inD Oin) Oin) : PassO B O Oin := fun _ _ hl => h.get hl
theorem awps_gcallP {ops : Array Oper} {rest : List Oper} {x : Operand} {xs : List Operand} {tys : Array TypeId} {g : FuncId} {caps avs args : List AV} {T : List (Nat × AV)} {O Oin : List (Nat × Ob)} {Post : AV → List (Nat × Ob) → Prop} {d j t : Nat} {b : Bool} (B : Bool) (hg : o.guard = some (j, b)) (hj : (ops[j]?).bind (·.dst) = some t) (ht : lk T t = some (.imm (.bool b))) (htN : t < N)
    (ho : o.op = .call { callee := .value x, args := xs.toArray, argTypes := tys }) (hd : o.dst = some d) (hN : d < N) (hen : Enters P g)
    (hx : ev T x = some (.fn g caps)) (hxs : xs.map (ev T) = avs.map some) (hAC : AC P g args Oin Post) (hcv : AV.cvs B O (inD Oin) (avs ++ caps) = args) (hOin : PassO B O Oin)
    (hfr : ∀ r O', Post r O' → ∀ l, inD O' l = true → inD Oin l = true ∨ inD O l = false)
    (hq : B = true → ∀ r O', Post r O' → r.allQ (fun f => f) = true ∧ allOQ (fun f => f) O' = true)
    (K : ∀ r O', Post r O' → awps P c N ops rest Q ⟨(d, r) :: T, O' ++ O⟩) : awps P c N ops (o :: rest) Q ⟨T, O⟩ := by
  refine awps_want hg hj ht htN (call_core B ho (by intro e he; rw [hd] at he; cases he; exact hN) hen hx hxs hcv hOin hAC hfr hq ?_)
  intro r O' hP; simpa [St.put, hd] using K r O' hP
theorem inD_mem : ∀ {A : List (Nat × Ob)} {l : Nat}, inD A l = true → ∃ p, p ∈ A ∧ p.1 = l
  | [], l, h => by simp [inD, ok] at h
  | (s, v) :: A, l, h => by
    simp only [inD, ok_cons] at h
    split at h
    · rename_i e; exact ⟨_, List.mem_cons_self, e⟩
    · obtain ⟨p, hp, e⟩ := inD_mem (A := A) (l := l) h
      exact ⟨p, List.mem_cons_of_mem _ hp, e⟩
/-- What a call tells of objects: each was handed over, or is new here. -/
theorem frB {A Oin O : List (Nat × Ob)} (h : (A.all fun p => inD Oin p.1 || !inD O p.1) = true) : ∀ l, inD A l = true → inD Oin l = true ∨ inD O l = false := fun l hl => by
  obtain ⟨p, hp, rfl⟩ := inD_mem hl
  have := List.all_eq_true.1 h p hp
  simpa using this
theorem natBeq0 (n : Nat) : (((n : Int) == 0) : Bool) = decide (n = 0) := by
  rw [Bool.eq_iff_iff]; simp
theorem AC_rnE {f : FuncId} {args : List AV} {O O1 : List (Nat × Ob)} {v : AV} (a b : Nat) (h : AC P f args O (fun r O' => r = v ∧ O' = O1)) : AC P f (AV.rns (swp a b) args) (rnO (swp a b) O) (fun r O' => r = v.rn (swp a b) ∧ O' = rnO (swp a b) O1) :=
  AC_mono (AC_rn a b h) fun r O' ⟨e1, e2⟩ => ⟨by rw [← e1, rn_rn (swp_swp a b)], by rw [← e2, rnO_rnO (swp_swp a b)]⟩
/-- A state that is told anew, entry by entry. -/
theorem sub_re {T T1 : List (Nat × AV)} {O O1 : List (Nat × Ob)} (h : SubT T1 T) (k : SubO O1 O) (hT : allT (inD O1) T1 = true) (hO : allO (inD O1) O1 = true) (hL : ∀ l, c.L l → inD O1 l = true) : Sub c N ⟨T, O⟩ ⟨T1, O1⟩ := sub_TO h k hT hO hL
theorem while_back {k n : Nat} {p : Nat → Prop} {σ' : St} (h : k < n ∧ p (k + 1)) (s : Sub c N σ σ') : k < n ∧ p (k + 1) ∧ Sub c N σ σ' := ⟨h.1, h.2, s⟩
theorem bool_imm {b b' : Bool} (h : b = b') : AV.imm (.bool b) = AV.imm (.bool b') := by rw [h]
theorem int_imm {b b' : Int} (h : b = b') : AV.imm (.int .i64 b) = AV.imm (.int .i64 b') := by rw [h]
theorem int_w {b b' : Int} (h : b = b') : resV [AV.imm (.int .i64 b)] = AV.imm (.int .i64 b') := by rw [h]; rfl
theorem bool_w {b b' : Bool} (h : b = b') : resV [AV.imm (.bool b)] = AV.imm (.bool b') := by rw [h]; rfl
end
end Go.Proofs.Ytdecgkhdbfgldaa
