/- Plain proof kit of this session, twelfth part: the rules in the forms that printed steps use. -/
import Derived.Test.YtdecgkhdbfgldaaSymK
set_option linter.unusedVariables false
set_option linter.unusedSimpArgs false
namespace Go.Proofs.Ytdecgkhdbfgldaa
open Go

theorem lk_eq {T : List (Nat × AV)} {t : Nat} {v v' : AV} (h : lk T t = some v) (e : v = v') : lk T t = some v' := by rw [h, e]
theorem ok_eq {T : List (Nat × Ob)} {t : Nat} {v v' : Ob} (h : ok T t = some v) (e : v = v') : ok T t = some v' := by rw [h, e]
theorem noL {c : Ctx} (h : ∀ l, c.L l ↔ inD [] l = true) : ∀ l, ¬ c.L l := fun l hl => by have := (h l).1 hl; simp [inD, ok] at this
theorem noL' {c : Ctx} (h : ∀ l, ¬ c.L l) (O : List (Nat × Ob)) : ∀ l, c.L l → inD O l = true := fun l hl => absurd hl (h l)
theorem oneL {c : Ctx} {l0 : Nat} {ob : Ob} (h : ∀ l, c.L l ↔ inD [(l0, ob)] l = true) {O : List (Nat × Ob)} (h0 : inD O l0 = true) : ∀ l, c.L l → inD O l = true := fun l hl => by
  have := (h l).1 hl
  simp only [inD, ok_cons] at this
  split at this
  · rename_i e; rw [← e]; exact h0
  · simp [ok] at this
theorem oneL' {c : Ctx} {l0 : Nat} {ob : Ob} (h : ∀ l, c.L l ↔ inD [(l0, ob)] l = true) {m : Nat} (h0 : Nat.beq l0 m = false) : ¬ c.L m := fun hl => by
  have := (h m).1 hl
  simp only [inD, ok_cons] at this
  split at this
  · rename_i e; subst e; simp at h0
  · simp [ok] at this

section
variable {P : Program} {c : Ctx} {N : Nat} {Q : Exit → St → Prop} {σ : St} {o : Oper}

/-- A bool is told apart, its place told anew. -/
theorem awps_split {ops : Array Oper} {rest : List Oper} {T : List (Nat × AV)} {O : List (Nat × Ob)} (t : Nat) {b : Bool} (h : lk T t = some (.imm (.bool b))) (ht : b = true → awps P c N ops rest Q ⟨(t, .imm (.bool true)) :: T, O⟩) (hf : b = false → awps P c N ops rest Q ⟨(t, .imm (.bool false)) :: T, O⟩) : awps P c N ops rest Q ⟨T, O⟩ := by
  have key : ∀ b', b = b' → Sub c N ⟨T, O⟩ ⟨(t, .imm (.bool b')) :: T, O⟩ := fun b' e => by
    subst e
    refine sub_lookups (fun s => ?_) (fun _ => rfl)
    simp only [lk_cons]
    split
    · rename_i e; rw [← e, h]
    · rfl
  cases hb : b with
  | true => exact awps_sub (key true hb) (ht hb)
  | false => exact awps_sub (key false hb) (hf hb)

theorem awp_split {x : Code} {T : List (Nat × AV)} {O : List (Nat × Ob)} (t : Nat) {b : Bool} (h : lk T t = some (.imm (.bool b))) (ht : b = true → awp P c N x Q ⟨(t, .imm (.bool true)) :: T, O⟩) (hf : b = false → awp P c N x Q ⟨(t, .imm (.bool false)) :: T, O⟩) : awp P c N x Q ⟨T, O⟩ := by
  have key : ∀ b', b = b' → Sub c N ⟨T, O⟩ ⟨(t, .imm (.bool b')) :: T, O⟩ := fun b' e => by
    subst e
    refine sub_lookups (fun s => ?_) (fun _ => rfl)
    simp only [lk_cons]
    split
    · rename_i e; rw [← e, h]
    · rfl
  cases hb : b with
  | true => exact awp_sub (key true hb) (ht hb)
  | false => exact awp_sub (key false hb) (hf hb)

/-- A guarded operation that is run. -/
theorem awps_g0 {ops : Array Oper} {rest : List Oper} {T : List (Nat × AV)} {O : List (Nat × Ob)} {need : List Nat} {v : AV} {d j t : Nat} {b : Bool} (hg : o.guard = some (j, b)) (hj : (ops[j]?).bind (·.dst) = some t) (ht : lk T t = some (.imm (.bool b))) (htN : t < N) (hd : o.dst = some d) (hN : d < N)
    (h : Stp P c N o ⟨T, O⟩ need v []) (K : awps P c N ops rest Q ⟨(d, v) :: T, O⟩) : awps P c N ops (o :: rest) Q ⟨T, O⟩ := by
  refine awps_want hg hj ht htN fun a w hc => Oper.wp_mono ?_ (h (by intro e he; rw [hd] at he; cases he; exact hN) ⟨T, O⟩ (fun _ _ _ h => h) (fun _ _ _ h => h) (by simp) a w hc)
  rintro a w ⟨σ2, h2, rfl⟩
  refine ⟨_, h2, ?_⟩
  simpa [St.add, hd] using K
theorem awps_g1 {ops : Array Oper} {rest : List Oper} {T : List (Nat × AV)} {O : List (Nat × Ob)} {need : List Nat} {v : AV} {d j t l : Nat} {b : Bool} {ob : Ob} (hg : o.guard = some (j, b)) (hj : (ops[j]?).bind (·.dst) = some t) (ht : lk T t = some (.imm (.bool b))) (htN : t < N) (hd : o.dst = some d) (hN : d < N)
    (h : Stp P c N o ⟨T, O⟩ need v [(l, ob)]) (hl : ok O l = none) (K : awps P c N ops rest Q ⟨(d, v) :: T, (l, ob) :: O⟩) : awps P c N ops (o :: rest) Q ⟨T, O⟩ := by
  refine awps_want hg hj ht htN fun a w hc => Oper.wp_mono ?_ (h (by intro e he; rw [hd] at he; cases he; exact hN) ⟨T, O⟩ (fun _ _ _ h => h) (fun _ _ _ h => h) (by simpa using hl) a w hc)
  rintro a w ⟨σ2, h2, rfl⟩
  refine ⟨_, h2, ?_⟩
  simpa [St.add, hd] using K
/-- A guarded operation that is passed over. -/
theorem awps_gs {ops : Array Oper} {rest : List Oper} {T : List (Nat × AV)} {O : List (Nat × Ob)} {d j t : Nat} {b b' : Bool} (hg : o.guard = some (j, b)) (hj : (ops[j]?).bind (·.dst) = some t) (ht : lk T t = some (.imm (.bool b'))) (hb : (b' == b) = false) (htN : t < N) (hd : o.dst = some d) (hN : d < N)
    (K : awps P c N ops rest Q ⟨(d, .imm undef) :: T, O⟩) : awps P c N ops (o :: rest) Q ⟨T, O⟩ := by
  refine awps_skip hg hj ht (by simpa using hb) (by intro e he; rw [hd] at he; cases he; exact hN) htN ?_
  simpa [St.put, hd] using K
theorem awps_gsn {ops : Array Oper} {rest : List Oper} {T : List (Nat × AV)} {O : List (Nat × Ob)} {j t : Nat} {b b' : Bool} (hg : o.guard = some (j, b)) (hj : (ops[j]?).bind (·.dst) = some t) (ht : lk T t = some (.imm (.bool b'))) (hb : (b' == b) = false) (htN : t < N) (hd : o.dst = none)
    (K : awps P c N ops rest Q ⟨T, O⟩) : awps P c N ops (o :: rest) Q ⟨T, O⟩ := by
  refine awps_skip hg hj ht (by simpa using hb) (by intro e he; rw [hd] at he; cases he) htN ?_
  simpa [St.put, hd] using K

theorem awps_gu {ops : Array Oper} {rest : List Oper} {T : List (Nat × AV)} {O : List (Nat × Ob)} {d j t : Nat} {b : Bool} (hg : o.guard = some (j, b)) (hj : (ops[j]?).bind (·.dst) = some t) (ht : lk T t = some (.imm undef)) (htN : t < N) (hd : o.dst = some d) (hN : d < N)
    (K : awps P c N ops rest Q ⟨(d, .imm undef) :: T, O⟩) : awps P c N ops (o :: rest) Q ⟨T, O⟩ := by
  refine awps_skipu hg hj ht (by intro e he; rw [hd] at he; cases he; exact hN) htN ?_
  simpa [St.put, hd] using K
theorem awps_gun {ops : Array Oper} {rest : List Oper} {T : List (Nat × AV)} {O : List (Nat × Ob)} {j t : Nat} {b : Bool} (hg : o.guard = some (j, b)) (hj : (ops[j]?).bind (·.dst) = some t) (ht : lk T t = some (.imm undef)) (htN : t < N) (hd : o.dst = none)
    (K : awps P c N ops rest Q ⟨T, O⟩) : awps P c N ops (o :: rest) Q ⟨T, O⟩ := by
  refine awps_skipu hg hj ht (by intro e he; rw [hd] at he; cases he) htN ?_
  simpa [St.put, hd] using K

/-- A store. -/
theorem awps_store {ops : Array Oper} {rest : List Oper} {x y : Operand} {t : TypeId} {b : Bool} {n l off : Nat} {ob ob' : Ob} {v : AV} {vs : List AV} {T : List (Nat × AV)} {O : List (Nat × Ob)} (hg : o.guard = none) (ho : o.op = .store t x y) (hd : o.dst = none) (ht : tfB P t b n = true) (hx : ev T x = some (.ptr l off)) (hl : ok O l = some ob)
    (hy : ev T y = some v) (hv : v.cellsOf = some vs) (hn : vs.length = n) (hoff : Nat.ble (off + n) ob.cells.length = true) (h0 : Nat.ble 1 n = true) (hob : (match ob with | .rowd _ _ _ _ => false | _ => true) = true) (hw : ob.with (splice ob.cells off vs) = ob')
    (K : awps P c N ops rest Q ⟨T, (l, ob') :: O⟩) : awps P c N ops (o :: rest) Q ⟨T, O⟩ := by
  subst hw
  refine awps_op hg fun a w hc => Oper.wp_mono ?_ (aop_store ho hd ht hx hl hy hv hn (Nat.le_of_ble_eq_true hoff) (Nat.le_of_ble_eq_true h0) (by rintro e k f es rfl; cases hob) a w hc)
  rintro a w ⟨σ2, h2, rfl⟩
  exact ⟨_, h2, K⟩

theorem stp_load {x : Operand} {t : TypeId} {l off n : Nat} {b : Bool} {ob : Ob} {v : AV} (ho : o.op = .load t x) (ht : tfB P t b n = true) (hx : ev σ.T x = some (.ptr l off)) (hl : ok σ.O l = some ob)
    (hn : Nat.ble (off + n) ob.cells.length = true) (h0 : Nat.ble 1 n = true) (hv : mkA b n ((ob.cells.drop off).take n) = some v) : Stp P c N o σ [l] v [] :=
  stp_load_box ho ht hx hl (Nat.le_of_ble_eq_true hn) (Nat.le_of_ble_eq_true h0) hv
/-- A whole box. -/
theorem stp_load_all {x : Operand} {t : TypeId} {l n : Nat} {cs : List AV} (ho : o.op = .load t x) (ht : tfB P t true n = true) (hx : ev σ.T x = some (.ptr l 0)) (hl : ok σ.O l = some (.box cs)) (hn : cs.length = n) (h0 : Nat.ble 1 n = true) : Stp P c N o σ [l] (.agg cs) [] :=
  stp_load_box ho ht hx hl (by simp [Ob.cells]; omega) (Nat.le_of_ble_eq_true h0) (by simp only [Ob.cells, List.drop_zero, mkA, if_true]; rw [List.take_of_length_le (by omega), if_pos hn])
/-- A whole element. -/
theorem stp_load_elpa {x : Operand} {t : TypeId} {n : Nat} {f : Bool} {ds : List D} (ho : o.op = .load t x) (ht : tfB P t true n = true) (hx : ev σ.T x = some (.elp f ds)) (hn : ds.length = n) : Stp P c N o σ [] (.agg (lift f ds)) [] :=
  stp_load_elp ho ht hx (by omega) (by simp only [mkA, if_true]; rw [List.take_of_length_le (by omega), if_pos (by simp [lift, hn])])
theorem stp_load_elp1 {x : Operand} {t : TypeId} {f : Bool} {d : D} {ds : List D} (ho : o.op = .load t x) (ht : tfB P t false 1 = true) (hx : ev σ.T x = some (.elp f (d :: ds))) : Stp P c N o σ [] (d.av f) [] :=
  stp_load_elp ho ht hx (by simp) (by simp [mkA, lift])
theorem stp_load_elpn {x : Operand} {t : TypeId} {n : Nat} {b f : Bool} {ds : List D} {v : AV} (ho : o.op = .load t x) (ht : tfB P t b n = true) (hx : ev σ.T x = some (.elp f ds)) (hn : Nat.ble n ds.length = true) (hv : mkA b n (lift f (ds.take n)) = some v) : Stp P c N o σ [] v [] :=
  stp_load_elp ho ht hx (Nat.le_of_ble_eq_true hn) hv

/-- A call that tells one value and touches no object. -/
theorem awps_call {ops : Array Oper} {rest : List Oper} {x : Operand} {xs : List Operand} {tys : Array TypeId} {g : FuncId} {caps avs args : List AV} {T : List (Nat × AV)} {O : List (Nat × Ob)} {v : AV} {d : Nat} (B : Bool) (hg : o.guard = none)
    (ho : o.op = .call { callee := .value x, args := xs.toArray, argTypes := tys }) (hd : o.dst = some d) (hN : d < N) (hen : Enters P g)
    (hx : ev T x = some (.fn g caps)) (hxs : xs.map (ev T) = avs.map some) (hAC : AC P g args [] (fun r O' => r = v ∧ O' = [])) (hcv : AV.cvs B O (inD []) (avs ++ caps) = args) (hq : (!B || v.allQ (fun f => f)) = true)
    (K : awps P c N ops rest Q ⟨(d, v) :: T, O⟩) : awps P c N ops (o :: rest) Q ⟨T, O⟩ := by
  refine awps_op hg (call_core B ho (by intro e he; rw [hd] at he; cases he; exact hN) hen hx hxs hcv PassO.nil hAC ?_ ?_ ?_)
  · rintro r O' ⟨_, rfl⟩ l hl; simp [inD, ok] at hl
  · rintro rfl r O' ⟨rfl, rfl⟩; exact ⟨by simpa using hq, rfl⟩
  · rintro r O' ⟨rfl, rfl⟩; simpa [St.put, hd] using K

theorem stp_call {x : Operand} {xs : List Operand} {tys : Array TypeId} {g : FuncId} {caps avs args : List AV} {T : List (Nat × AV)} {O : List (Nat × Ob)} {v : AV} (B : Bool) 
    (ho : o.op = .call { callee := .value x, args := xs.toArray, argTypes := tys }) (hen : Enters P g)
    (hx : ev T x = some (.fn g caps)) (hxs : xs.map (ev T) = avs.map some) (hAC : AC P g args [] (fun r O' => r = v ∧ O' = [])) (hcv : ∀ O', AV.cvs B O' (inD []) (avs ++ caps) = args) (hq : (!B || v.allQ (fun f => f)) = true) : Stp P c N o ⟨T, O⟩ [] v [] := by
  rintro hdN σ' h1 h2 _
  have hxs' : xs.map (ev σ'.T) = avs.map some := by
    rw [← hxs]
    refine List.map_congr_left fun y hy => ?_
    have : ∀ u, ev T y = some u → ev σ'.T y = some u := h1 y (by simp [ho, Op.operands, Call.operands, hy])
    have hsome : ∃ u, ev T y = some u := by
      have : ev T y ∈ avs.map some := by rw [← hxs]; exact List.mem_map.2 ⟨y, hy, rfl⟩
      obtain ⟨u, _, hu⟩ := List.mem_map.1 this
      exact ⟨u, hu.symm⟩
    obtain ⟨u, hu⟩ := hsome
    rw [hu, this u hu]
  have hx' : ev σ'.T x = some (.fn g caps) := h1 x (by simp [ho, Op.operands, Call.operands]) _ hx
  refine call_core (T := σ'.T) (O := σ'.O) B ho hdN hen hx' hxs' (hcv σ'.O) PassO.nil hAC ?_ ?_ ?_
  · rintro r O' ⟨_, rfl⟩ l hl; simp [inD, ok] at hl
  · rintro rfl r O' ⟨rfl, rfl⟩; exact ⟨by simpa using hq, rfl⟩
  · rintro r O' ⟨rfl, rfl⟩; cases o.dst <;> rfl

/-- A call in general: what Post tells goes on. -/
theorem awps_callP {ops : Array Oper} {rest : List Oper} {x : Operand} {xs : List Operand} {tys : Array TypeId} {g : FuncId} {caps avs args : List AV} {T : List (Nat × AV)} {O Oin : List (Nat × Ob)} {Post : AV → List (Nat × Ob) → Prop} {d : Nat} (B : Bool) (hg : o.guard = none)
    (ho : o.op = .call { callee := .value x, args := xs.toArray, argTypes := tys }) (hd : o.dst = some d) (hN : d < N) (hen : Enters P g)
    (hx : ev T x = some (.fn g caps)) (hxs : xs.map (ev T) = avs.map some) (hAC : AC P g args Oin Post) (hcv : AV.cvs B O (inD Oin) (avs ++ caps) = args) (hOin : PassO B O Oin)
    (hfr : ∀ r O', Post r O' → ∀ l, inD O' l = true → inD Oin l = true ∨ inD O l = false)
    (hq : B = true → ∀ r O', Post r O' → r.allQ (fun f => f) = true ∧ allOQ (fun f => f) O' = true)
    (K : ∀ r O', Post r O' → awps P c N ops rest Q ⟨(d, r) :: T, O' ++ O⟩) : awps P c N ops (o :: rest) Q ⟨T, O⟩ := by
  refine awps_op hg (call_core B ho (by intro e he; rw [hd] at he; cases he; exact hN) hen hx hxs hcv hOin hAC hfr hq ?_)
  intro r O' hP; simpa [St.put, hd] using K r O' hP
theorem awps_callN {ops : Array Oper} {rest : List Oper} {x : Operand} {xs : List Operand} {tys : Array TypeId} {g : FuncId} {caps avs args : List AV} {T : List (Nat × AV)} {O Oin : List (Nat × Ob)} {Post : AV → List (Nat × Ob) → Prop} (B : Bool) (hg : o.guard = none)
    (ho : o.op = .call { callee := .value x, args := xs.toArray, argTypes := tys }) (hd : o.dst = none) (hen : Enters P g)
    (hx : ev T x = some (.fn g caps)) (hxs : xs.map (ev T) = avs.map some) (hAC : AC P g args Oin Post) (hcv : AV.cvs B O (inD Oin) (avs ++ caps) = args) (hOin : PassO B O Oin)
    (hfr : ∀ r O', Post r O' → ∀ l, inD O' l = true → inD Oin l = true ∨ inD O l = false)
    (hq : B = true → ∀ r O', Post r O' → r.allQ (fun f => f) = true ∧ allOQ (fun f => f) O' = true)
    (K : ∀ r O', Post r O' → awps P c N ops rest Q ⟨T, O' ++ O⟩) : awps P c N ops (o :: rest) Q ⟨T, O⟩ := by
  refine awps_op hg (call_core B ho (by intro e he; rw [hd] at he; cases he) hen hx hxs hcv hOin hAC hfr hq ?_)
  intro r O' hP; simpa [St.put, hd] using K r O' hP

/-! ### The end of a function -/
theorem resAs_tmp {rs : List ResultVar} {vs : List AV} {t : Nat} {v : AV} (h : lk σ.T t = some v) (r : resAs P σ rs = some vs) : resAs P σ (.tmp t :: rs) = some (v :: vs) := by
  simp [resAs, resA, resT, h, r]
theorem resAs_cell {rs : List ResultVar} {vs : List AV} {a l : Nat} {ty : TypeId} {u w : AV} {cs : List AV} {n : Nat} (ht : tfB P ty true n = true) (h : lk σ.T a = some (.ptr l 0)) (hl : ok σ.O l = some (.box (u :: w :: cs))) (hn : (u :: w :: cs).length = n) (r : resAs P σ rs = some vs) : resAs P σ (.cell a ty :: rs) = some (.agg (u :: w :: cs) :: vs) := by
  subst hn
  have : ((u :: w :: cs).length == 1) = false := by simp
  have ht' : tfB P ty true (cs.length + 1 + 1) = true := by simpa using ht
  simp [resAs, resA, resT, h, hl, r, ht']
theorem resAs_cell1 {rs : List ResultVar} {vs : List AV} {a l : Nat} {ty : TypeId} {u : AV} (ht : tfB P ty false 1 = true) (h : lk σ.T a = some (.ptr l 0)) (hl : ok σ.O l = some (.box [u])) (r : resAs P σ rs = some vs) : resAs P σ (.cell a ty :: rs) = some (u :: vs) := by
  simp [resAs, resA, resT, h, hl, r, ht]
theorem resAs_nil : resAs P σ [] = some [] := rfl

/-- Its objects are forgotten; nothing was handed over. -/
theorem ret0 {rs : List ResultVar} {Post : AV → List (Nat × Ob) → Prop} {vs : List AV} {e : Exit} (hL : ∀ l, ¬ c.L l) (he : e = .ret ∨ e = .normal) (hr : resAs P σ rs = some vs) (hv : AV.allLs (inD []) vs = true) (hP : Post (resV vs) []) : retQ P c N rs Post e σ :=
  ⟨he, σ, vs, [], fun _ _ h => h, hr, SubO.nil, hv, rfl, fun l hl => absurd hl (hL l), hP⟩
/-- Behind ghosts. -/
theorem retS {rs : List ResultVar} {Post : AV → List (Nat × Ob) → Prop} {e : Exit} {σ' : St} (hs : Sub c N σ σ') (h : retQ P c N rs Post e σ') : retQ P c N rs Post e σ := by
  obtain ⟨he, σ2, vs, O', h1, h2⟩ := h
  exact ⟨he, σ2, vs, O', fun a w hc => h1 a w (hs a w hc), h2⟩
/-- Objects O' are told. -/
theorem retO {rs : List ResultVar} {Post : AV → List (Nat × Ob) → Prop} {vs : List AV} {O' : List (Nat × Ob)} {e : Exit} (he : e = .ret ∨ e = .normal) (hr : resAs P σ rs = some vs) (hO : SubO O' σ.O) (hv : AV.allLs (inD O') vs = true) (hOO : allO (inD O') O' = true) (hL : ∀ l, c.L l → inD O' l = true) (hP : Post (resV vs) O') : retQ P c N rs Post e σ :=
  ⟨he, σ, vs, O', fun _ _ h => h, hr, hO, hv, hOO, hL, hP⟩

/-! ### Ways that meet again -/
theorem awp_mid {x y : Code} (σ' : St) (h : awp P c N x (thenQ (fun σ1 => Sub c N σ1 σ') Q) σ) (k : awp P c N y Q σ') : awp P c N (.seq x y) Q σ := by
  refine awp_seq (awp_mono ?_ h)
  intro e σ1 hq
  cases e with
  | normal => exact awp_sub hq k
  | exit id => exact hq
  | goto l => exact hq
  | ret => exact hq
  | panic ch => exact hq
  | outgrown => exact hq

theorem Sub.rfl' : Sub c N σ σ := fun _ _ h => h
theorem Sub.trans {σ1 σ2 σ3 : St} (h : Sub c N σ1 σ2) (k : Sub c N σ2 σ3) : Sub c N σ1 σ3 := fun a w hc => k a w (h a w hc)

theorem AC_mono {f : FuncId} {args : List AV} {O : List (Nat × Ob)} {Post Post' : AV → List (Nat × Ob) → Prop} (h : AC P f args O Post) (k : ∀ r O', Post r O' → Post' r O') : AC P f args O Post' :=
  fun c w vs ρ S h0 h1 h2 h3 => (h c w vs ρ S h0 h1 h2 h3).mono fun e w' ⟨v, r, O', he, hP, hC⟩ => ⟨v, r, O', he, k r O' hP, hC⟩
end
end Go.Proofs.Ytdecgkhdbfgldaa
