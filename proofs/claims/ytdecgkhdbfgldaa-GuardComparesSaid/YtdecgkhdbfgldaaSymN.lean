/- Plain proof kit of this session, fourteenth part: a literal's row as data; the compare of two texts; calls that the shelf has. -/
import Derived.Test.YtdecgkhdbfgldaaSymM
import Derived.Lib.Bytealg
set_option linter.unusedVariables false
set_option linter.unusedSimpArgs false
namespace Go.Proofs.Ytdecgkhdbfgldaa
open Go

def chunk (k : Nat) : Nat → List D → List (List D)
  | 0, _ => []
  | n + 1, ds => ds.take k :: chunk k n (ds.drop k)
theorem chunk_spec (k : Nat) : ∀ (n : Nat) (ds : List D), ds.length = n * k → (chunk k n ds).flatten = ds ∧ (chunk k n ds).length = n ∧ ∀ d ∈ chunk k n ds, d.length = k
  | 0, ds, h => by simp at h; subst h; simp [chunk]
  | n + 1, ds, h => by
    have hk : (n + 1) * k = n * k + k := Nat.succ_mul n k
    obtain ⟨h1, h2, h3⟩ := chunk_spec k n (ds.drop k) (by rw [List.length_drop]; omega)
    refine ⟨by simp [chunk, h1], by simp [chunk, h2], fun d hd => ?_⟩
    simp only [chunk, List.mem_cons] at hd
    rcases hd with rfl | hd
    · rw [List.length_take]; omega
    · exact h3 d hd

theorem Far.rfl' {W : Nat → Prop} {w : World} : Far W w w := ⟨rfl, rfl, rfl, Nat.le_refl _, fun _ _ _ => rfl⟩

section
variable {P : Program} {c : Ctx} {N : Nat} {Q : Exit → St → Prop} {σ : St} {o : Oper}

/-- A row whose cells are data. -/
theorem sub_rowd {T : List (Nat × AV)} {O : List (Nat × Ob)} {l k : Nat} {e : TypeId} {cs : List AV} {ds : List D} (f : Bool) (n : Nat) (hl : ok O l = some (.row e k cs)) (hd : toDs f cs = some ds) (hk : Nat.ble 1 k = true) (hn : cs.length = n * k) : Sub c N ⟨T, O⟩ ⟨T, (l, .rowd e k f (chunk k n ds)) :: O⟩ := by
  rintro a w ⟨ρ, S, hc⟩
  have hk' := Nat.le_of_ble_eq_true hk
  obtain ⟨m, xs, how, h1, hr⟩ := hc.O l _ hl
  have e1 := toDs_lift hd
  have hdl : ds.length = n * k := by rw [← hn, e1]; simp [lift]
  obtain ⟨c1, c2, c3⟩ := chunk_spec k n ds hdl
  have hm : m = n := by
    have h2 := how.1
    rw [hr.length, hn] at h2
    exact (Nat.eq_of_mul_eq_mul_right (by omega) h2).symm
  subst hm
  refine ⟨ρ, S, hc.modOb hl trivial Far.rfl' ⟨c3, xs, by rw [c2]; exact how, h1, ?_⟩⟩
  rw [c1, ← e1]
  exact hr.mono (fun _ _ h => h) (fun _ _ _ => rfl) (fun m hm => by
    simp only [St.U, ok_cons] at hm ⊢
    split
    · rfl
    · exact hm) (fun _ _ => rfl)

theorem awps_rowd {ops : Array Oper} {rest : List Oper} {T : List (Nat × AV)} {O : List (Nat × Ob)} {k : Nat} {e : TypeId} {cs : List AV} {ds : List D} (l : Nat) (f : Bool) (n : Nat) (hl : ok O l = some (.row e k cs)) (hd : toDs f cs = some ds) (hk : Nat.ble 1 k = true) (hn : cs.length = n * k)
    (K : awps P c N ops rest Q ⟨T, (l, .rowd e k f (chunk k n ds)) :: O⟩) : awps P c N ops rest Q ⟨T, O⟩ := awps_sub (sub_rowd f n hl hd hk hn) K

theorem stp_cmpstring {x y : Operand} {tys : Array TypeId} {g : FuncId} {fn : Func} {a b : ByteArray} (hf : P.funcs[g]? = some fn) (hn : (fn.name == "runtime.NumGoroutine") = false) (hb : fn.body.isNone = true) (hx : Extern.findNext fn = none) (he : Extern.find fn = some Extern.BytealgCompare.compare)
    (ho : o.op = .call { callee := .value (.func g), args := #[x, y], argTypes := tys }) (h1 : ev σ.T x = some (.imm (.string a))) (h2 : ev σ.T y = some (.imm (.string b))) : Stp P c N o σ [] (.imm (.int .i64 (Lib.compareBytes a.data.toList b.data.toList))) [] := by
  refine stp_value fun σ' h3 _ st w ρ S hc => ⟨_, ?_, by simp only [Rep]; rfl⟩
  have hx' := ev_rep hc (h3 x (by simp [ho, Op.operands, Call.operands]) _ h1)
  have hy' := ev_rep hc (h3 y (by simp [ho, Op.operands, Call.operands]) _ h2)
  simp only [Rep] at hx' hy'
  simp only [execOp, ho, resolve]
  have e : st.eval (.func g) = .func (.func g) #[] #[] := rfl
  have := run_callFunc_extern hf hn hb hx he #[.string a, .string b] w
  rw [Lib.run_compareString] at this
  simp only [Result.andThen] at this
  simpa [Sem.run_bind, invoke, Deferred.ofValue, e, hx', hy'] using this
end
end Go.Proofs.Ytdecgkhdbfgldaa
