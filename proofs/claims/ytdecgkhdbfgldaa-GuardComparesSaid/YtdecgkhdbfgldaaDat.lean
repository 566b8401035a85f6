/- The program's plain data, and how each lies in cells. -/
import Derived.Test.YtdecgkhdbfgldaaSymK
set_option linter.unusedVariables false
namespace Go.Proofs.Ytdecgkhdbfgldaa
open Go

structure Tm where
  kind : Int
  name : ByteArray
  n : Int
  args : List Tm

mutual
def tmD0 : Tm → List D
  | ⟨k, nm, n, as⟩ => [.imm (.int .i64 k), .imm (.string nm), .imm (.int .i64 n), .sl 4 (tmDs as)]
def tmDs : List Tm → List (List D)
  | [] => []
  | t :: ts => tmD0 t :: tmDs ts
end
def tmD (t : Tm) : List D := [.imm (.int .i64 t.kind), .imm (.string t.name), .imm (.int .i64 t.n), .sl 4 (tmDs t.args)]
theorem tmD0_eq (t : Tm) : tmD0 t = tmD t := by cases t; simp only [tmD0, tmD]
theorem tmDs_map : ∀ ts : List Tm, tmDs ts = ts.map tmD
  | [] => by simp only [tmDs, List.map_nil]
  | t :: ts => by simp only [tmDs, List.map_cons, tmD0_eq, tmDs_map ts]
theorem tmDs_length (ts : List Tm) : (tmDs ts).length = ts.length := by simp [tmDs_map]
theorem tmDs_get {ts : List Tm} {i : Nat} {t : Tm} (h : ts[i]? = some t) : (tmDs ts)[i]? = some (tmD t) := by simp [tmDs_map, h]
theorem tmD_length (t : Tm) : (tmD t).length = 4 := rfl

/-- A term as a value. -/
abbrev tmA (f : Bool) (t : Tm) : AV := .agg (lift f (tmD t))

mutual
/-- What can be read as a term: its numbers are of their kind, its texts and lists are no longer than memory. -/
def Tm.wf0 : Tm → Prop
  | ⟨k, nm, n, as⟩ => (-9223372036854775808 ≤ k ∧ k ≤ 9223372036854775807) ∧ nm.size ≤ 140737488351232 ∧ (-9223372036854775808 ≤ n ∧ n ≤ 9223372036854775807) ∧ as.length * 56 ≤ 140737488351232 ∧ Tm.wfs as
def Tm.wfs : List Tm → Prop
  | [] => True
  | t :: ts => t.wf0 ∧ Tm.wfs ts
end
def Tm.wf (t : Tm) : Prop := (-9223372036854775808 ≤ t.kind ∧ t.kind ≤ 9223372036854775807) ∧ t.name.size ≤ 140737488351232 ∧ (-9223372036854775808 ≤ t.n ∧ t.n ≤ 9223372036854775807) ∧ t.args.length * 56 ≤ 140737488351232 ∧ Tm.wfs t.args
theorem Tm.wf0_iff (t : Tm) : t.wf0 ↔ t.wf := by cases t; simp only [Tm.wf0, Tm.wf]
theorem Tm.wfs_get : ∀ {ts : List Tm} {i : Nat} {t : Tm}, Tm.wfs ts → ts[i]? = some t → t.wf
  | t :: ts, 0, u, h, hi => by simp only [List.getElem?_cons_zero, Option.some.injEq] at hi; subst hi; simp only [Tm.wfs] at h; exact (Tm.wf0_iff t).1 h.1
  | t :: ts, i + 1, u, h, hi => by simp only [Tm.wfs] at h; exact Tm.wfs_get h.2 (by simpa using hi)

end Go.Proofs.Ytdecgkhdbfgldaa
