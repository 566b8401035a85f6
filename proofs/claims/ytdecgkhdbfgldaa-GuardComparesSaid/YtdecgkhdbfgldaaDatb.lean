/- More of the program's plain data. -/
import Derived.Test.YtdecgkhdbfgldaaDat
set_option linter.unusedVariables false
namespace Go.Proofs.Ytdecgkhdbfgldaa
open Go

structure Bd where
  name : ByteArray
  t : Tm
structure Gd where
  kind : Int
  l : Tm
  r : Tm
structure Cl where
  head : Tm
  body : List Tm
  guards : List Gd
abbrev i64 (n : Int) : Prop := -9223372036854775808 ≤ n ∧ n ≤ 9223372036854775807
def lenOk {α : Type} (l : List α) : Prop := l.length ≤ 140737488351232
def Bd.wf (b : Bd) : Prop := b.name.size ≤ 140737488351232 ∧ b.t.wf
def Gd.wf (g : Gd) : Prop := i64 g.kind ∧ g.l.wf ∧ g.r.wf
def Cl.wf (c : Cl) : Prop := c.head.wf ∧ (lenOk c.body ∧ Tm.wfs c.body) ∧ (lenOk c.guards ∧ ∀ g ∈ c.guards, g.wf)
def bdD (b : Bd) : List D := .imm (.string b.name) :: tmD b.t
def gdD (g : Gd) : List D := .imm (.int .i64 g.kind) :: (tmD g.l ++ tmD g.r)
def bdDs (l : List Bd) : List (List D) := l.map bdD
def gdDs (l : List Gd) : List (List D) := l.map gdD
def clD (c : Cl) : List D := tmD c.head ++ [.sl 4 (tmDs c.body), .sl 9 (gdDs c.guards)]
def clDs (l : List Cl) : List (List D) := l.map clD
theorem bdDs_length (l : List Bd) : (bdDs l).length = l.length := by simp [bdDs]
theorem gdDs_length (l : List Gd) : (gdDs l).length = l.length := by simp [gdDs]
theorem clDs_length (l : List Cl) : (clDs l).length = l.length := by simp [clDs]
theorem bdDs_get {l : List Bd} {i : Nat} {b : Bd} (h : l[i]? = some b) : (bdDs l)[i]? = some (bdD b) := by simp [bdDs, h]
theorem gdDs_get {l : List Gd} {i : Nat} {b : Gd} (h : l[i]? = some b) : (gdDs l)[i]? = some (gdD b) := by simp [gdDs, h]
theorem clDs_get {l : List Cl} {i : Nat} {b : Cl} (h : l[i]? = some b) : (clDs l)[i]? = some (clD b) := by simp [clDs, h]

/-- What layer 11's statements ask of. -/
structure Ask11 where
  C : List Cl
  K : List Tm
  T : List Tm
structure Ask12 where
  K : Ask11
  B : List (List Bd)
  G : List Gd
def Ask11.wf (p : Ask11) : Prop := (lenOk p.C ∧ ∀ c ∈ p.C, c.wf) ∧ (lenOk p.K ∧ Tm.wfs p.K) ∧ (lenOk p.T ∧ Tm.wfs p.T)
def Ask12.wf (p : Ask12) : Prop := p.K.wf ∧ (lenOk p.B ∧ ∀ l ∈ p.B, lenOk l ∧ ∀ b ∈ l, b.wf) ∧ (lenOk p.G ∧ ∀ g ∈ p.G, g.wf)
def a11D (p : Ask11) : List D := [.sl 6 (clDs p.C), .sl 4 (tmDs p.K), .sl 4 (tmDs p.T)]
def bdlDs (l : List (List Bd)) : List (List D) := l.map fun b => [.sl 5 (bdDs b)]
def a12D (p : Ask12) : List D := a11D p.K ++ [.sl 1 (bdlDs p.B), .sl 9 (gdDs p.G)]
theorem bdlDs_length (l : List (List Bd)) : (bdlDs l).length = l.length := by simp [bdlDs]
theorem bdlDs_get {l : List (List Bd)} {i : Nat} {b : List Bd} (h : l[i]? = some b) : (bdlDs l)[i]? = some [.sl 5 (bdDs b)] := by simp [bdlDs, h]
end Go.Proofs.Ytdecgkhdbfgldaa
