/-
  NARROWER THAN 'FOR EVERY INPUT', by the rows' own cells (each row's printed sentence says how): GuardCompares: loops · FactsOrder: loops · UnifyOccurs: loops · UnifyDeep: loops · BindTwice: loops · UnifyAlike: loops · FactsAdded: loops.
  DERIVED. THE GIVEN ROWS OF THIS SEAT. 7 by the template 'for every input the law returns true; each argument reads behind the call as it read before'; 0 by the template 'total and deterministic' (their statements: YtdecgkhdbfgldaaTotals.lean).
  GIVEN WITH THE SEED: the statements are not yours to turn. If you find one false, say at which input.
  Laid BY PROGRAM, IN A SANDBOX (cutbox-rows.mjs): the forced cells as the released guide's own fill.sh prints them over the translation db7e613f94061fd6… (all of the seat's roots in one cut). By AI agents, Wed Nov 11 2026. No macro, syntax, notation, axiom, sorry.
-/
import Derived.Test.YtdecgkhdbfgldaaChecked
import GoSem.Claim
import GoSem.ClaimJoined
import GoSem.ClaimMapViews
import Derived.JoinedTies
import Derived.KernelRfl
namespace Go.Proofs.Ytdecgkhdbfgldaa
/- THE CELL 'sum', in the pinned program and in every row, IS THE sha256 OF THE DUMP (.gsa) THAT YtdecgkhdbfgldaaProg.lean LOADS. Nothing in Lean hashes anything: it is a label: what it is worth is what the hold of that sum in a sandbox is worth. -/
noncomputable def Try.pinned : Pinned := { name := "ytdecgkhdbfgldaa", sum := "db7e613f94061fd6660cb8259fb16b08c7ade86812959aed477908fcd4babcb9", checked := Try.checked }
namespace Rows
def none {H : Type} : Left H := { results := [], args := [] }

/-- 'almagestlaw12.GuardCompares': WHATEVER THE INPUT: true; the input reads as it did. -/
def guardComparesSpec : ChangeSpec := { name := "guardCompares", fn := fun _ => fun
  | [d] => { results := [.lit (.bool true)], args := [d] }
  | _ => none }
def guardComparesRow : OpenClaim := { program := "ytdecgkhdbfgldaa", sum := "db7e613f94061fd6660cb8259fb16b08c7ade86812959aed477908fcd4babcb9", func := "almagest/almagestlaw12.GuardCompares", spec := "guardCompares", inPlace := ["internal/bytealg.abigen_runtime_cmpstring"], unfollowed := true, recurses := true, loops := true, plainKeys := false, apart := false }
def GuardComparesSaid : Prop := guardComparesRow.holds Try.pinned (OpenSpec.ofChange guardComparesSpec)

/-- ITS FALSE NEIGHBOUR: 'it returns false'. Refute it at one input. -/
def guardComparesWrong : ChangeSpec := { name := "guardCompares", fn := fun _ => fun
  | [d] => { results := [.lit (.bool false)], args := [d] }
  | _ => none }
def GuardComparesWrongFalsely : Prop := guardComparesRow.holds Try.pinned (OpenSpec.ofChange guardComparesWrong)

/-- 'almagestlaw9.FactsOrder': WHATEVER THE INPUT: true; the input reads as it did. -/
def factsOrderSpec : ChangeSpec := { name := "factsOrder", fn := fun _ => fun
  | [d] => { results := [.lit (.bool true)], args := [d] }
  | _ => none }
def factsOrderRow : OpenClaim := { program := "ytdecgkhdbfgldaa", sum := "db7e613f94061fd6660cb8259fb16b08c7ade86812959aed477908fcd4babcb9", func := "almagest/almagestlaw9.FactsOrder", spec := "factsOrder", inPlace := ["internal/bytealg.abigen_runtime_cmpstring"], unfollowed := true, recurses := true, loops := true, plainKeys := false, apart := false }
def FactsOrderSaid : Prop := factsOrderRow.holds Try.pinned (OpenSpec.ofChange factsOrderSpec)

/-- ITS FALSE NEIGHBOUR: 'it returns false'. Refute it at one input. -/
def factsOrderWrong : ChangeSpec := { name := "factsOrder", fn := fun _ => fun
  | [d] => { results := [.lit (.bool false)], args := [d] }
  | _ => none }
def FactsOrderWrongFalsely : Prop := factsOrderRow.holds Try.pinned (OpenSpec.ofChange factsOrderWrong)

/-- 'almagestlaw3.UnifyOccurs': WHATEVER THE INPUT: true; the input reads as it did. -/
def unifyOccursSpec : ChangeSpec := { name := "unifyOccurs", fn := fun _ => fun
  | [d] => { results := [.lit (.bool true)], args := [d] }
  | _ => none }
def unifyOccursRow : OpenClaim := { program := "ytdecgkhdbfgldaa", sum := "db7e613f94061fd6660cb8259fb16b08c7ade86812959aed477908fcd4babcb9", func := "almagest/almagestlaw3.UnifyOccurs", spec := "unifyOccurs", inPlace := ["internal/bytealg.abigen_runtime_cmpstring", "slices.overlaps[almagest/api.Bind]"], unfollowed := true, recurses := true, loops := true, plainKeys := false, apart := false }
def UnifyOccursSaid : Prop := unifyOccursRow.holds Try.pinned (OpenSpec.ofChange unifyOccursSpec)

/-- ITS FALSE NEIGHBOUR: 'it returns false'. Refute it at one input. -/
def unifyOccursWrong : ChangeSpec := { name := "unifyOccurs", fn := fun _ => fun
  | [d] => { results := [.lit (.bool false)], args := [d] }
  | _ => none }
def UnifyOccursWrongFalsely : Prop := unifyOccursRow.holds Try.pinned (OpenSpec.ofChange unifyOccursWrong)

/-- 'almagestlaw3.UnifyDeep': WHATEVER THE INPUT: true; the input reads as it did. -/
def unifyDeepSpec : ChangeSpec := { name := "unifyDeep", fn := fun _ => fun
  | [d] => { results := [.lit (.bool true)], args := [d] }
  | _ => none }
def unifyDeepRow : OpenClaim := { program := "ytdecgkhdbfgldaa", sum := "db7e613f94061fd6660cb8259fb16b08c7ade86812959aed477908fcd4babcb9", func := "almagest/almagestlaw3.UnifyDeep", spec := "unifyDeep", inPlace := ["internal/bytealg.abigen_runtime_cmpstring", "slices.overlaps[almagest/api.Bind]"], unfollowed := true, recurses := true, loops := true, plainKeys := false, apart := false }
def UnifyDeepSaid : Prop := unifyDeepRow.holds Try.pinned (OpenSpec.ofChange unifyDeepSpec)

/-- ITS FALSE NEIGHBOUR: 'it returns false'. Refute it at one input. -/
def unifyDeepWrong : ChangeSpec := { name := "unifyDeep", fn := fun _ => fun
  | [d] => { results := [.lit (.bool false)], args := [d] }
  | _ => none }
def UnifyDeepWrongFalsely : Prop := unifyDeepRow.holds Try.pinned (OpenSpec.ofChange unifyDeepWrong)

/-- 'almagestlaw2.BindTwice': WHATEVER THE INPUT: true; the input reads as it did. -/
def bindTwiceSpec : ChangeSpec := { name := "bindTwice", fn := fun _ => fun
  | [d] => { results := [.lit (.bool true)], args := [d] }
  | _ => none }
def bindTwiceRow : OpenClaim := { program := "ytdecgkhdbfgldaa", sum := "db7e613f94061fd6660cb8259fb16b08c7ade86812959aed477908fcd4babcb9", func := "almagest/almagestlaw2.BindTwice", spec := "bindTwice", inPlace := ["internal/bytealg.abigen_runtime_cmpstring", "slices.overlaps[almagest/api.Bind]"], unfollowed := true, recurses := true, loops := true, plainKeys := false, apart := false }
def BindTwiceSaid : Prop := bindTwiceRow.holds Try.pinned (OpenSpec.ofChange bindTwiceSpec)

/-- ITS FALSE NEIGHBOUR: 'it returns false'. Refute it at one input. -/
def bindTwiceWrong : ChangeSpec := { name := "bindTwice", fn := fun _ => fun
  | [d] => { results := [.lit (.bool false)], args := [d] }
  | _ => none }
def BindTwiceWrongFalsely : Prop := bindTwiceRow.holds Try.pinned (OpenSpec.ofChange bindTwiceWrong)

/-- 'almagestlaw3.UnifyAlike': WHATEVER THE INPUT: true; the input reads as it did. -/
def unifyAlikeSpec : ChangeSpec := { name := "unifyAlike", fn := fun _ => fun
  | [d] => { results := [.lit (.bool true)], args := [d] }
  | _ => none }
def unifyAlikeRow : OpenClaim := { program := "ytdecgkhdbfgldaa", sum := "db7e613f94061fd6660cb8259fb16b08c7ade86812959aed477908fcd4babcb9", func := "almagest/almagestlaw3.UnifyAlike", spec := "unifyAlike", inPlace := ["internal/bytealg.abigen_runtime_cmpstring", "slices.overlaps[almagest/api.Bind]"], unfollowed := true, recurses := true, loops := true, plainKeys := false, apart := false }
def UnifyAlikeSaid : Prop := unifyAlikeRow.holds Try.pinned (OpenSpec.ofChange unifyAlikeSpec)

/-- ITS FALSE NEIGHBOUR: 'it returns false'. Refute it at one input. -/
def unifyAlikeWrong : ChangeSpec := { name := "unifyAlike", fn := fun _ => fun
  | [d] => { results := [.lit (.bool false)], args := [d] }
  | _ => none }
def UnifyAlikeWrongFalsely : Prop := unifyAlikeRow.holds Try.pinned (OpenSpec.ofChange unifyAlikeWrong)

/-- 'almagestlaw9.FactsAdded': WHATEVER THE INPUT: true; the input reads as it did. -/
def factsAddedSpec : ChangeSpec := { name := "factsAdded", fn := fun _ => fun
  | [d] => { results := [.lit (.bool true)], args := [d] }
  | _ => none }
def factsAddedRow : OpenClaim := { program := "ytdecgkhdbfgldaa", sum := "db7e613f94061fd6660cb8259fb16b08c7ade86812959aed477908fcd4babcb9", func := "almagest/almagestlaw9.FactsAdded", spec := "factsAdded", inPlace := ["internal/bytealg.abigen_runtime_cmpstring"], unfollowed := true, recurses := true, loops := true, plainKeys := false, apart := false }
def FactsAddedSaid : Prop := factsAddedRow.holds Try.pinned (OpenSpec.ofChange factsAddedSpec)

/-- ITS FALSE NEIGHBOUR: 'it returns false'. Refute it at one input. -/
def factsAddedWrong : ChangeSpec := { name := "factsAdded", fn := fun _ => fun
  | [d] => { results := [.lit (.bool false)], args := [d] }
  | _ => none }
def FactsAddedWrongFalsely : Prop := factsAddedRow.holds Try.pinned (OpenSpec.ofChange factsAddedWrong)

/- THE SECOND FORM. 'bulk': how many values and letters a reading holds, each counted each time it is reached (what is shared counts as often as it is met; a slice's spare places count too). A statement '..UptoSaid' is the law's where the arguments, and the package variables that the reading takes, are together of bulk at most 1048576: NARROWER than '..Said'. Prove '..Said' where nothing that the law and all that it calls make is longer than what came in: it says more and counts as full. Else prove '..UptoSaid'. A law counts once. -/
mutual
def uptoBulk {H : Type} : DataW H → Nat
  | .lit (.string bytes) => bytes.length + 1
  | .lit _ => 1
  | .nil => 1
  | .ptr d => uptoBulk d + 1
  | .slice elems spare => uptoBulkAll elems + uptoBulkAll spare + 1
  | .agg parts => uptoBulkAll parts + 1
  | .iface _ d => uptoBulk d + 1
  | .map entries => uptoBulkEntries entries + 1
  | .held _ => 1
def uptoBulkAll {H : Type} : List (DataW H) → Nat
  | [] => 0
  | d :: r => uptoBulk d + uptoBulkAll r
def uptoBulkEntries {H : Type} : List (Lit × DataW H) → Nat
  | [] => 0
  | x :: r => uptoBulkEntry x + uptoBulkEntries r
def uptoBulkEntry {H : Type} : Lit × DataW H → Nat
  | (.string bytes, d) => bytes.length + uptoBulk d + 1
  | (_, d) => uptoBulk d + 1
 end
def uptoSmall : (H : Type) → List (DataW H) → Bool := fun _ ds => decide (uptoBulkAll ds ≤ 1048576)
def OpenSpec.upto (s : _root_.Go.ChangeSpec) : _root_.Go.OpenSpec := { _root_.Go.OpenSpec.ofChange s with cond := some uptoSmall }

/-- 'almagestlaw12.GuardCompares', WHERE WHAT IT READS IS OF BULK AT MOST 1048576: true; the input reads as it did. -/
def guardComparesUptoRow : OpenClaim := { program := "ytdecgkhdbfgldaa", sum := "db7e613f94061fd6660cb8259fb16b08c7ade86812959aed477908fcd4babcb9", func := "almagest/almagestlaw12.GuardCompares", spec := "guardCompares", inPlace := ["internal/bytealg.abigen_runtime_cmpstring"], unfollowed := true, recurses := true, loops := true, plainKeys := false, apart := false, narrowed := true }
def GuardComparesUptoSaid : Prop := guardComparesUptoRow.holds Try.pinned (OpenSpec.upto guardComparesSpec)

/-- 'almagestlaw9.FactsOrder', WHERE WHAT IT READS IS OF BULK AT MOST 1048576: true; the input reads as it did. -/
def factsOrderUptoRow : OpenClaim := { program := "ytdecgkhdbfgldaa", sum := "db7e613f94061fd6660cb8259fb16b08c7ade86812959aed477908fcd4babcb9", func := "almagest/almagestlaw9.FactsOrder", spec := "factsOrder", inPlace := ["internal/bytealg.abigen_runtime_cmpstring"], unfollowed := true, recurses := true, loops := true, plainKeys := false, apart := false, narrowed := true }
def FactsOrderUptoSaid : Prop := factsOrderUptoRow.holds Try.pinned (OpenSpec.upto factsOrderSpec)

/-- 'almagestlaw3.UnifyOccurs', WHERE WHAT IT READS IS OF BULK AT MOST 1048576: true; the input reads as it did. -/
def unifyOccursUptoRow : OpenClaim := { program := "ytdecgkhdbfgldaa", sum := "db7e613f94061fd6660cb8259fb16b08c7ade86812959aed477908fcd4babcb9", func := "almagest/almagestlaw3.UnifyOccurs", spec := "unifyOccurs", inPlace := ["internal/bytealg.abigen_runtime_cmpstring", "slices.overlaps[almagest/api.Bind]"], unfollowed := true, recurses := true, loops := true, plainKeys := false, apart := false, narrowed := true }
def UnifyOccursUptoSaid : Prop := unifyOccursUptoRow.holds Try.pinned (OpenSpec.upto unifyOccursSpec)

/-- 'almagestlaw3.UnifyDeep', WHERE WHAT IT READS IS OF BULK AT MOST 1048576: true; the input reads as it did. -/
def unifyDeepUptoRow : OpenClaim := { program := "ytdecgkhdbfgldaa", sum := "db7e613f94061fd6660cb8259fb16b08c7ade86812959aed477908fcd4babcb9", func := "almagest/almagestlaw3.UnifyDeep", spec := "unifyDeep", inPlace := ["internal/bytealg.abigen_runtime_cmpstring", "slices.overlaps[almagest/api.Bind]"], unfollowed := true, recurses := true, loops := true, plainKeys := false, apart := false, narrowed := true }
def UnifyDeepUptoSaid : Prop := unifyDeepUptoRow.holds Try.pinned (OpenSpec.upto unifyDeepSpec)

/-- 'almagestlaw2.BindTwice', WHERE WHAT IT READS IS OF BULK AT MOST 1048576: true; the input reads as it did. -/
def bindTwiceUptoRow : OpenClaim := { program := "ytdecgkhdbfgldaa", sum := "db7e613f94061fd6660cb8259fb16b08c7ade86812959aed477908fcd4babcb9", func := "almagest/almagestlaw2.BindTwice", spec := "bindTwice", inPlace := ["internal/bytealg.abigen_runtime_cmpstring", "slices.overlaps[almagest/api.Bind]"], unfollowed := true, recurses := true, loops := true, plainKeys := false, apart := false, narrowed := true }
def BindTwiceUptoSaid : Prop := bindTwiceUptoRow.holds Try.pinned (OpenSpec.upto bindTwiceSpec)

/-- 'almagestlaw3.UnifyAlike', WHERE WHAT IT READS IS OF BULK AT MOST 1048576: true; the input reads as it did. -/
def unifyAlikeUptoRow : OpenClaim := { program := "ytdecgkhdbfgldaa", sum := "db7e613f94061fd6660cb8259fb16b08c7ade86812959aed477908fcd4babcb9", func := "almagest/almagestlaw3.UnifyAlike", spec := "unifyAlike", inPlace := ["internal/bytealg.abigen_runtime_cmpstring", "slices.overlaps[almagest/api.Bind]"], unfollowed := true, recurses := true, loops := true, plainKeys := false, apart := false, narrowed := true }
def UnifyAlikeUptoSaid : Prop := unifyAlikeUptoRow.holds Try.pinned (OpenSpec.upto unifyAlikeSpec)

/-- 'almagestlaw9.FactsAdded', WHERE WHAT IT READS IS OF BULK AT MOST 1048576: true; the input reads as it did. -/
def factsAddedUptoRow : OpenClaim := { program := "ytdecgkhdbfgldaa", sum := "db7e613f94061fd6660cb8259fb16b08c7ade86812959aed477908fcd4babcb9", func := "almagest/almagestlaw9.FactsAdded", spec := "factsAdded", inPlace := ["internal/bytealg.abigen_runtime_cmpstring"], unfollowed := true, recurses := true, loops := true, plainKeys := false, apart := false, narrowed := true }
def FactsAddedUptoSaid : Prop := factsAddedUptoRow.holds Try.pinned (OpenSpec.upto factsAddedSpec)

end Rows
end Go.Proofs.Ytdecgkhdbfgldaa
