/-
  NARROWER THAN 'FOR EVERY INPUT', by the rows' own cells (each row's printed sentence says how): BindSets: loops · BindJoins: loops · GuardNone: loops · GuardLess: loops · GuardMost: loops · GuardSame: loops · GuardOther: loops · GuardKnown: loops · GuardUnknown: loops · FactsKeep: loops · KnownMany: loops · KnownLeast: loops · KnownChains: loops.
  DERIVED. THE GIVEN ROWS OF THIS SEAT. 13 by the template 'for every input the law returns true; each argument reads behind the call as it read before'; 0 by the template 'total and deterministic' (their statements: YtdecgkhdbfgldaaGreatTotals.lean).
  GIVEN WITH THE SEED: the statements are not yours to turn. If you find one false, say at which input.
  Laid BY PROGRAM, IN A SANDBOX (cutbox-rows.mjs): the forced cells as the released guide's own fill.sh prints them over the translation def8e8a8f2b932d1… (all of the seat's roots in one cut). By AI agents, Wed Nov 11 2026. No macro, syntax, notation, axiom, sorry.
-/
import Derived.Test.YtdecgkhdbfgldaaGreatChecked
import GoSem.Claim
import GoSem.ClaimJoined
import GoSem.ClaimMapViews
import Derived.JoinedTies
import Derived.KernelRfl
namespace Go.Proofs.YtdecgkhdbfgldaaGreat
/- THE CELL 'sum', in the pinned program and in every row, IS THE sha256 OF THE DUMP (.gsa) THAT YtdecgkhdbfgldaaGreatProg.lean LOADS. Nothing in Lean hashes anything: it is a label: what it is worth is what the hold of that sum in a sandbox is worth. -/
noncomputable def Tryz.pinned : Pinned := { name := "ytdecgkhdbfgldaagreat", sum := "def8e8a8f2b932d17ce330446259e2d23f884e2cbb9c27628aedec06160b7eaf", checked := Tryz.checked }
namespace Rows
def none {H : Type} : Left H := { results := [], args := [] }

/-- 'almagestlaw2.BindSets': WHATEVER THE INPUT: true; the input reads as it did. -/
def bindSetsSpec : ChangeSpec := { name := "bindSets", fn := fun _ => fun
  | [d] => { results := [.lit (.bool true)], args := [d] }
  | _ => none }
def bindSetsRow : OpenClaim := { program := "ytdecgkhdbfgldaagreat", sum := "def8e8a8f2b932d17ce330446259e2d23f884e2cbb9c27628aedec06160b7eaf", func := "almagest/almagestlaw2.BindSets", spec := "bindSets", inPlace := ["internal/bytealg.abigen_runtime_cmpstring", "slices.overlaps[almagest/api.Bind]"], unfollowed := true, recurses := true, loops := true, plainKeys := false, apart := false }
def BindSetsSaid : Prop := bindSetsRow.holds Tryz.pinned (OpenSpec.ofChange bindSetsSpec)

/-- ITS FALSE NEIGHBOUR: 'it returns false'. Refute it at one input. -/
def bindSetsWrong : ChangeSpec := { name := "bindSets", fn := fun _ => fun
  | [d] => { results := [.lit (.bool false)], args := [d] }
  | _ => none }
def BindSetsWrongFalsely : Prop := bindSetsRow.holds Tryz.pinned (OpenSpec.ofChange bindSetsWrong)

/-- 'almagestlaw2.BindJoins': WHATEVER THE INPUT: true; the input reads as it did. -/
def bindJoinsSpec : ChangeSpec := { name := "bindJoins", fn := fun _ => fun
  | [d] => { results := [.lit (.bool true)], args := [d] }
  | _ => none }
def bindJoinsRow : OpenClaim := { program := "ytdecgkhdbfgldaagreat", sum := "def8e8a8f2b932d17ce330446259e2d23f884e2cbb9c27628aedec06160b7eaf", func := "almagest/almagestlaw2.BindJoins", spec := "bindJoins", inPlace := ["internal/bytealg.abigen_runtime_cmpstring", "slices.overlaps[almagest/api.Bind]"], unfollowed := true, recurses := true, loops := true, plainKeys := false, apart := false }
def BindJoinsSaid : Prop := bindJoinsRow.holds Tryz.pinned (OpenSpec.ofChange bindJoinsSpec)

/-- ITS FALSE NEIGHBOUR: 'it returns false'. Refute it at one input. -/
def bindJoinsWrong : ChangeSpec := { name := "bindJoins", fn := fun _ => fun
  | [d] => { results := [.lit (.bool false)], args := [d] }
  | _ => none }
def BindJoinsWrongFalsely : Prop := bindJoinsRow.holds Tryz.pinned (OpenSpec.ofChange bindJoinsWrong)

/-- 'almagestlaw12.GuardNone': WHATEVER THE INPUT: true; the input reads as it did. -/
def guardNoneSpec : ChangeSpec := { name := "guardNone", fn := fun _ => fun
  | [d] => { results := [.lit (.bool true)], args := [d] }
  | _ => none }
def guardNoneRow : OpenClaim := { program := "ytdecgkhdbfgldaagreat", sum := "def8e8a8f2b932d17ce330446259e2d23f884e2cbb9c27628aedec06160b7eaf", func := "almagest/almagestlaw12.GuardNone", spec := "guardNone", inPlace := ["internal/bytealg.abigen_runtime_cmpstring", "slices.overlaps[almagest/api.Bind]"], unfollowed := true, recurses := true, loops := true, plainKeys := false, apart := false }
def GuardNoneSaid : Prop := guardNoneRow.holds Tryz.pinned (OpenSpec.ofChange guardNoneSpec)

/-- ITS FALSE NEIGHBOUR: 'it returns false'. Refute it at one input. -/
def guardNoneWrong : ChangeSpec := { name := "guardNone", fn := fun _ => fun
  | [d] => { results := [.lit (.bool false)], args := [d] }
  | _ => none }
def GuardNoneWrongFalsely : Prop := guardNoneRow.holds Tryz.pinned (OpenSpec.ofChange guardNoneWrong)

/-- 'almagestlaw12.GuardLess': WHATEVER THE INPUT: true; the input reads as it did. -/
def guardLessSpec : ChangeSpec := { name := "guardLess", fn := fun _ => fun
  | [d] => { results := [.lit (.bool true)], args := [d] }
  | _ => none }
def guardLessRow : OpenClaim := { program := "ytdecgkhdbfgldaagreat", sum := "def8e8a8f2b932d17ce330446259e2d23f884e2cbb9c27628aedec06160b7eaf", func := "almagest/almagestlaw12.GuardLess", spec := "guardLess", inPlace := ["internal/bytealg.abigen_runtime_cmpstring", "slices.overlaps[almagest/api.Bind]"], unfollowed := true, recurses := true, loops := true, plainKeys := false, apart := false }
def GuardLessSaid : Prop := guardLessRow.holds Tryz.pinned (OpenSpec.ofChange guardLessSpec)

/-- ITS FALSE NEIGHBOUR: 'it returns false'. Refute it at one input. -/
def guardLessWrong : ChangeSpec := { name := "guardLess", fn := fun _ => fun
  | [d] => { results := [.lit (.bool false)], args := [d] }
  | _ => none }
def GuardLessWrongFalsely : Prop := guardLessRow.holds Tryz.pinned (OpenSpec.ofChange guardLessWrong)

/-- 'almagestlaw12.GuardMost': WHATEVER THE INPUT: true; the input reads as it did. -/
def guardMostSpec : ChangeSpec := { name := "guardMost", fn := fun _ => fun
  | [d] => { results := [.lit (.bool true)], args := [d] }
  | _ => none }
def guardMostRow : OpenClaim := { program := "ytdecgkhdbfgldaagreat", sum := "def8e8a8f2b932d17ce330446259e2d23f884e2cbb9c27628aedec06160b7eaf", func := "almagest/almagestlaw12.GuardMost", spec := "guardMost", inPlace := ["internal/bytealg.abigen_runtime_cmpstring", "slices.overlaps[almagest/api.Bind]"], unfollowed := true, recurses := true, loops := true, plainKeys := false, apart := false }
def GuardMostSaid : Prop := guardMostRow.holds Tryz.pinned (OpenSpec.ofChange guardMostSpec)

/-- ITS FALSE NEIGHBOUR: 'it returns false'. Refute it at one input. -/
def guardMostWrong : ChangeSpec := { name := "guardMost", fn := fun _ => fun
  | [d] => { results := [.lit (.bool false)], args := [d] }
  | _ => none }
def GuardMostWrongFalsely : Prop := guardMostRow.holds Tryz.pinned (OpenSpec.ofChange guardMostWrong)

/-- 'almagestlaw12.GuardSame': WHATEVER THE INPUT: true; the input reads as it did. -/
def guardSameSpec : ChangeSpec := { name := "guardSame", fn := fun _ => fun
  | [d] => { results := [.lit (.bool true)], args := [d] }
  | _ => none }
def guardSameRow : OpenClaim := { program := "ytdecgkhdbfgldaagreat", sum := "def8e8a8f2b932d17ce330446259e2d23f884e2cbb9c27628aedec06160b7eaf", func := "almagest/almagestlaw12.GuardSame", spec := "guardSame", inPlace := ["internal/bytealg.abigen_runtime_cmpstring", "slices.overlaps[almagest/api.Bind]"], unfollowed := true, recurses := true, loops := true, plainKeys := false, apart := false }
def GuardSameSaid : Prop := guardSameRow.holds Tryz.pinned (OpenSpec.ofChange guardSameSpec)

/-- ITS FALSE NEIGHBOUR: 'it returns false'. Refute it at one input. -/
def guardSameWrong : ChangeSpec := { name := "guardSame", fn := fun _ => fun
  | [d] => { results := [.lit (.bool false)], args := [d] }
  | _ => none }
def GuardSameWrongFalsely : Prop := guardSameRow.holds Tryz.pinned (OpenSpec.ofChange guardSameWrong)

/-- 'almagestlaw12.GuardOther': WHATEVER THE INPUT: true; the input reads as it did. -/
def guardOtherSpec : ChangeSpec := { name := "guardOther", fn := fun _ => fun
  | [d] => { results := [.lit (.bool true)], args := [d] }
  | _ => none }
def guardOtherRow : OpenClaim := { program := "ytdecgkhdbfgldaagreat", sum := "def8e8a8f2b932d17ce330446259e2d23f884e2cbb9c27628aedec06160b7eaf", func := "almagest/almagestlaw12.GuardOther", spec := "guardOther", inPlace := ["internal/bytealg.abigen_runtime_cmpstring", "slices.overlaps[almagest/api.Bind]"], unfollowed := true, recurses := true, loops := true, plainKeys := false, apart := false }
def GuardOtherSaid : Prop := guardOtherRow.holds Tryz.pinned (OpenSpec.ofChange guardOtherSpec)

/-- ITS FALSE NEIGHBOUR: 'it returns false'. Refute it at one input. -/
def guardOtherWrong : ChangeSpec := { name := "guardOther", fn := fun _ => fun
  | [d] => { results := [.lit (.bool false)], args := [d] }
  | _ => none }
def GuardOtherWrongFalsely : Prop := guardOtherRow.holds Tryz.pinned (OpenSpec.ofChange guardOtherWrong)

/-- 'almagestlaw12.GuardKnown': WHATEVER THE INPUT: true; the input reads as it did. -/
def guardKnownSpec : ChangeSpec := { name := "guardKnown", fn := fun _ => fun
  | [d] => { results := [.lit (.bool true)], args := [d] }
  | _ => none }
def guardKnownRow : OpenClaim := { program := "ytdecgkhdbfgldaagreat", sum := "def8e8a8f2b932d17ce330446259e2d23f884e2cbb9c27628aedec06160b7eaf", func := "almagest/almagestlaw12.GuardKnown", spec := "guardKnown", inPlace := ["internal/bytealg.abigen_runtime_cmpstring", "slices.overlaps[almagest/api.Bind]"], unfollowed := true, recurses := true, loops := true, plainKeys := false, apart := false }
def GuardKnownSaid : Prop := guardKnownRow.holds Tryz.pinned (OpenSpec.ofChange guardKnownSpec)

/-- ITS FALSE NEIGHBOUR: 'it returns false'. Refute it at one input. -/
def guardKnownWrong : ChangeSpec := { name := "guardKnown", fn := fun _ => fun
  | [d] => { results := [.lit (.bool false)], args := [d] }
  | _ => none }
def GuardKnownWrongFalsely : Prop := guardKnownRow.holds Tryz.pinned (OpenSpec.ofChange guardKnownWrong)

/-- 'almagestlaw12.GuardUnknown': WHATEVER THE INPUT: true; the input reads as it did. -/
def guardUnknownSpec : ChangeSpec := { name := "guardUnknown", fn := fun _ => fun
  | [d] => { results := [.lit (.bool true)], args := [d] }
  | _ => none }
def guardUnknownRow : OpenClaim := { program := "ytdecgkhdbfgldaagreat", sum := "def8e8a8f2b932d17ce330446259e2d23f884e2cbb9c27628aedec06160b7eaf", func := "almagest/almagestlaw12.GuardUnknown", spec := "guardUnknown", inPlace := ["internal/bytealg.abigen_runtime_cmpstring", "slices.overlaps[almagest/api.Bind]"], unfollowed := true, recurses := true, loops := true, plainKeys := false, apart := false }
def GuardUnknownSaid : Prop := guardUnknownRow.holds Tryz.pinned (OpenSpec.ofChange guardUnknownSpec)

/-- ITS FALSE NEIGHBOUR: 'it returns false'. Refute it at one input. -/
def guardUnknownWrong : ChangeSpec := { name := "guardUnknown", fn := fun _ => fun
  | [d] => { results := [.lit (.bool false)], args := [d] }
  | _ => none }
def GuardUnknownWrongFalsely : Prop := guardUnknownRow.holds Tryz.pinned (OpenSpec.ofChange guardUnknownWrong)

/-- 'almagestlaw9.FactsKeep': WHATEVER THE INPUT: true; the input reads as it did. -/
def factsKeepSpec : ChangeSpec := { name := "factsKeep", fn := fun _ => fun
  | [d] => { results := [.lit (.bool true)], args := [d] }
  | _ => none }
def factsKeepRow : OpenClaim := { program := "ytdecgkhdbfgldaagreat", sum := "def8e8a8f2b932d17ce330446259e2d23f884e2cbb9c27628aedec06160b7eaf", func := "almagest/almagestlaw9.FactsKeep", spec := "factsKeep", inPlace := ["internal/bytealg.abigen_runtime_cmpstring"], unfollowed := true, recurses := true, loops := true, plainKeys := false, apart := false }
def FactsKeepSaid : Prop := factsKeepRow.holds Tryz.pinned (OpenSpec.ofChange factsKeepSpec)

/-- ITS FALSE NEIGHBOUR: 'it returns false'. Refute it at one input. -/
def factsKeepWrong : ChangeSpec := { name := "factsKeep", fn := fun _ => fun
  | [d] => { results := [.lit (.bool false)], args := [d] }
  | _ => none }
def FactsKeepWrongFalsely : Prop := factsKeepRow.holds Tryz.pinned (OpenSpec.ofChange factsKeepWrong)

/-- 'almagestlaw11.KnownMany': WHATEVER THE INPUT: true; the input reads as it did. -/
def knownManySpec : ChangeSpec := { name := "knownMany", fn := fun _ => fun
  | [d] => { results := [.lit (.bool true)], args := [d] }
  | _ => none }
def knownManyRow : OpenClaim := { program := "ytdecgkhdbfgldaagreat", sum := "def8e8a8f2b932d17ce330446259e2d23f884e2cbb9c27628aedec06160b7eaf", func := "almagest/almagestlaw11.KnownMany", spec := "knownMany", inPlace := ["internal/bytealg.abigen_runtime_cmpstring", "slices.overlaps[almagest/api.Bind]"], unfollowed := true, recurses := true, loops := true, plainKeys := false, apart := false }
def KnownManySaid : Prop := knownManyRow.holds Tryz.pinned (OpenSpec.ofChange knownManySpec)

/-- ITS FALSE NEIGHBOUR: 'it returns false'. Refute it at one input. -/
def knownManyWrong : ChangeSpec := { name := "knownMany", fn := fun _ => fun
  | [d] => { results := [.lit (.bool false)], args := [d] }
  | _ => none }
def KnownManyWrongFalsely : Prop := knownManyRow.holds Tryz.pinned (OpenSpec.ofChange knownManyWrong)

/-- 'almagestlaw11.KnownLeast': WHATEVER THE INPUT: true; the input reads as it did. -/
def knownLeastSpec : ChangeSpec := { name := "knownLeast", fn := fun _ => fun
  | [d] => { results := [.lit (.bool true)], args := [d] }
  | _ => none }
def knownLeastRow : OpenClaim := { program := "ytdecgkhdbfgldaagreat", sum := "def8e8a8f2b932d17ce330446259e2d23f884e2cbb9c27628aedec06160b7eaf", func := "almagest/almagestlaw11.KnownLeast", spec := "knownLeast", inPlace := ["internal/bytealg.abigen_runtime_cmpstring", "slices.overlaps[almagest/api.Bind]"], unfollowed := true, recurses := true, loops := true, plainKeys := false, apart := false }
def KnownLeastSaid : Prop := knownLeastRow.holds Tryz.pinned (OpenSpec.ofChange knownLeastSpec)

/-- ITS FALSE NEIGHBOUR: 'it returns false'. Refute it at one input. -/
def knownLeastWrong : ChangeSpec := { name := "knownLeast", fn := fun _ => fun
  | [d] => { results := [.lit (.bool false)], args := [d] }
  | _ => none }
def KnownLeastWrongFalsely : Prop := knownLeastRow.holds Tryz.pinned (OpenSpec.ofChange knownLeastWrong)

/-- 'almagestlaw11.KnownChains': WHATEVER THE INPUT: true; the input reads as it did. -/
def knownChainsSpec : ChangeSpec := { name := "knownChains", fn := fun _ => fun
  | [d] => { results := [.lit (.bool true)], args := [d] }
  | _ => none }
def knownChainsRow : OpenClaim := { program := "ytdecgkhdbfgldaagreat", sum := "def8e8a8f2b932d17ce330446259e2d23f884e2cbb9c27628aedec06160b7eaf", func := "almagest/almagestlaw11.KnownChains", spec := "knownChains", inPlace := ["internal/bytealg.abigen_runtime_cmpstring", "slices.overlaps[almagest/api.Bind]"], unfollowed := true, recurses := true, loops := true, plainKeys := false, apart := false }
def KnownChainsSaid : Prop := knownChainsRow.holds Tryz.pinned (OpenSpec.ofChange knownChainsSpec)

/-- ITS FALSE NEIGHBOUR: 'it returns false'. Refute it at one input. -/
def knownChainsWrong : ChangeSpec := { name := "knownChains", fn := fun _ => fun
  | [d] => { results := [.lit (.bool false)], args := [d] }
  | _ => none }
def KnownChainsWrongFalsely : Prop := knownChainsRow.holds Tryz.pinned (OpenSpec.ofChange knownChainsWrong)

/- THE SECOND FORM. 'bulk': how many values and letters a reading holds, each counted each time it is reached (what is shared counts as often as it is met; a slice's spare places count too). A statement '..UptoSaid' is the law's where the arguments, and the package variables that the reading takes, are together of bulk at most 1048576: NARROWER than '..Said'. Prove '..Said' where nothing that the law and all that it calls make is longer than what came in: it says more and counts as full. Else prove '..UptoSaid'. A law counts once. -/
mutual
def uptoBulk {H : Type} : DataW H → Nat
  | .lit (.string bytes) => bytes.length + 1
  | .lit _ => 1
  | .nil => 1
  | .ptr d => uptoBulk d + 1
  | .slice elems spare => uptoBulkAll elems + uptoBulkAll spare + 1
  | .agg parts => uptoBulkAll parts + 1
  | .iface _ d => uptoBulk d + 1
  | .map entries => uptoBulkEntries entries + 1
  | .held _ => 1
def uptoBulkAll {H : Type} : List (DataW H) → Nat
  | [] => 0
  | d :: r => uptoBulk d + uptoBulkAll r
def uptoBulkEntries {H : Type} : List (Lit × DataW H) → Nat
  | [] => 0
  | x :: r => uptoBulkEntry x + uptoBulkEntries r
def uptoBulkEntry {H : Type} : Lit × DataW H → Nat
  | (.string bytes, d) => bytes.length + uptoBulk d + 1
  | (_, d) => uptoBulk d + 1
 end
def uptoSmall : (H : Type) → List (DataW H) → Bool := fun _ ds => decide (uptoBulkAll ds ≤ 1048576)
def OpenSpec.upto (s : _root_.Go.ChangeSpec) : _root_.Go.OpenSpec := { _root_.Go.OpenSpec.ofChange s with cond := some uptoSmall }

/-- 'almagestlaw2.BindSets', WHERE WHAT IT READS IS OF BULK AT MOST 1048576: true; the input reads as it did. -/
def bindSetsUptoRow : OpenClaim := { program := "ytdecgkhdbfgldaagreat", sum := "def8e8a8f2b932d17ce330446259e2d23f884e2cbb9c27628aedec06160b7eaf", func := "almagest/almagestlaw2.BindSets", spec := "bindSets", inPlace := ["internal/bytealg.abigen_runtime_cmpstring", "slices.overlaps[almagest/api.Bind]"], unfollowed := true, recurses := true, loops := true, plainKeys := false, apart := false, narrowed := true }
def BindSetsUptoSaid : Prop := bindSetsUptoRow.holds Tryz.pinned (OpenSpec.upto bindSetsSpec)

/-- 'almagestlaw2.BindJoins', WHERE WHAT IT READS IS OF BULK AT MOST 1048576: true; the input reads as it did. -/
def bindJoinsUptoRow : OpenClaim := { program := "ytdecgkhdbfgldaagreat", sum := "def8e8a8f2b932d17ce330446259e2d23f884e2cbb9c27628aedec06160b7eaf", func := "almagest/almagestlaw2.BindJoins", spec := "bindJoins", inPlace := ["internal/bytealg.abigen_runtime_cmpstring", "slices.overlaps[almagest/api.Bind]"], unfollowed := true, recurses := true, loops := true, plainKeys := false, apart := false, narrowed := true }
def BindJoinsUptoSaid : Prop := bindJoinsUptoRow.holds Tryz.pinned (OpenSpec.upto bindJoinsSpec)

/-- 'almagestlaw12.GuardNone', WHERE WHAT IT READS IS OF BULK AT MOST 1048576: true; the input reads as it did. -/
def guardNoneUptoRow : OpenClaim := { program := "ytdecgkhdbfgldaagreat", sum := "def8e8a8f2b932d17ce330446259e2d23f884e2cbb9c27628aedec06160b7eaf", func := "almagest/almagestlaw12.GuardNone", spec := "guardNone", inPlace := ["internal/bytealg.abigen_runtime_cmpstring", "slices.overlaps[almagest/api.Bind]"], unfollowed := true, recurses := true, loops := true, plainKeys := false, apart := false, narrowed := true }
def GuardNoneUptoSaid : Prop := guardNoneUptoRow.holds Tryz.pinned (OpenSpec.upto guardNoneSpec)

/-- 'almagestlaw12.GuardLess', WHERE WHAT IT READS IS OF BULK AT MOST 1048576: true; the input reads as it did. -/
def guardLessUptoRow : OpenClaim := { program := "ytdecgkhdbfgldaagreat", sum := "def8e8a8f2b932d17ce330446259e2d23f884e2cbb9c27628aedec06160b7eaf", func := "almagest/almagestlaw12.GuardLess", spec := "guardLess", inPlace := ["internal/bytealg.abigen_runtime_cmpstring", "slices.overlaps[almagest/api.Bind]"], unfollowed := true, recurses := true, loops := true, plainKeys := false, apart := false, narrowed := true }
def GuardLessUptoSaid : Prop := guardLessUptoRow.holds Tryz.pinned (OpenSpec.upto guardLessSpec)

/-- 'almagestlaw12.GuardMost', WHERE WHAT IT READS IS OF BULK AT MOST 1048576: true; the input reads as it did. -/
def guardMostUptoRow : OpenClaim := { program := "ytdecgkhdbfgldaagreat", sum := "def8e8a8f2b932d17ce330446259e2d23f884e2cbb9c27628aedec06160b7eaf", func := "almagest/almagestlaw12.GuardMost", spec := "guardMost", inPlace := ["internal/bytealg.abigen_runtime_cmpstring", "slices.overlaps[almagest/api.Bind]"], unfollowed := true, recurses := true, loops := true, plainKeys := false, apart := false, narrowed := true }
def GuardMostUptoSaid : Prop := guardMostUptoRow.holds Tryz.pinned (OpenSpec.upto guardMostSpec)

/-- 'almagestlaw12.GuardSame', WHERE WHAT IT READS IS OF BULK AT MOST 1048576: true; the input reads as it did. -/
def guardSameUptoRow : OpenClaim := { program := "ytdecgkhdbfgldaagreat", sum := "def8e8a8f2b932d17ce330446259e2d23f884e2cbb9c27628aedec06160b7eaf", func := "almagest/almagestlaw12.GuardSame", spec := "guardSame", inPlace := ["internal/bytealg.abigen_runtime_cmpstring", "slices.overlaps[almagest/api.Bind]"], unfollowed := true, recurses := true, loops := true, plainKeys := false, apart := false, narrowed := true }
def GuardSameUptoSaid : Prop := guardSameUptoRow.holds Tryz.pinned (OpenSpec.upto guardSameSpec)

/-- 'almagestlaw12.GuardOther', WHERE WHAT IT READS IS OF BULK AT MOST 1048576: true; the input reads as it did. -/
def guardOtherUptoRow : OpenClaim := { program := "ytdecgkhdbfgldaagreat", sum := "def8e8a8f2b932d17ce330446259e2d23f884e2cbb9c27628aedec06160b7eaf", func := "almagest/almagestlaw12.GuardOther", spec := "guardOther", inPlace := ["internal/bytealg.abigen_runtime_cmpstring", "slices.overlaps[almagest/api.Bind]"], unfollowed := true, recurses := true, loops := true, plainKeys := false, apart := false, narrowed := true }
def GuardOtherUptoSaid : Prop := guardOtherUptoRow.holds Tryz.pinned (OpenSpec.upto guardOtherSpec)

/-- 'almagestlaw12.GuardKnown', WHERE WHAT IT READS IS OF BULK AT MOST 1048576: true; the input reads as it did. -/
def guardKnownUptoRow : OpenClaim := { program := "ytdecgkhdbfgldaagreat", sum := "def8e8a8f2b932d17ce330446259e2d23f884e2cbb9c27628aedec06160b7eaf", func := "almagest/almagestlaw12.GuardKnown", spec := "guardKnown", inPlace := ["internal/bytealg.abigen_runtime_cmpstring", "slices.overlaps[almagest/api.Bind]"], unfollowed := true, recurses := true, loops := true, plainKeys := false, apart := false, narrowed := true }
def GuardKnownUptoSaid : Prop := guardKnownUptoRow.holds Tryz.pinned (OpenSpec.upto guardKnownSpec)

/-- 'almagestlaw12.GuardUnknown', WHERE WHAT IT READS IS OF BULK AT MOST 1048576: true; the input reads as it did. -/
def guardUnknownUptoRow : OpenClaim := { program := "ytdecgkhdbfgldaagreat", sum := "def8e8a8f2b932d17ce330446259e2d23f884e2cbb9c27628aedec06160b7eaf", func := "almagest/almagestlaw12.GuardUnknown", spec := "guardUnknown", inPlace := ["internal/bytealg.abigen_runtime_cmpstring", "slices.overlaps[almagest/api.Bind]"], unfollowed := true, recurses := true, loops := true, plainKeys := false, apart := false, narrowed := true }
def GuardUnknownUptoSaid : Prop := guardUnknownUptoRow.holds Tryz.pinned (OpenSpec.upto guardUnknownSpec)

/-- 'almagestlaw9.FactsKeep', WHERE WHAT IT READS IS OF BULK AT MOST 1048576: true; the input reads as it did. -/
def factsKeepUptoRow : OpenClaim := { program := "ytdecgkhdbfgldaagreat", sum := "def8e8a8f2b932d17ce330446259e2d23f884e2cbb9c27628aedec06160b7eaf", func := "almagest/almagestlaw9.FactsKeep", spec := "factsKeep", inPlace := ["internal/bytealg.abigen_runtime_cmpstring"], unfollowed := true, recurses := true, loops := true, plainKeys := false, apart := false, narrowed := true }
def FactsKeepUptoSaid : Prop := factsKeepUptoRow.holds Tryz.pinned (OpenSpec.upto factsKeepSpec)

/-- 'almagestlaw11.KnownMany', WHERE WHAT IT READS IS OF BULK AT MOST 1048576: true; the input reads as it did. -/
def knownManyUptoRow : OpenClaim := { program := "ytdecgkhdbfgldaagreat", sum := "def8e8a8f2b932d17ce330446259e2d23f884e2cbb9c27628aedec06160b7eaf", func := "almagest/almagestlaw11.KnownMany", spec := "knownMany", inPlace := ["internal/bytealg.abigen_runtime_cmpstring", "slices.overlaps[almagest/api.Bind]"], unfollowed := true, recurses := true, loops := true, plainKeys := false, apart := false, narrowed := true }
def KnownManyUptoSaid : Prop := knownManyUptoRow.holds Tryz.pinned (OpenSpec.upto knownManySpec)

/-- 'almagestlaw11.KnownLeast', WHERE WHAT IT READS IS OF BULK AT MOST 1048576: true; the input reads as it did. -/
def knownLeastUptoRow : OpenClaim := { program := "ytdecgkhdbfgldaagreat", sum := "def8e8a8f2b932d17ce330446259e2d23f884e2cbb9c27628aedec06160b7eaf", func := "almagest/almagestlaw11.KnownLeast", spec := "knownLeast", inPlace := ["internal/bytealg.abigen_runtime_cmpstring", "slices.overlaps[almagest/api.Bind]"], unfollowed := true, recurses := true, loops := true, plainKeys := false, apart := false, narrowed := true }
def KnownLeastUptoSaid : Prop := knownLeastUptoRow.holds Tryz.pinned (OpenSpec.upto knownLeastSpec)

/-- 'almagestlaw11.KnownChains', WHERE WHAT IT READS IS OF BULK AT MOST 1048576: true; the input reads as it did. -/
def knownChainsUptoRow : OpenClaim := { program := "ytdecgkhdbfgldaagreat", sum := "def8e8a8f2b932d17ce330446259e2d23f884e2cbb9c27628aedec06160b7eaf", func := "almagest/almagestlaw11.KnownChains", spec := "knownChains", inPlace := ["internal/bytealg.abigen_runtime_cmpstring", "slices.overlaps[almagest/api.Bind]"], unfollowed := true, recurses := true, loops := true, plainKeys := false, apart := false, narrowed := true }
def KnownChainsUptoSaid : Prop := knownChainsUptoRow.holds Tryz.pinned (OpenSpec.upto knownChainsSpec)

end Rows
end Go.Proofs.YtdecgkhdbfgldaaGreat
