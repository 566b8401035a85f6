/-
  NARROWER THAN 'FOR EVERY INPUT', by the rows' own cells (each row's printed sentence says how): RuleAmong: loops · MeetRows: loops · MeetBoths: loops · MeetOrs: loops · MeetRels: loops · StoreDrops: loops · StoreMatches: loops · StoreRows: loops · StoreBoths: loops · StoreOrs: loops · StoreNots: loops · StoreRels: loops · RuleBoths: loops · RuleNots: loops · RuleRels: loops.
  DERIVED. THE GIVEN ROWS OF THIS SEAT. 15 by the template 'for every input the law returns true; each argument reads behind the call as it read before'; 0 by the template 'total and deterministic' (their statements: YtpgceiijoedppaaGreatTotals.lean).
  GIVEN WITH THE SEED: the statements are not yours to turn. If you find one false, say at which input.
  Laid BY PROGRAM, IN A SANDBOX (cutbox-rows.mjs): the forced cells as the released guide's own fill.sh prints them over the translation 9f228ccd4fb2d096… (all of the seat's roots in one cut). By AI agents, Wed Nov 11 2026. No macro, syntax, notation, axiom, sorry.
-/
import Derived.Test.YtpgceiijoedppaaGreatChecked
import GoSem.Claim
import GoSem.ClaimJoined
import GoSem.ClaimMapViews
import Derived.JoinedTies
import Derived.KernelRfl
namespace Go.Proofs.YtpgceiijoedppaaGreat
/- THE CELL 'sum', in the pinned program and in every row, IS THE sha256 OF THE DUMP (.gsa) THAT YtpgceiijoedppaaGreatProg.lean LOADS. Nothing in Lean hashes anything: it is a label: what it is worth is what the hold of that sum in a sandbox is worth. -/
noncomputable def Tryz.pinned : Pinned := { name := "ytpgceiijoedppaagreat", sum := "9f228ccd4fb2d096078f38e45e165f9dde12960cf728f275c72c00128623f946", checked := Tryz.checked }
namespace Rows
def none {H : Type} : Left H := { results := [], args := [] }

/-- 'almagestlaw14.RuleAmong': WHATEVER THE INPUT: true; the input reads as it did. -/
def ruleAmongSpec : ChangeSpec := { name := "ruleAmong", fn := fun _ => fun
  | [d] => { results := [.lit (.bool true)], args := [d] }
  | _ => none }
def ruleAmongRow : OpenClaim := { program := "ytpgceiijoedppaagreat", sum := "9f228ccd4fb2d096078f38e45e165f9dde12960cf728f275c72c00128623f946", func := "almagest/almagestlaw14.RuleAmong", spec := "ruleAmong", inPlace := ["internal/bytealg.abigen_runtime_cmpstring"], unfollowed := true, recurses := true, loops := true, plainKeys := false, apart := false }
def RuleAmongSaid : Prop := ruleAmongRow.holds Tryz.pinned (OpenSpec.ofChange ruleAmongSpec)

/-- ITS FALSE NEIGHBOUR: 'it returns false'. Refute it at one input. -/
def ruleAmongWrong : ChangeSpec := { name := "ruleAmong", fn := fun _ => fun
  | [d] => { results := [.lit (.bool false)], args := [d] }
  | _ => none }
def RuleAmongWrongFalsely : Prop := ruleAmongRow.holds Tryz.pinned (OpenSpec.ofChange ruleAmongWrong)

/-- 'almagestlaw13.MeetRows': WHATEVER THE INPUT: true; the input reads as it did. -/
def meetRowsSpec : ChangeSpec := { name := "meetRows", fn := fun _ => fun
  | [d] => { results := [.lit (.bool true)], args := [d] }
  | _ => none }
def meetRowsRow : OpenClaim := { program := "ytpgceiijoedppaagreat", sum := "9f228ccd4fb2d096078f38e45e165f9dde12960cf728f275c72c00128623f946", func := "almagest/almagestlaw13.MeetRows", spec := "meetRows", inPlace := ["internal/bytealg.abigen_runtime_cmpstring", "slices.overlaps[almagest/api.Bind]"], unfollowed := true, recurses := true, loops := true, plainKeys := false, apart := false }
def MeetRowsSaid : Prop := meetRowsRow.holds Tryz.pinned (OpenSpec.ofChange meetRowsSpec)

/-- ITS FALSE NEIGHBOUR: 'it returns false'. Refute it at one input. -/
def meetRowsWrong : ChangeSpec := { name := "meetRows", fn := fun _ => fun
  | [d] => { results := [.lit (.bool false)], args := [d] }
  | _ => none }
def MeetRowsWrongFalsely : Prop := meetRowsRow.holds Tryz.pinned (OpenSpec.ofChange meetRowsWrong)

/-- 'almagestlaw13.MeetBoths': WHATEVER THE INPUT: true; the input reads as it did. -/
def meetBothsSpec : ChangeSpec := { name := "meetBoths", fn := fun _ => fun
  | [d] => { results := [.lit (.bool true)], args := [d] }
  | _ => none }
def meetBothsRow : OpenClaim := { program := "ytpgceiijoedppaagreat", sum := "9f228ccd4fb2d096078f38e45e165f9dde12960cf728f275c72c00128623f946", func := "almagest/almagestlaw13.MeetBoths", spec := "meetBoths", inPlace := ["internal/bytealg.abigen_runtime_cmpstring", "slices.overlaps[almagest/api.Bind]"], unfollowed := true, recurses := true, loops := true, plainKeys := false, apart := false }
def MeetBothsSaid : Prop := meetBothsRow.holds Tryz.pinned (OpenSpec.ofChange meetBothsSpec)

/-- ITS FALSE NEIGHBOUR: 'it returns false'. Refute it at one input. -/
def meetBothsWrong : ChangeSpec := { name := "meetBoths", fn := fun _ => fun
  | [d] => { results := [.lit (.bool false)], args := [d] }
  | _ => none }
def MeetBothsWrongFalsely : Prop := meetBothsRow.holds Tryz.pinned (OpenSpec.ofChange meetBothsWrong)

/-- 'almagestlaw13.MeetOrs': WHATEVER THE INPUT: true; the input reads as it did. -/
def meetOrsSpec : ChangeSpec := { name := "meetOrs", fn := fun _ => fun
  | [d] => { results := [.lit (.bool true)], args := [d] }
  | _ => none }
def meetOrsRow : OpenClaim := { program := "ytpgceiijoedppaagreat", sum := "9f228ccd4fb2d096078f38e45e165f9dde12960cf728f275c72c00128623f946", func := "almagest/almagestlaw13.MeetOrs", spec := "meetOrs", inPlace := ["internal/bytealg.abigen_runtime_cmpstring", "slices.overlaps[almagest/api.Bind]"], unfollowed := true, recurses := true, loops := true, plainKeys := false, apart := false }
def MeetOrsSaid : Prop := meetOrsRow.holds Tryz.pinned (OpenSpec.ofChange meetOrsSpec)

/-- ITS FALSE NEIGHBOUR: 'it returns false'. Refute it at one input. -/
def meetOrsWrong : ChangeSpec := { name := "meetOrs", fn := fun _ => fun
  | [d] => { results := [.lit (.bool false)], args := [d] }
  | _ => none }
def MeetOrsWrongFalsely : Prop := meetOrsRow.holds Tryz.pinned (OpenSpec.ofChange meetOrsWrong)

/-- 'almagestlaw13.MeetRels': WHATEVER THE INPUT: true; the input reads as it did. -/
def meetRelsSpec : ChangeSpec := { name := "meetRels", fn := fun _ => fun
  | [d] => { results := [.lit (.bool true)], args := [d] }
  | _ => none }
def meetRelsRow : OpenClaim := { program := "ytpgceiijoedppaagreat", sum := "9f228ccd4fb2d096078f38e45e165f9dde12960cf728f275c72c00128623f946", func := "almagest/almagestlaw13.MeetRels", spec := "meetRels", inPlace := ["internal/bytealg.abigen_runtime_cmpstring", "slices.overlaps[almagest/api.Bind]"], unfollowed := true, recurses := true, loops := true, plainKeys := false, apart := false }
def MeetRelsSaid : Prop := meetRelsRow.holds Tryz.pinned (OpenSpec.ofChange meetRelsSpec)

/-- ITS FALSE NEIGHBOUR: 'it returns false'. Refute it at one input. -/
def meetRelsWrong : ChangeSpec := { name := "meetRels", fn := fun _ => fun
  | [d] => { results := [.lit (.bool false)], args := [d] }
  | _ => none }
def MeetRelsWrongFalsely : Prop := meetRelsRow.holds Tryz.pinned (OpenSpec.ofChange meetRelsWrong)

/-- 'almagestlaw17.StoreDrops': WHATEVER THE INPUT: true; the input reads as it did. -/
def storeDropsSpec : ChangeSpec := { name := "storeDrops", fn := fun _ => fun
  | [d] => { results := [.lit (.bool true)], args := [d] }
  | _ => none }
def storeDropsRow : OpenClaim := { program := "ytpgceiijoedppaagreat", sum := "9f228ccd4fb2d096078f38e45e165f9dde12960cf728f275c72c00128623f946", func := "almagest/almagestlaw17.StoreDrops", spec := "storeDrops", inPlace := ["internal/bytealg.abigen_runtime_cmpstring", "slices.overlaps[almagest/api.Bind]"], unfollowed := true, recurses := true, loops := true, plainKeys := false, apart := false }
def StoreDropsSaid : Prop := storeDropsRow.holds Tryz.pinned (OpenSpec.ofChange storeDropsSpec)

/-- ITS FALSE NEIGHBOUR: 'it returns false'. Refute it at one input. -/
def storeDropsWrong : ChangeSpec := { name := "storeDrops", fn := fun _ => fun
  | [d] => { results := [.lit (.bool false)], args := [d] }
  | _ => none }
def StoreDropsWrongFalsely : Prop := storeDropsRow.holds Tryz.pinned (OpenSpec.ofChange storeDropsWrong)

/-- 'almagestlaw17.StoreMatches': WHATEVER THE INPUT: true; the input reads as it did. -/
def storeMatchesSpec : ChangeSpec := { name := "storeMatches", fn := fun _ => fun
  | [d] => { results := [.lit (.bool true)], args := [d] }
  | _ => none }
def storeMatchesRow : OpenClaim := { program := "ytpgceiijoedppaagreat", sum := "9f228ccd4fb2d096078f38e45e165f9dde12960cf728f275c72c00128623f946", func := "almagest/almagestlaw17.StoreMatches", spec := "storeMatches", inPlace := ["internal/bytealg.abigen_runtime_cmpstring", "slices.overlaps[almagest/api.Bind]"], unfollowed := true, recurses := true, loops := true, plainKeys := false, apart := false }
def StoreMatchesSaid : Prop := storeMatchesRow.holds Tryz.pinned (OpenSpec.ofChange storeMatchesSpec)

/-- ITS FALSE NEIGHBOUR: 'it returns false'. Refute it at one input. -/
def storeMatchesWrong : ChangeSpec := { name := "storeMatches", fn := fun _ => fun
  | [d] => { results := [.lit (.bool false)], args := [d] }
  | _ => none }
def StoreMatchesWrongFalsely : Prop := storeMatchesRow.holds Tryz.pinned (OpenSpec.ofChange storeMatchesWrong)

/-- 'almagestlaw17.StoreRows': WHATEVER THE INPUT: true; the input reads as it did. -/
def storeRowsSpec : ChangeSpec := { name := "storeRows", fn := fun _ => fun
  | [d] => { results := [.lit (.bool true)], args := [d] }
  | _ => none }
def storeRowsRow : OpenClaim := { program := "ytpgceiijoedppaagreat", sum := "9f228ccd4fb2d096078f38e45e165f9dde12960cf728f275c72c00128623f946", func := "almagest/almagestlaw17.StoreRows", spec := "storeRows", inPlace := ["internal/bytealg.abigen_runtime_cmpstring", "slices.overlaps[almagest/api.Bind]"], unfollowed := true, recurses := true, loops := true, plainKeys := false, apart := false }
def StoreRowsSaid : Prop := storeRowsRow.holds Tryz.pinned (OpenSpec.ofChange storeRowsSpec)

/-- ITS FALSE NEIGHBOUR: 'it returns false'. Refute it at one input. -/
def storeRowsWrong : ChangeSpec := { name := "storeRows", fn := fun _ => fun
  | [d] => { results := [.lit (.bool false)], args := [d] }
  | _ => none }
def StoreRowsWrongFalsely : Prop := storeRowsRow.holds Tryz.pinned (OpenSpec.ofChange storeRowsWrong)

/-- 'almagestlaw17.StoreBoths': WHATEVER THE INPUT: true; the input reads as it did. -/
def storeBothsSpec : ChangeSpec := { name := "storeBoths", fn := fun _ => fun
  | [d] => { results := [.lit (.bool true)], args := [d] }
  | _ => none }
def storeBothsRow : OpenClaim := { program := "ytpgceiijoedppaagreat", sum := "9f228ccd4fb2d096078f38e45e165f9dde12960cf728f275c72c00128623f946", func := "almagest/almagestlaw17.StoreBoths", spec := "storeBoths", inPlace := ["internal/bytealg.abigen_runtime_cmpstring", "slices.overlaps[almagest/api.Bind]"], unfollowed := true, recurses := true, loops := true, plainKeys := false, apart := false }
def StoreBothsSaid : Prop := storeBothsRow.holds Tryz.pinned (OpenSpec.ofChange storeBothsSpec)

/-- ITS FALSE NEIGHBOUR: 'it returns false'. Refute it at one input. -/
def storeBothsWrong : ChangeSpec := { name := "storeBoths", fn := fun _ => fun
  | [d] => { results := [.lit (.bool false)], args := [d] }
  | _ => none }
def StoreBothsWrongFalsely : Prop := storeBothsRow.holds Tryz.pinned (OpenSpec.ofChange storeBothsWrong)

/-- 'almagestlaw17.StoreOrs': WHATEVER THE INPUT: true; the input reads as it did. -/
def storeOrsSpec : ChangeSpec := { name := "storeOrs", fn := fun _ => fun
  | [d] => { results := [.lit (.bool true)], args := [d] }
  | _ => none }
def storeOrsRow : OpenClaim := { program := "ytpgceiijoedppaagreat", sum := "9f228ccd4fb2d096078f38e45e165f9dde12960cf728f275c72c00128623f946", func := "almagest/almagestlaw17.StoreOrs", spec := "storeOrs", inPlace := ["internal/bytealg.abigen_runtime_cmpstring", "slices.overlaps[almagest/api.Bind]"], unfollowed := true, recurses := true, loops := true, plainKeys := false, apart := false }
def StoreOrsSaid : Prop := storeOrsRow.holds Tryz.pinned (OpenSpec.ofChange storeOrsSpec)

/-- ITS FALSE NEIGHBOUR: 'it returns false'. Refute it at one input. -/
def storeOrsWrong : ChangeSpec := { name := "storeOrs", fn := fun _ => fun
  | [d] => { results := [.lit (.bool false)], args := [d] }
  | _ => none }
def StoreOrsWrongFalsely : Prop := storeOrsRow.holds Tryz.pinned (OpenSpec.ofChange storeOrsWrong)

/-- 'almagestlaw17.StoreNots': WHATEVER THE INPUT: true; the input reads as it did. -/
def storeNotsSpec : ChangeSpec := { name := "storeNots", fn := fun _ => fun
  | [d] => { results := [.lit (.bool true)], args := [d] }
  | _ => none }
def storeNotsRow : OpenClaim := { program := "ytpgceiijoedppaagreat", sum := "9f228ccd4fb2d096078f38e45e165f9dde12960cf728f275c72c00128623f946", func := "almagest/almagestlaw17.StoreNots", spec := "storeNots", inPlace := ["internal/bytealg.abigen_runtime_cmpstring", "slices.overlaps[almagest/api.Bind]"], unfollowed := true, recurses := true, loops := true, plainKeys := false, apart := false }
def StoreNotsSaid : Prop := storeNotsRow.holds Tryz.pinned (OpenSpec.ofChange storeNotsSpec)

/-- ITS FALSE NEIGHBOUR: 'it returns false'. Refute it at one input. -/
def storeNotsWrong : ChangeSpec := { name := "storeNots", fn := fun _ => fun
  | [d] => { results := [.lit (.bool false)], args := [d] }
  | _ => none }
def StoreNotsWrongFalsely : Prop := storeNotsRow.holds Tryz.pinned (OpenSpec.ofChange storeNotsWrong)

/-- 'almagestlaw17.StoreRels': WHATEVER THE INPUT: true; the input reads as it did. -/
def storeRelsSpec : ChangeSpec := { name := "storeRels", fn := fun _ => fun
  | [d] => { results := [.lit (.bool true)], args := [d] }
  | _ => none }
def storeRelsRow : OpenClaim := { program := "ytpgceiijoedppaagreat", sum := "9f228ccd4fb2d096078f38e45e165f9dde12960cf728f275c72c00128623f946", func := "almagest/almagestlaw17.StoreRels", spec := "storeRels", inPlace := ["internal/bytealg.abigen_runtime_cmpstring", "slices.overlaps[almagest/api.Bind]"], unfollowed := true, recurses := true, loops := true, plainKeys := false, apart := false }
def StoreRelsSaid : Prop := storeRelsRow.holds Tryz.pinned (OpenSpec.ofChange storeRelsSpec)

/-- ITS FALSE NEIGHBOUR: 'it returns false'. Refute it at one input. -/
def storeRelsWrong : ChangeSpec := { name := "storeRels", fn := fun _ => fun
  | [d] => { results := [.lit (.bool false)], args := [d] }
  | _ => none }
def StoreRelsWrongFalsely : Prop := storeRelsRow.holds Tryz.pinned (OpenSpec.ofChange storeRelsWrong)

/-- 'almagestlaw14.RuleBoths': WHATEVER THE INPUT: true; the input reads as it did. -/
def ruleBothsSpec : ChangeSpec := { name := "ruleBoths", fn := fun _ => fun
  | [d] => { results := [.lit (.bool true)], args := [d] }
  | _ => none }
def ruleBothsRow : OpenClaim := { program := "ytpgceiijoedppaagreat", sum := "9f228ccd4fb2d096078f38e45e165f9dde12960cf728f275c72c00128623f946", func := "almagest/almagestlaw14.RuleBoths", spec := "ruleBoths", inPlace := ["internal/bytealg.abigen_runtime_cmpstring", "slices.overlaps[almagest/api.Bind]"], unfollowed := true, recurses := true, loops := true, plainKeys := false, apart := false }
def RuleBothsSaid : Prop := ruleBothsRow.holds Tryz.pinned (OpenSpec.ofChange ruleBothsSpec)

/-- ITS FALSE NEIGHBOUR: 'it returns false'. Refute it at one input. -/
def ruleBothsWrong : ChangeSpec := { name := "ruleBoths", fn := fun _ => fun
  | [d] => { results := [.lit (.bool false)], args := [d] }
  | _ => none }
def RuleBothsWrongFalsely : Prop := ruleBothsRow.holds Tryz.pinned (OpenSpec.ofChange ruleBothsWrong)

/-- 'almagestlaw14.RuleNots': WHATEVER THE INPUT: true; the input reads as it did. -/
def ruleNotsSpec : ChangeSpec := { name := "ruleNots", fn := fun _ => fun
  | [d] => { results := [.lit (.bool true)], args := [d] }
  | _ => none }
def ruleNotsRow : OpenClaim := { program := "ytpgceiijoedppaagreat", sum := "9f228ccd4fb2d096078f38e45e165f9dde12960cf728f275c72c00128623f946", func := "almagest/almagestlaw14.RuleNots", spec := "ruleNots", inPlace := ["internal/bytealg.abigen_runtime_cmpstring", "slices.overlaps[almagest/api.Bind]"], unfollowed := true, recurses := true, loops := true, plainKeys := false, apart := false }
def RuleNotsSaid : Prop := ruleNotsRow.holds Tryz.pinned (OpenSpec.ofChange ruleNotsSpec)

/-- ITS FALSE NEIGHBOUR: 'it returns false'. Refute it at one input. -/
def ruleNotsWrong : ChangeSpec := { name := "ruleNots", fn := fun _ => fun
  | [d] => { results := [.lit (.bool false)], args := [d] }
  | _ => none }
def RuleNotsWrongFalsely : Prop := ruleNotsRow.holds Tryz.pinned (OpenSpec.ofChange ruleNotsWrong)

/-- 'almagestlaw14.RuleRels': WHATEVER THE INPUT: true; the input reads as it did. -/
def ruleRelsSpec : ChangeSpec := { name := "ruleRels", fn := fun _ => fun
  | [d] => { results := [.lit (.bool true)], args := [d] }
  | _ => none }
def ruleRelsRow : OpenClaim := { program := "ytpgceiijoedppaagreat", sum := "9f228ccd4fb2d096078f38e45e165f9dde12960cf728f275c72c00128623f946", func := "almagest/almagestlaw14.RuleRels", spec := "ruleRels", inPlace := ["internal/bytealg.abigen_runtime_cmpstring", "slices.overlaps[almagest/api.Bind]"], unfollowed := true, recurses := true, loops := true, plainKeys := false, apart := false }
def RuleRelsSaid : Prop := ruleRelsRow.holds Tryz.pinned (OpenSpec.ofChange ruleRelsSpec)

/-- ITS FALSE NEIGHBOUR: 'it returns false'. Refute it at one input. -/
def ruleRelsWrong : ChangeSpec := { name := "ruleRels", fn := fun _ => fun
  | [d] => { results := [.lit (.bool false)], args := [d] }
  | _ => none }
def RuleRelsWrongFalsely : Prop := ruleRelsRow.holds Tryz.pinned (OpenSpec.ofChange ruleRelsWrong)

/- THE SECOND FORM. 'bulk': how many values and letters a reading holds, each counted each time it is reached (what is shared counts as often as it is met; a slice's spare places count too). A statement '..UptoSaid' is the law's where the arguments, and the package variables that the reading takes, are together of bulk at most 1048576: NARROWER than '..Said'. Prove '..Said' where nothing that the law and all that it calls make is longer than what came in: it says more and counts as full. Else prove '..UptoSaid'. A law counts once. -/
mutual
def uptoBulk {H : Type} : DataW H → Nat
  | .lit (.string bytes) => bytes.length + 1
  | .lit _ => 1
  | .nil => 1
  | .ptr d => uptoBulk d + 1
  | .slice elems spare => uptoBulkAll elems + uptoBulkAll spare + 1
  | .agg parts => uptoBulkAll parts + 1
  | .iface _ d => uptoBulk d + 1
  | .map entries => uptoBulkEntries entries + 1
  | .held _ => 1
def uptoBulkAll {H : Type} : List (DataW H) → Nat
  | [] => 0
  | d :: r => uptoBulk d + uptoBulkAll r
def uptoBulkEntries {H : Type} : List (Lit × DataW H) → Nat
  | [] => 0
  | x :: r => uptoBulkEntry x + uptoBulkEntries r
def uptoBulkEntry {H : Type} : Lit × DataW H → Nat
  | (.string bytes, d) => bytes.length + uptoBulk d + 1
  | (_, d) => uptoBulk d + 1
 end
def uptoSmall : (H : Type) → List (DataW H) → Bool := fun _ ds => decide (uptoBulkAll ds ≤ 1048576)
def OpenSpec.upto (s : _root_.Go.ChangeSpec) : _root_.Go.OpenSpec := { _root_.Go.OpenSpec.ofChange s with cond := some uptoSmall }

/-- 'almagestlaw14.RuleAmong', WHERE WHAT IT READS IS OF BULK AT MOST 1048576: true; the input reads as it did. -/
def ruleAmongUptoRow : OpenClaim := { program := "ytpgceiijoedppaagreat", sum := "9f228ccd4fb2d096078f38e45e165f9dde12960cf728f275c72c00128623f946", func := "almagest/almagestlaw14.RuleAmong", spec := "ruleAmong", inPlace := ["internal/bytealg.abigen_runtime_cmpstring"], unfollowed := true, recurses := true, loops := true, plainKeys := false, apart := false, narrowed := true }
def RuleAmongUptoSaid : Prop := ruleAmongUptoRow.holds Tryz.pinned (OpenSpec.upto ruleAmongSpec)

/-- 'almagestlaw13.MeetRows', WHERE WHAT IT READS IS OF BULK AT MOST 1048576: true; the input reads as it did. -/
def meetRowsUptoRow : OpenClaim := { program := "ytpgceiijoedppaagreat", sum := "9f228ccd4fb2d096078f38e45e165f9dde12960cf728f275c72c00128623f946", func := "almagest/almagestlaw13.MeetRows", spec := "meetRows", inPlace := ["internal/bytealg.abigen_runtime_cmpstring", "slices.overlaps[almagest/api.Bind]"], unfollowed := true, recurses := true, loops := true, plainKeys := false, apart := false, narrowed := true }
def MeetRowsUptoSaid : Prop := meetRowsUptoRow.holds Tryz.pinned (OpenSpec.upto meetRowsSpec)

/-- 'almagestlaw13.MeetBoths', WHERE WHAT IT READS IS OF BULK AT MOST 1048576: true; the input reads as it did. -/
def meetBothsUptoRow : OpenClaim := { program := "ytpgceiijoedppaagreat", sum := "9f228ccd4fb2d096078f38e45e165f9dde12960cf728f275c72c00128623f946", func := "almagest/almagestlaw13.MeetBoths", spec := "meetBoths", inPlace := ["internal/bytealg.abigen_runtime_cmpstring", "slices.overlaps[almagest/api.Bind]"], unfollowed := true, recurses := true, loops := true, plainKeys := false, apart := false, narrowed := true }
def MeetBothsUptoSaid : Prop := meetBothsUptoRow.holds Tryz.pinned (OpenSpec.upto meetBothsSpec)

/-- 'almagestlaw13.MeetOrs', WHERE WHAT IT READS IS OF BULK AT MOST 1048576: true; the input reads as it did. -/
def meetOrsUptoRow : OpenClaim := { program := "ytpgceiijoedppaagreat", sum := "9f228ccd4fb2d096078f38e45e165f9dde12960cf728f275c72c00128623f946", func := "almagest/almagestlaw13.MeetOrs", spec := "meetOrs", inPlace := ["internal/bytealg.abigen_runtime_cmpstring", "slices.overlaps[almagest/api.Bind]"], unfollowed := true, recurses := true, loops := true, plainKeys := false, apart := false, narrowed := true }
def MeetOrsUptoSaid : Prop := meetOrsUptoRow.holds Tryz.pinned (OpenSpec.upto meetOrsSpec)

/-- 'almagestlaw13.MeetRels', WHERE WHAT IT READS IS OF BULK AT MOST 1048576: true; the input reads as it did. -/
def meetRelsUptoRow : OpenClaim := { program := "ytpgceiijoedppaagreat", sum := "9f228ccd4fb2d096078f38e45e165f9dde12960cf728f275c72c00128623f946", func := "almagest/almagestlaw13.MeetRels", spec := "meetRels", inPlace := ["internal/bytealg.abigen_runtime_cmpstring", "slices.overlaps[almagest/api.Bind]"], unfollowed := true, recurses := true, loops := true, plainKeys := false, apart := false, narrowed := true }
def MeetRelsUptoSaid : Prop := meetRelsUptoRow.holds Tryz.pinned (OpenSpec.upto meetRelsSpec)

/-- 'almagestlaw17.StoreDrops', WHERE WHAT IT READS IS OF BULK AT MOST 1048576: true; the input reads as it did. -/
def storeDropsUptoRow : OpenClaim := { program := "ytpgceiijoedppaagreat", sum := "9f228ccd4fb2d096078f38e45e165f9dde12960cf728f275c72c00128623f946", func := "almagest/almagestlaw17.StoreDrops", spec := "storeDrops", inPlace := ["internal/bytealg.abigen_runtime_cmpstring", "slices.overlaps[almagest/api.Bind]"], unfollowed := true, recurses := true, loops := true, plainKeys := false, apart := false, narrowed := true }
def StoreDropsUptoSaid : Prop := storeDropsUptoRow.holds Tryz.pinned (OpenSpec.upto storeDropsSpec)

/-- 'almagestlaw17.StoreMatches', WHERE WHAT IT READS IS OF BULK AT MOST 1048576: true; the input reads as it did. -/
def storeMatchesUptoRow : OpenClaim := { program := "ytpgceiijoedppaagreat", sum := "9f228ccd4fb2d096078f38e45e165f9dde12960cf728f275c72c00128623f946", func := "almagest/almagestlaw17.StoreMatches", spec := "storeMatches", inPlace := ["internal/bytealg.abigen_runtime_cmpstring", "slices.overlaps[almagest/api.Bind]"], unfollowed := true, recurses := true, loops := true, plainKeys := false, apart := false, narrowed := true }
def StoreMatchesUptoSaid : Prop := storeMatchesUptoRow.holds Tryz.pinned (OpenSpec.upto storeMatchesSpec)

/-- 'almagestlaw17.StoreRows', WHERE WHAT IT READS IS OF BULK AT MOST 1048576: true; the input reads as it did. -/
def storeRowsUptoRow : OpenClaim := { program := "ytpgceiijoedppaagreat", sum := "9f228ccd4fb2d096078f38e45e165f9dde12960cf728f275c72c00128623f946", func := "almagest/almagestlaw17.StoreRows", spec := "storeRows", inPlace := ["internal/bytealg.abigen_runtime_cmpstring", "slices.overlaps[almagest/api.Bind]"], unfollowed := true, recurses := true, loops := true, plainKeys := false, apart := false, narrowed := true }
def StoreRowsUptoSaid : Prop := storeRowsUptoRow.holds Tryz.pinned (OpenSpec.upto storeRowsSpec)

/-- 'almagestlaw17.StoreBoths', WHERE WHAT IT READS IS OF BULK AT MOST 1048576: true; the input reads as it did. -/
def storeBothsUptoRow : OpenClaim := { program := "ytpgceiijoedppaagreat", sum := "9f228ccd4fb2d096078f38e45e165f9dde12960cf728f275c72c00128623f946", func := "almagest/almagestlaw17.StoreBoths", spec := "storeBoths", inPlace := ["internal/bytealg.abigen_runtime_cmpstring", "slices.overlaps[almagest/api.Bind]"], unfollowed := true, recurses := true, loops := true, plainKeys := false, apart := false, narrowed := true }
def StoreBothsUptoSaid : Prop := storeBothsUptoRow.holds Tryz.pinned (OpenSpec.upto storeBothsSpec)

/-- 'almagestlaw17.StoreOrs', WHERE WHAT IT READS IS OF BULK AT MOST 1048576: true; the input reads as it did. -/
def storeOrsUptoRow : OpenClaim := { program := "ytpgceiijoedppaagreat", sum := "9f228ccd4fb2d096078f38e45e165f9dde12960cf728f275c72c00128623f946", func := "almagest/almagestlaw17.StoreOrs", spec := "storeOrs", inPlace := ["internal/bytealg.abigen_runtime_cmpstring", "slices.overlaps[almagest/api.Bind]"], unfollowed := true, recurses := true, loops := true, plainKeys := false, apart := false, narrowed := true }
def StoreOrsUptoSaid : Prop := storeOrsUptoRow.holds Tryz.pinned (OpenSpec.upto storeOrsSpec)

/-- 'almagestlaw17.StoreNots', WHERE WHAT IT READS IS OF BULK AT MOST 1048576: true; the input reads as it did. -/
def storeNotsUptoRow : OpenClaim := { program := "ytpgceiijoedppaagreat", sum := "9f228ccd4fb2d096078f38e45e165f9dde12960cf728f275c72c00128623f946", func := "almagest/almagestlaw17.StoreNots", spec := "storeNots", inPlace := ["internal/bytealg.abigen_runtime_cmpstring", "slices.overlaps[almagest/api.Bind]"], unfollowed := true, recurses := true, loops := true, plainKeys := false, apart := false, narrowed := true }
def StoreNotsUptoSaid : Prop := storeNotsUptoRow.holds Tryz.pinned (OpenSpec.upto storeNotsSpec)

/-- 'almagestlaw17.StoreRels', WHERE WHAT IT READS IS OF BULK AT MOST 1048576: true; the input reads as it did. -/
def storeRelsUptoRow : OpenClaim := { program := "ytpgceiijoedppaagreat", sum := "9f228ccd4fb2d096078f38e45e165f9dde12960cf728f275c72c00128623f946", func := "almagest/almagestlaw17.StoreRels", spec := "storeRels", inPlace := ["internal/bytealg.abigen_runtime_cmpstring", "slices.overlaps[almagest/api.Bind]"], unfollowed := true, recurses := true, loops := true, plainKeys := false, apart := false, narrowed := true }
def StoreRelsUptoSaid : Prop := storeRelsUptoRow.holds Tryz.pinned (OpenSpec.upto storeRelsSpec)

/-- 'almagestlaw14.RuleBoths', WHERE WHAT IT READS IS OF BULK AT MOST 1048576: true; the input reads as it did. -/
def ruleBothsUptoRow : OpenClaim := { program := "ytpgceiijoedppaagreat", sum := "9f228ccd4fb2d096078f38e45e165f9dde12960cf728f275c72c00128623f946", func := "almagest/almagestlaw14.RuleBoths", spec := "ruleBoths", inPlace := ["internal/bytealg.abigen_runtime_cmpstring", "slices.overlaps[almagest/api.Bind]"], unfollowed := true, recurses := true, loops := true, plainKeys := false, apart := false, narrowed := true }
def RuleBothsUptoSaid : Prop := ruleBothsUptoRow.holds Tryz.pinned (OpenSpec.upto ruleBothsSpec)

/-- 'almagestlaw14.RuleNots', WHERE WHAT IT READS IS OF BULK AT MOST 1048576: true; the input reads as it did. -/
def ruleNotsUptoRow : OpenClaim := { program := "ytpgceiijoedppaagreat", sum := "9f228ccd4fb2d096078f38e45e165f9dde12960cf728f275c72c00128623f946", func := "almagest/almagestlaw14.RuleNots", spec := "ruleNots", inPlace := ["internal/bytealg.abigen_runtime_cmpstring", "slices.overlaps[almagest/api.Bind]"], unfollowed := true, recurses := true, loops := true, plainKeys := false, apart := false, narrowed := true }
def RuleNotsUptoSaid : Prop := ruleNotsUptoRow.holds Tryz.pinned (OpenSpec.upto ruleNotsSpec)

/-- 'almagestlaw14.RuleRels', WHERE WHAT IT READS IS OF BULK AT MOST 1048576: true; the input reads as it did. -/
def ruleRelsUptoRow : OpenClaim := { program := "ytpgceiijoedppaagreat", sum := "9f228ccd4fb2d096078f38e45e165f9dde12960cf728f275c72c00128623f946", func := "almagest/almagestlaw14.RuleRels", spec := "ruleRels", inPlace := ["internal/bytealg.abigen_runtime_cmpstring", "slices.overlaps[almagest/api.Bind]"], unfollowed := true, recurses := true, loops := true, plainKeys := false, apart := false, narrowed := true }
def RuleRelsUptoSaid : Prop := ruleRelsUptoRow.holds Tryz.pinned (OpenSpec.upto ruleRelsSpec)

end Rows
end Go.Proofs.YtpgceiijoedppaaGreat
