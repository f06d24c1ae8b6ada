/-
  No cell of these rows narrows 'for every input' (looked for: loops, veiled, ifaces, maps, wideKeys, modest, calm, conditions, laid).
  DERIVED. THE GIVEN ROWS OF THIS SEAT. 8 by the template 'for every input the law returns true; each argument reads behind the call as it read before'; 0 by the template 'total and deterministic' (their statements: YtmhamgllanihoaaTotals.lean).
  GIVEN WITH THE SEED: the statements are not yours to turn. If you find one false, say at which input.
  Laid BY PROGRAM, IN A SANDBOX (cutbox-rows.mjs): the forced cells as the released guide's own fill.sh prints them over the translation 951fda8d781b70ac… (all of the seat's roots in one cut). By AI agents, Wed Nov 11 2026. No macro, syntax, notation, axiom, sorry.
-/
import Derived.Test.YtmhamgllanihoaaChecked
import GoSem.Claim
import GoSem.ClaimJoined
import GoSem.ClaimMapViews
import Derived.JoinedTies
import Derived.KernelRfl
namespace Go.Proofs.Ytmhamgllanihoaa
/- THE CELL 'sum', in the pinned program and in every row, IS THE sha256 OF THE DUMP (.gsa) THAT YtmhamgllanihoaaProg.lean LOADS. Nothing in Lean hashes anything: it is a label: what it is worth is what the hold of that sum in a sandbox is worth. -/
noncomputable def Try.pinned : Pinned := { name := "ytmhamgllanihoaa", sum := "951fda8d781b70ac5042d9738b9e285a98ff840204809f9779e0361e178b446f", checked := Try.checked }
namespace Rows
def none {H : Type} : Left H := { results := [], args := [] }

/-- 'eyrielaw10.MatchMerges': WHATEVER THE INPUT: true; the input reads as it did. -/
def matchMergesSpec : ChangeSpec := { name := "matchMerges", fn := fun _ => fun
  | [d1, d2] => { results := [.lit (.bool true)], args := [d1, d2] }
  | _ => none }
def matchMergesRow : OpenClaim := { program := "ytmhamgllanihoaa", sum := "951fda8d781b70ac5042d9738b9e285a98ff840204809f9779e0361e178b446f", func := "eyrie/eyrielaw10.MatchMerges", spec := "matchMerges", unfollowed := true, recurses := true, plainKeys := false, apart := false }
def MatchMergesSaid : Prop := matchMergesRow.holds Try.pinned (OpenSpec.ofChange matchMergesSpec)

/-- ITS FALSE NEIGHBOUR: 'it returns false'. Refute it at one input. -/
def matchMergesWrong : ChangeSpec := { name := "matchMerges", fn := fun _ => fun
  | [d1, d2] => { results := [.lit (.bool false)], args := [d1, d2] }
  | _ => none }
def MatchMergesWrongFalsely : Prop := matchMergesRow.holds Try.pinned (OpenSpec.ofChange matchMergesWrong)

/-- 'eyrielaw10.MatchOrders': WHATEVER THE INPUT: true; the input reads as it did. -/
def matchOrdersSpec : ChangeSpec := { name := "matchOrders", fn := fun _ => fun
  | [d1, d2, d3] => { results := [.lit (.bool true)], args := [d1, d2, d3] }
  | _ => none }
def matchOrdersRow : OpenClaim := { program := "ytmhamgllanihoaa", sum := "951fda8d781b70ac5042d9738b9e285a98ff840204809f9779e0361e178b446f", func := "eyrie/eyrielaw10.MatchOrders", spec := "matchOrders", unfollowed := true, recurses := true, plainKeys := false, apart := false }
def MatchOrdersSaid : Prop := matchOrdersRow.holds Try.pinned (OpenSpec.ofChange matchOrdersSpec)

/-- ITS FALSE NEIGHBOUR: 'it returns false'. Refute it at one input. -/
def matchOrdersWrong : ChangeSpec := { name := "matchOrders", fn := fun _ => fun
  | [d1, d2, d3] => { results := [.lit (.bool false)], args := [d1, d2, d3] }
  | _ => none }
def MatchOrdersWrongFalsely : Prop := matchOrdersRow.holds Try.pinned (OpenSpec.ofChange matchOrdersWrong)

/-- 'eyrielaw10.MatchChecks': WHATEVER THE INPUT: true; the input reads as it did. -/
def matchChecksSpec : ChangeSpec := { name := "matchChecks", fn := fun _ => fun
  | [d1, d2, d3, d4] => { results := [.lit (.bool true)], args := [d1, d2, d3, d4] }
  | _ => none }
def matchChecksRow : OpenClaim := { program := "ytmhamgllanihoaa", sum := "951fda8d781b70ac5042d9738b9e285a98ff840204809f9779e0361e178b446f", func := "eyrie/eyrielaw10.MatchChecks", spec := "matchChecks", unfollowed := true, recurses := true, plainKeys := false, apart := false }
def MatchChecksSaid : Prop := matchChecksRow.holds Try.pinned (OpenSpec.ofChange matchChecksSpec)

/-- ITS FALSE NEIGHBOUR: 'it returns false'. Refute it at one input. -/
def matchChecksWrong : ChangeSpec := { name := "matchChecks", fn := fun _ => fun
  | [d1, d2, d3, d4] => { results := [.lit (.bool false)], args := [d1, d2, d3, d4] }
  | _ => none }
def MatchChecksWrongFalsely : Prop := matchChecksRow.holds Try.pinned (OpenSpec.ofChange matchChecksWrong)

/-- 'eyrielaw10.MatchWrites': WHATEVER THE INPUT: true; the input reads as it did. -/
def matchWritesSpec : ChangeSpec := { name := "matchWrites", fn := fun _ => fun
  | [d1, d2] => { results := [.lit (.bool true)], args := [d1, d2] }
  | _ => none }
def matchWritesRow : OpenClaim := { program := "ytmhamgllanihoaa", sum := "951fda8d781b70ac5042d9738b9e285a98ff840204809f9779e0361e178b446f", func := "eyrie/eyrielaw10.MatchWrites", spec := "matchWrites", unfollowed := true, recurses := true, plainKeys := false, apart := false }
def MatchWritesSaid : Prop := matchWritesRow.holds Try.pinned (OpenSpec.ofChange matchWritesSpec)

/-- ITS FALSE NEIGHBOUR: 'it returns false'. Refute it at one input. -/
def matchWritesWrong : ChangeSpec := { name := "matchWrites", fn := fun _ => fun
  | [d1, d2] => { results := [.lit (.bool false)], args := [d1, d2] }
  | _ => none }
def MatchWritesWrongFalsely : Prop := matchWritesRow.holds Try.pinned (OpenSpec.ofChange matchWritesWrong)

/-- 'eyrielaw10.MatchRises': WHATEVER THE INPUT: true; the input reads as it did. -/
def matchRisesSpec : ChangeSpec := { name := "matchRises", fn := fun _ => fun
  | [d1, d2, d3, d4] => { results := [.lit (.bool true)], args := [d1, d2, d3, d4] }
  | _ => none }
def matchRisesRow : OpenClaim := { program := "ytmhamgllanihoaa", sum := "951fda8d781b70ac5042d9738b9e285a98ff840204809f9779e0361e178b446f", func := "eyrie/eyrielaw10.MatchRises", spec := "matchRises", inPlace := ["slices.overlaps[eyrie/api.Partial]"], unfollowed := true, recurses := true, plainKeys := false, apart := false }
def MatchRisesSaid : Prop := matchRisesRow.holds Try.pinned (OpenSpec.ofChange matchRisesSpec)

/-- ITS FALSE NEIGHBOUR: 'it returns false'. Refute it at one input. -/
def matchRisesWrong : ChangeSpec := { name := "matchRises", fn := fun _ => fun
  | [d1, d2, d3, d4] => { results := [.lit (.bool false)], args := [d1, d2, d3, d4] }
  | _ => none }
def MatchRisesWrongFalsely : Prop := matchRisesRow.holds Try.pinned (OpenSpec.ofChange matchRisesWrong)

/-- 'eyrielaw10.MatchSets': WHATEVER THE INPUT: true; the input reads as it did. -/
def matchSetsSpec : ChangeSpec := { name := "matchSets", fn := fun _ => fun
  | [d1, d2] => { results := [.lit (.bool true)], args := [d1, d2] }
  | _ => none }
def matchSetsRow : OpenClaim := { program := "ytmhamgllanihoaa", sum := "951fda8d781b70ac5042d9738b9e285a98ff840204809f9779e0361e178b446f", func := "eyrie/eyrielaw10.MatchSets", spec := "matchSets", inPlace := ["slices.overlaps[eyrie/api.Partial]"], unfollowed := true, recurses := true, plainKeys := false, apart := false }
def MatchSetsSaid : Prop := matchSetsRow.holds Try.pinned (OpenSpec.ofChange matchSetsSpec)

/-- ITS FALSE NEIGHBOUR: 'it returns false'. Refute it at one input. -/
def matchSetsWrong : ChangeSpec := { name := "matchSets", fn := fun _ => fun
  | [d1, d2] => { results := [.lit (.bool false)], args := [d1, d2] }
  | _ => none }
def MatchSetsWrongFalsely : Prop := matchSetsRow.holds Try.pinned (OpenSpec.ofChange matchSetsWrong)

/-- 'eyrielaw10.MatchReads': WHATEVER THE INPUT: true; the input reads as it did. -/
def matchReadsSpec : ChangeSpec := { name := "matchReads", fn := fun _ => fun
  | [d1, d2] => { results := [.lit (.bool true)], args := [d1, d2] }
  | _ => none }
def matchReadsRow : OpenClaim := { program := "ytmhamgllanihoaa", sum := "951fda8d781b70ac5042d9738b9e285a98ff840204809f9779e0361e178b446f", func := "eyrie/eyrielaw10.MatchReads", spec := "matchReads", unfollowed := true, recurses := true, plainKeys := false, apart := false }
def MatchReadsSaid : Prop := matchReadsRow.holds Try.pinned (OpenSpec.ofChange matchReadsSpec)

/-- ITS FALSE NEIGHBOUR: 'it returns false'. Refute it at one input. -/
def matchReadsWrong : ChangeSpec := { name := "matchReads", fn := fun _ => fun
  | [d1, d2] => { results := [.lit (.bool false)], args := [d1, d2] }
  | _ => none }
def MatchReadsWrongFalsely : Prop := matchReadsRow.holds Try.pinned (OpenSpec.ofChange matchReadsWrong)

/-- 'eyrielaw10.MatchBack': WHATEVER THE INPUT: true; the input reads as it did. -/
def matchBackSpec : ChangeSpec := { name := "matchBack", fn := fun _ => fun
  | [d1, d2] => { results := [.lit (.bool true)], args := [d1, d2] }
  | _ => none }
def matchBackRow : OpenClaim := { program := "ytmhamgllanihoaa", sum := "951fda8d781b70ac5042d9738b9e285a98ff840204809f9779e0361e178b446f", func := "eyrie/eyrielaw10.MatchBack", spec := "matchBack", unfollowed := true, recurses := true, plainKeys := false, apart := false }
def MatchBackSaid : Prop := matchBackRow.holds Try.pinned (OpenSpec.ofChange matchBackSpec)

/-- ITS FALSE NEIGHBOUR: 'it returns false'. Refute it at one input. -/
def matchBackWrong : ChangeSpec := { name := "matchBack", fn := fun _ => fun
  | [d1, d2] => { results := [.lit (.bool false)], args := [d1, d2] }
  | _ => none }
def MatchBackWrongFalsely : Prop := matchBackRow.holds Try.pinned (OpenSpec.ofChange matchBackWrong)

/- THE SECOND FORM. 'bulk': how many values and letters a reading holds, each counted each time it is reached (what is shared counts as often as it is met; a slice's spare places count too). A statement '..UptoSaid' is the law's where the arguments, and the package variables that the reading takes, are together of bulk at most 1048576: NARROWER than '..Said'. Prove '..Said' where nothing that the law and all that it calls make is longer than what came in: it says more and counts as full. Else prove '..UptoSaid'. A law counts once. -/
mutual
def uptoBulk {H : Type} : DataW H → Nat
  | .lit (.string bytes) => bytes.length + 1
  | .lit _ => 1
  | .nil => 1
  | .ptr d => uptoBulk d + 1
  | .slice elems spare => uptoBulkAll elems + uptoBulkAll spare + 1
  | .agg parts => uptoBulkAll parts + 1
  | .iface _ d => uptoBulk d + 1
  | .map entries => uptoBulkEntries entries + 1
  | .held _ => 1
def uptoBulkAll {H : Type} : List (DataW H) → Nat
  | [] => 0
  | d :: r => uptoBulk d + uptoBulkAll r
def uptoBulkEntries {H : Type} : List (Lit × DataW H) → Nat
  | [] => 0
  | x :: r => uptoBulkEntry x + uptoBulkEntries r
def uptoBulkEntry {H : Type} : Lit × DataW H → Nat
  | (.string bytes, d) => bytes.length + uptoBulk d + 1
  | (_, d) => uptoBulk d + 1
 end
def uptoSmall : (H : Type) → List (DataW H) → Bool := fun _ ds => decide (uptoBulkAll ds ≤ 1048576)
def OpenSpec.upto (s : _root_.Go.ChangeSpec) : _root_.Go.OpenSpec := { _root_.Go.OpenSpec.ofChange s with cond := some uptoSmall }

/-- 'eyrielaw10.MatchMerges', WHERE WHAT IT READS IS OF BULK AT MOST 1048576: true; the input reads as it did. -/
def matchMergesUptoRow : OpenClaim := { program := "ytmhamgllanihoaa", sum := "951fda8d781b70ac5042d9738b9e285a98ff840204809f9779e0361e178b446f", func := "eyrie/eyrielaw10.MatchMerges", spec := "matchMerges", unfollowed := true, recurses := true, plainKeys := false, apart := false, narrowed := true }
def MatchMergesUptoSaid : Prop := matchMergesUptoRow.holds Try.pinned (OpenSpec.upto matchMergesSpec)

/-- 'eyrielaw10.MatchOrders', WHERE WHAT IT READS IS OF BULK AT MOST 1048576: true; the input reads as it did. -/
def matchOrdersUptoRow : OpenClaim := { program := "ytmhamgllanihoaa", sum := "951fda8d781b70ac5042d9738b9e285a98ff840204809f9779e0361e178b446f", func := "eyrie/eyrielaw10.MatchOrders", spec := "matchOrders", unfollowed := true, recurses := true, plainKeys := false, apart := false, narrowed := true }
def MatchOrdersUptoSaid : Prop := matchOrdersUptoRow.holds Try.pinned (OpenSpec.upto matchOrdersSpec)

/-- 'eyrielaw10.MatchChecks', WHERE WHAT IT READS IS OF BULK AT MOST 1048576: true; the input reads as it did. -/
def matchChecksUptoRow : OpenClaim := { program := "ytmhamgllanihoaa", sum := "951fda8d781b70ac5042d9738b9e285a98ff840204809f9779e0361e178b446f", func := "eyrie/eyrielaw10.MatchChecks", spec := "matchChecks", unfollowed := true, recurses := true, plainKeys := false, apart := false, narrowed := true }
def MatchChecksUptoSaid : Prop := matchChecksUptoRow.holds Try.pinned (OpenSpec.upto matchChecksSpec)

/-- 'eyrielaw10.MatchWrites', WHERE WHAT IT READS IS OF BULK AT MOST 1048576: true; the input reads as it did. -/
def matchWritesUptoRow : OpenClaim := { program := "ytmhamgllanihoaa", sum := "951fda8d781b70ac5042d9738b9e285a98ff840204809f9779e0361e178b446f", func := "eyrie/eyrielaw10.MatchWrites", spec := "matchWrites", unfollowed := true, recurses := true, plainKeys := false, apart := false, narrowed := true }
def MatchWritesUptoSaid : Prop := matchWritesUptoRow.holds Try.pinned (OpenSpec.upto matchWritesSpec)

/-- 'eyrielaw10.MatchRises', WHERE WHAT IT READS IS OF BULK AT MOST 1048576: true; the input reads as it did. -/
def matchRisesUptoRow : OpenClaim := { program := "ytmhamgllanihoaa", sum := "951fda8d781b70ac5042d9738b9e285a98ff840204809f9779e0361e178b446f", func := "eyrie/eyrielaw10.MatchRises", spec := "matchRises", inPlace := ["slices.overlaps[eyrie/api.Partial]"], unfollowed := true, recurses := true, plainKeys := false, apart := false, narrowed := true }
def MatchRisesUptoSaid : Prop := matchRisesUptoRow.holds Try.pinned (OpenSpec.upto matchRisesSpec)

/-- 'eyrielaw10.MatchSets', WHERE WHAT IT READS IS OF BULK AT MOST 1048576: true; the input reads as it did. -/
def matchSetsUptoRow : OpenClaim := { program := "ytmhamgllanihoaa", sum := "951fda8d781b70ac5042d9738b9e285a98ff840204809f9779e0361e178b446f", func := "eyrie/eyrielaw10.MatchSets", spec := "matchSets", inPlace := ["slices.overlaps[eyrie/api.Partial]"], unfollowed := true, recurses := true, plainKeys := false, apart := false, narrowed := true }
def MatchSetsUptoSaid : Prop := matchSetsUptoRow.holds Try.pinned (OpenSpec.upto matchSetsSpec)

/-- 'eyrielaw10.MatchReads', WHERE WHAT IT READS IS OF BULK AT MOST 1048576: true; the input reads as it did. -/
def matchReadsUptoRow : OpenClaim := { program := "ytmhamgllanihoaa", sum := "951fda8d781b70ac5042d9738b9e285a98ff840204809f9779e0361e178b446f", func := "eyrie/eyrielaw10.MatchReads", spec := "matchReads", unfollowed := true, recurses := true, plainKeys := false, apart := false, narrowed := true }
def MatchReadsUptoSaid : Prop := matchReadsUptoRow.holds Try.pinned (OpenSpec.upto matchReadsSpec)

/-- 'eyrielaw10.MatchBack', WHERE WHAT IT READS IS OF BULK AT MOST 1048576: true; the input reads as it did. -/
def matchBackUptoRow : OpenClaim := { program := "ytmhamgllanihoaa", sum := "951fda8d781b70ac5042d9738b9e285a98ff840204809f9779e0361e178b446f", func := "eyrie/eyrielaw10.MatchBack", spec := "matchBack", unfollowed := true, recurses := true, plainKeys := false, apart := false, narrowed := true }
def MatchBackUptoSaid : Prop := matchBackUptoRow.holds Try.pinned (OpenSpec.upto matchBackSpec)

end Rows
end Go.Proofs.Ytmhamgllanihoaa
