/-
  NARROWER THAN 'FOR EVERY INPUT', by the rows' own cells (each row's printed sentence says how): DenNode: loops · DenIs: loops · DenTwo: loops · DenMore: loops · DenOrder: loops · DenAll: loops.
  DERIVED. THE GIVEN ROWS OF THIS SEAT. 6 by the template 'for every input the law returns true; each argument reads behind the call as it read before'; 0 by the template 'total and deterministic' (their statements: YtkijhgplmikboaaGreatTotals.lean).
  GIVEN WITH THE SEED: the statements are not yours to turn. If you find one false, say at which input.
  Laid BY PROGRAM, IN A SANDBOX (cutbox-rows.mjs): the forced cells as the released guide's own fill.sh prints them over the translation 3ff1f2cf1700b126… (all of the seat's roots in one cut). By AI agents, Wed Nov 11 2026. No macro, syntax, notation, axiom, sorry.
-/
import Derived.Test.YtkijhgplmikboaaGreatChecked
import GoSem.Claim
import GoSem.ClaimJoined
import GoSem.ClaimMapViews
import Derived.JoinedTies
import Derived.KernelRfl
namespace Go.Proofs.YtkijhgplmikboaaGreat
/- THE CELL 'sum', in the pinned program and in every row, IS THE sha256 OF THE DUMP (.gsa) THAT YtkijhgplmikboaaGreatProg.lean LOADS. Nothing in Lean hashes anything: it is a label: what it is worth is what the hold of that sum in a sandbox is worth. -/
noncomputable def Tryz.pinned : Pinned := { name := "ytkijhgplmikboaagreat", sum := "3ff1f2cf1700b1264a69c45cd62316a6d07d084836c0d41d237dba48aecb8456", checked := Tryz.checked }
namespace Rows
def none {H : Type} : Left H := { results := [], args := [] }

/-- 'eyrielaw11.DenNode': WHATEVER THE INPUT: true; the input reads as it did. -/
def denNodeSpec : ChangeSpec := { name := "denNode", fn := fun _ => fun
  | [d1, d2] => { results := [.lit (.bool true)], args := [d1, d2] }
  | _ => none }
def denNodeRow : OpenClaim := { program := "ytkijhgplmikboaagreat", sum := "3ff1f2cf1700b1264a69c45cd62316a6d07d084836c0d41d237dba48aecb8456", func := "eyrie/eyrielaw11.DenNode", spec := "denNode", inPlace := ["internal/bytealg.abigen_runtime_cmpstring"], unfollowed := true, recurses := true, loops := true, plainKeys := false, apart := false }
def DenNodeSaid : Prop := denNodeRow.holds Tryz.pinned (OpenSpec.ofChange denNodeSpec)

/-- ITS FALSE NEIGHBOUR: 'it returns false'. Refute it at one input. -/
def denNodeWrong : ChangeSpec := { name := "denNode", fn := fun _ => fun
  | [d1, d2] => { results := [.lit (.bool false)], args := [d1, d2] }
  | _ => none }
def DenNodeWrongFalsely : Prop := denNodeRow.holds Tryz.pinned (OpenSpec.ofChange denNodeWrong)

/-- 'eyrielaw11.DenIs': WHATEVER THE INPUT: true; the input reads as it did. -/
def denIsSpec : ChangeSpec := { name := "denIs", fn := fun _ => fun
  | [d1, d2] => { results := [.lit (.bool true)], args := [d1, d2] }
  | _ => none }
def denIsRow : OpenClaim := { program := "ytkijhgplmikboaagreat", sum := "3ff1f2cf1700b1264a69c45cd62316a6d07d084836c0d41d237dba48aecb8456", func := "eyrie/eyrielaw11.DenIs", spec := "denIs", inPlace := ["internal/bytealg.abigen_runtime_cmpstring"], unfollowed := true, recurses := true, loops := true, plainKeys := false, apart := false }
def DenIsSaid : Prop := denIsRow.holds Tryz.pinned (OpenSpec.ofChange denIsSpec)

/-- ITS FALSE NEIGHBOUR: 'it returns false'. Refute it at one input. -/
def denIsWrong : ChangeSpec := { name := "denIs", fn := fun _ => fun
  | [d1, d2] => { results := [.lit (.bool false)], args := [d1, d2] }
  | _ => none }
def DenIsWrongFalsely : Prop := denIsRow.holds Tryz.pinned (OpenSpec.ofChange denIsWrong)

/-- 'eyrielaw11.DenTwo': WHATEVER THE INPUT: true; the input reads as it did. -/
def denTwoSpec : ChangeSpec := { name := "denTwo", fn := fun _ => fun
  | [d1, d2, d3] => { results := [.lit (.bool true)], args := [d1, d2, d3] }
  | _ => none }
def denTwoRow : OpenClaim := { program := "ytkijhgplmikboaagreat", sum := "3ff1f2cf1700b1264a69c45cd62316a6d07d084836c0d41d237dba48aecb8456", func := "eyrie/eyrielaw11.DenTwo", spec := "denTwo", inPlace := ["internal/bytealg.abigen_runtime_cmpstring"], unfollowed := true, recurses := true, loops := true, plainKeys := false, apart := false }
def DenTwoSaid : Prop := denTwoRow.holds Tryz.pinned (OpenSpec.ofChange denTwoSpec)

/-- ITS FALSE NEIGHBOUR: 'it returns false'. Refute it at one input. -/
def denTwoWrong : ChangeSpec := { name := "denTwo", fn := fun _ => fun
  | [d1, d2, d3] => { results := [.lit (.bool false)], args := [d1, d2, d3] }
  | _ => none }
def DenTwoWrongFalsely : Prop := denTwoRow.holds Tryz.pinned (OpenSpec.ofChange denTwoWrong)

/-- 'eyrielaw11.DenMore': WHATEVER THE INPUT: true; the input reads as it did. -/
def denMoreSpec : ChangeSpec := { name := "denMore", fn := fun _ => fun
  | [d1, d2, d3] => { results := [.lit (.bool true)], args := [d1, d2, d3] }
  | _ => none }
def denMoreRow : OpenClaim := { program := "ytkijhgplmikboaagreat", sum := "3ff1f2cf1700b1264a69c45cd62316a6d07d084836c0d41d237dba48aecb8456", func := "eyrie/eyrielaw11.DenMore", spec := "denMore", inPlace := ["internal/bytealg.abigen_runtime_cmpstring"], unfollowed := true, recurses := true, loops := true, plainKeys := false, apart := false }
def DenMoreSaid : Prop := denMoreRow.holds Tryz.pinned (OpenSpec.ofChange denMoreSpec)

/-- ITS FALSE NEIGHBOUR: 'it returns false'. Refute it at one input. -/
def denMoreWrong : ChangeSpec := { name := "denMore", fn := fun _ => fun
  | [d1, d2, d3] => { results := [.lit (.bool false)], args := [d1, d2, d3] }
  | _ => none }
def DenMoreWrongFalsely : Prop := denMoreRow.holds Tryz.pinned (OpenSpec.ofChange denMoreWrong)

/-- 'eyrielaw11.DenOrder': WHATEVER THE INPUT: true; the input reads as it did. -/
def denOrderSpec : ChangeSpec := { name := "denOrder", fn := fun _ => fun
  | [d1, d2] => { results := [.lit (.bool true)], args := [d1, d2] }
  | _ => none }
def denOrderRow : OpenClaim := { program := "ytkijhgplmikboaagreat", sum := "3ff1f2cf1700b1264a69c45cd62316a6d07d084836c0d41d237dba48aecb8456", func := "eyrie/eyrielaw11.DenOrder", spec := "denOrder", inPlace := ["internal/bytealg.abigen_runtime_cmpstring"], unfollowed := true, recurses := true, loops := true, plainKeys := false, apart := false }
def DenOrderSaid : Prop := denOrderRow.holds Tryz.pinned (OpenSpec.ofChange denOrderSpec)

/-- ITS FALSE NEIGHBOUR: 'it returns false'. Refute it at one input. -/
def denOrderWrong : ChangeSpec := { name := "denOrder", fn := fun _ => fun
  | [d1, d2] => { results := [.lit (.bool false)], args := [d1, d2] }
  | _ => none }
def DenOrderWrongFalsely : Prop := denOrderRow.holds Tryz.pinned (OpenSpec.ofChange denOrderWrong)

/-- 'eyrielaw11.DenAll': WHATEVER THE INPUT: true; the input reads as it did. -/
def denAllSpec : ChangeSpec := { name := "denAll", fn := fun _ => fun
  | [d1, d2, d3] => { results := [.lit (.bool true)], args := [d1, d2, d3] }
  | _ => none }
def denAllRow : OpenClaim := { program := "ytkijhgplmikboaagreat", sum := "3ff1f2cf1700b1264a69c45cd62316a6d07d084836c0d41d237dba48aecb8456", func := "eyrie/eyrielaw11.DenAll", spec := "denAll", inPlace := ["internal/bytealg.abigen_runtime_cmpstring"], unfollowed := true, recurses := true, loops := true, plainKeys := false, apart := false }
def DenAllSaid : Prop := denAllRow.holds Tryz.pinned (OpenSpec.ofChange denAllSpec)

/-- ITS FALSE NEIGHBOUR: 'it returns false'. Refute it at one input. -/
def denAllWrong : ChangeSpec := { name := "denAll", fn := fun _ => fun
  | [d1, d2, d3] => { results := [.lit (.bool false)], args := [d1, d2, d3] }
  | _ => none }
def DenAllWrongFalsely : Prop := denAllRow.holds Tryz.pinned (OpenSpec.ofChange denAllWrong)

/- THE SECOND FORM. 'bulk': how many values and letters a reading holds, each counted each time it is reached (what is shared counts as often as it is met; a slice's spare places count too). A statement '..UptoSaid' is the law's where the arguments, and the package variables that the reading takes, are together of bulk at most 1048576: NARROWER than '..Said'. Prove '..Said' where nothing that the law and all that it calls make is longer than what came in: it says more and counts as full. Else prove '..UptoSaid'. A law counts once. -/
mutual
def uptoBulk {H : Type} : DataW H → Nat
  | .lit (.string bytes) => bytes.length + 1
  | .lit _ => 1
  | .nil => 1
  | .ptr d => uptoBulk d + 1
  | .slice elems spare => uptoBulkAll elems + uptoBulkAll spare + 1
  | .agg parts => uptoBulkAll parts + 1
  | .iface _ d => uptoBulk d + 1
  | .map entries => uptoBulkEntries entries + 1
  | .held _ => 1
def uptoBulkAll {H : Type} : List (DataW H) → Nat
  | [] => 0
  | d :: r => uptoBulk d + uptoBulkAll r
def uptoBulkEntries {H : Type} : List (Lit × DataW H) → Nat
  | [] => 0
  | x :: r => uptoBulkEntry x + uptoBulkEntries r
def uptoBulkEntry {H : Type} : Lit × DataW H → Nat
  | (.string bytes, d) => bytes.length + uptoBulk d + 1
  | (_, d) => uptoBulk d + 1
 end
def uptoSmall : (H : Type) → List (DataW H) → Bool := fun _ ds => decide (uptoBulkAll ds ≤ 1048576)
def OpenSpec.upto (s : _root_.Go.ChangeSpec) : _root_.Go.OpenSpec := { _root_.Go.OpenSpec.ofChange s with cond := some uptoSmall }

/-- 'eyrielaw11.DenNode', WHERE WHAT IT READS IS OF BULK AT MOST 1048576: true; the input reads as it did. -/
def denNodeUptoRow : OpenClaim := { program := "ytkijhgplmikboaagreat", sum := "3ff1f2cf1700b1264a69c45cd62316a6d07d084836c0d41d237dba48aecb8456", func := "eyrie/eyrielaw11.DenNode", spec := "denNode", inPlace := ["internal/bytealg.abigen_runtime_cmpstring"], unfollowed := true, recurses := true, loops := true, plainKeys := false, apart := false, narrowed := true }
def DenNodeUptoSaid : Prop := denNodeUptoRow.holds Tryz.pinned (OpenSpec.upto denNodeSpec)

/-- 'eyrielaw11.DenIs', WHERE WHAT IT READS IS OF BULK AT MOST 1048576: true; the input reads as it did. -/
def denIsUptoRow : OpenClaim := { program := "ytkijhgplmikboaagreat", sum := "3ff1f2cf1700b1264a69c45cd62316a6d07d084836c0d41d237dba48aecb8456", func := "eyrie/eyrielaw11.DenIs", spec := "denIs", inPlace := ["internal/bytealg.abigen_runtime_cmpstring"], unfollowed := true, recurses := true, loops := true, plainKeys := false, apart := false, narrowed := true }
def DenIsUptoSaid : Prop := denIsUptoRow.holds Tryz.pinned (OpenSpec.upto denIsSpec)

/-- 'eyrielaw11.DenTwo', WHERE WHAT IT READS IS OF BULK AT MOST 1048576: true; the input reads as it did. -/
def denTwoUptoRow : OpenClaim := { program := "ytkijhgplmikboaagreat", sum := "3ff1f2cf1700b1264a69c45cd62316a6d07d084836c0d41d237dba48aecb8456", func := "eyrie/eyrielaw11.DenTwo", spec := "denTwo", inPlace := ["internal/bytealg.abigen_runtime_cmpstring"], unfollowed := true, recurses := true, loops := true, plainKeys := false, apart := false, narrowed := true }
def DenTwoUptoSaid : Prop := denTwoUptoRow.holds Tryz.pinned (OpenSpec.upto denTwoSpec)

/-- 'eyrielaw11.DenMore', WHERE WHAT IT READS IS OF BULK AT MOST 1048576: true; the input reads as it did. -/
def denMoreUptoRow : OpenClaim := { program := "ytkijhgplmikboaagreat", sum := "3ff1f2cf1700b1264a69c45cd62316a6d07d084836c0d41d237dba48aecb8456", func := "eyrie/eyrielaw11.DenMore", spec := "denMore", inPlace := ["internal/bytealg.abigen_runtime_cmpstring"], unfollowed := true, recurses := true, loops := true, plainKeys := false, apart := false, narrowed := true }
def DenMoreUptoSaid : Prop := denMoreUptoRow.holds Tryz.pinned (OpenSpec.upto denMoreSpec)

/-- 'eyrielaw11.DenOrder', WHERE WHAT IT READS IS OF BULK AT MOST 1048576: true; the input reads as it did. -/
def denOrderUptoRow : OpenClaim := { program := "ytkijhgplmikboaagreat", sum := "3ff1f2cf1700b1264a69c45cd62316a6d07d084836c0d41d237dba48aecb8456", func := "eyrie/eyrielaw11.DenOrder", spec := "denOrder", inPlace := ["internal/bytealg.abigen_runtime_cmpstring"], unfollowed := true, recurses := true, loops := true, plainKeys := false, apart := false, narrowed := true }
def DenOrderUptoSaid : Prop := denOrderUptoRow.holds Tryz.pinned (OpenSpec.upto denOrderSpec)

/-- 'eyrielaw11.DenAll', WHERE WHAT IT READS IS OF BULK AT MOST 1048576: true; the input reads as it did. -/
def denAllUptoRow : OpenClaim := { program := "ytkijhgplmikboaagreat", sum := "3ff1f2cf1700b1264a69c45cd62316a6d07d084836c0d41d237dba48aecb8456", func := "eyrie/eyrielaw11.DenAll", spec := "denAll", inPlace := ["internal/bytealg.abigen_runtime_cmpstring"], unfollowed := true, recurses := true, loops := true, plainKeys := false, apart := false, narrowed := true }
def DenAllUptoSaid : Prop := denAllUptoRow.holds Tryz.pinned (OpenSpec.upto denAllSpec)

end Rows
end Go.Proofs.YtkijhgplmikboaaGreat
