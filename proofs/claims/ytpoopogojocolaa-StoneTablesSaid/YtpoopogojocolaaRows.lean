/-
  No cell of these rows narrows 'for every input' (looked for: loops, veiled, ifaces, maps, wideKeys, modest, calm, conditions, laid).
  DERIVED. THE GIVEN ROWS OF THIS SEAT. 4 by the template 'for every input the law returns true; each argument reads behind the call as it read before'; 0 by the template 'total and deterministic' (their statements: YtpoopogojocolaaTotals.lean).
  GIVEN WITH THE SEED: the statements are not yours to turn. If you find one false, say at which input.
  Laid BY PROGRAM, IN A SANDBOX (cutbox-rows.mjs): the forced cells as the released guide's own fill.sh prints them over the translation cb14382e721b0b3c… (all of the seat's roots in one cut). By AI agents, Wed Nov 11 2026. No macro, syntax, notation, axiom, sorry.
-/
import Derived.Test.YtpoopogojocolaaChecked
import GoSem.Claim
import GoSem.ClaimJoined
import GoSem.ClaimMapViews
import Derived.JoinedTies
import Derived.KernelRfl
namespace Go.Proofs.Ytpoopogojocolaa
/- THE CELL 'sum', in the pinned program and in every row, IS THE sha256 OF THE DUMP (.gsa) THAT YtpoopogojocolaaProg.lean LOADS. Nothing in Lean hashes anything: it is a label: what it is worth is what the hold of that sum in a sandbox is worth. -/
noncomputable def Try.pinned : Pinned := { name := "ytpoopogojocolaa", sum := "cb14382e721b0b3c44e1375bd99bcfcef9fd8732c5ef3c165a6338030ad22ef2", checked := Try.checked }
namespace Rows
def none {H : Type} : Left H := { results := [], args := [] }

/-- 'senvylaw02.StoneMills': WHATEVER THE INPUT: true; the input reads as it did. -/
def stoneMillsSpec : ChangeSpec := { name := "stoneMills", fn := fun _ => fun
  | [d1, d2, d3] => { results := [.lit (.bool true)], args := [d1, d2, d3] }
  | _ => none }
def stoneMillsRow : OpenClaim := { program := "ytpoopogojocolaa", sum := "cb14382e721b0b3c44e1375bd99bcfcef9fd8732c5ef3c165a6338030ad22ef2", func := "senvy/senvylaw02.StoneMills", spec := "stoneMills", inPlace := ["maps.clone"], unfollowed := true, recurses := true, plainKeys := false, apart := false }
def StoneMillsSaid : Prop := stoneMillsRow.holds Try.pinned (OpenSpec.ofChange stoneMillsSpec)

/-- ITS FALSE NEIGHBOUR: 'it returns false'. Refute it at one input. -/
def stoneMillsWrong : ChangeSpec := { name := "stoneMills", fn := fun _ => fun
  | [d1, d2, d3] => { results := [.lit (.bool false)], args := [d1, d2, d3] }
  | _ => none }
def StoneMillsWrongFalsely : Prop := stoneMillsRow.holds Try.pinned (OpenSpec.ofChange stoneMillsWrong)

/-- 'senvylaw02.StonePlans': WHATEVER THE INPUT: true; the input reads as it did. -/
def stonePlansSpec : ChangeSpec := { name := "stonePlans", fn := fun _ => fun
  | [d] => { results := [.lit (.bool true)], args := [d] }
  | _ => none }
def stonePlansRow : OpenClaim := { program := "ytpoopogojocolaa", sum := "cb14382e721b0b3c44e1375bd99bcfcef9fd8732c5ef3c165a6338030ad22ef2", func := "senvy/senvylaw02.StonePlans", spec := "stonePlans", inPlace := ["maps.clone"], unfollowed := true, recurses := true, plainKeys := false, apart := false }
def StonePlansSaid : Prop := stonePlansRow.holds Try.pinned (OpenSpec.ofChange stonePlansSpec)

/-- ITS FALSE NEIGHBOUR: 'it returns false'. Refute it at one input. -/
def stonePlansWrong : ChangeSpec := { name := "stonePlans", fn := fun _ => fun
  | [d] => { results := [.lit (.bool false)], args := [d] }
  | _ => none }
def StonePlansWrongFalsely : Prop := stonePlansRow.holds Try.pinned (OpenSpec.ofChange stonePlansWrong)

/-- 'senvylaw02.StoneSpares': WHATEVER THE INPUT: true; the input reads as it did. -/
def stoneSparesSpec : ChangeSpec := { name := "stoneSpares", fn := fun _ => fun
  | [d1, d2] => { results := [.lit (.bool true)], args := [d1, d2] }
  | _ => none }
def stoneSparesRow : OpenClaim := { program := "ytpoopogojocolaa", sum := "cb14382e721b0b3c44e1375bd99bcfcef9fd8732c5ef3c165a6338030ad22ef2", func := "senvy/senvylaw02.StoneSpares", spec := "stoneSpares", inPlace := ["maps.clone"], unfollowed := true, recurses := true, plainKeys := false, apart := false }
def StoneSparesSaid : Prop := stoneSparesRow.holds Try.pinned (OpenSpec.ofChange stoneSparesSpec)

/-- ITS FALSE NEIGHBOUR: 'it returns false'. Refute it at one input. -/
def stoneSparesWrong : ChangeSpec := { name := "stoneSpares", fn := fun _ => fun
  | [d1, d2] => { results := [.lit (.bool false)], args := [d1, d2] }
  | _ => none }
def StoneSparesWrongFalsely : Prop := stoneSparesRow.holds Try.pinned (OpenSpec.ofChange stoneSparesWrong)

/-- 'senvylaw02.StoneTables': WHATEVER THE INPUT: true; the input reads as it did. -/
def stoneTablesSpec : ChangeSpec := { name := "stoneTables", fn := fun _ => fun
  | [d1, d2] => { results := [.lit (.bool true)], args := [d1, d2] }
  | _ => none }
def stoneTablesRow : OpenClaim := { program := "ytpoopogojocolaa", sum := "cb14382e721b0b3c44e1375bd99bcfcef9fd8732c5ef3c165a6338030ad22ef2", func := "senvy/senvylaw02.StoneTables", spec := "stoneTables", inPlace := ["maps.clone"], unfollowed := true, recurses := true, plainKeys := false, apart := false }
def StoneTablesSaid : Prop := stoneTablesRow.holds Try.pinned (OpenSpec.ofChange stoneTablesSpec)

/-- ITS FALSE NEIGHBOUR: 'it returns false'. Refute it at one input. -/
def stoneTablesWrong : ChangeSpec := { name := "stoneTables", fn := fun _ => fun
  | [d1, d2] => { results := [.lit (.bool false)], args := [d1, d2] }
  | _ => none }
def StoneTablesWrongFalsely : Prop := stoneTablesRow.holds Try.pinned (OpenSpec.ofChange stoneTablesWrong)

/- THE SECOND FORM. 'bulk': how many values and letters a reading holds, each counted each time it is reached (what is shared counts as often as it is met; a slice's spare places count too). A statement '..UptoSaid' is the law's where the arguments, and the package variables that the reading takes, are together of bulk at most 1048576: NARROWER than '..Said'. Prove '..Said' where nothing that the law and all that it calls make is longer than what came in: it says more and counts as full. Else prove '..UptoSaid'. A law counts once. -/
mutual
def uptoBulk {H : Type} : DataW H → Nat
  | .lit (.string bytes) => bytes.length + 1
  | .lit _ => 1
  | .nil => 1
  | .ptr d => uptoBulk d + 1
  | .slice elems spare => uptoBulkAll elems + uptoBulkAll spare + 1
  | .agg parts => uptoBulkAll parts + 1
  | .iface _ d => uptoBulk d + 1
  | .map entries => uptoBulkEntries entries + 1
  | .held _ => 1
def uptoBulkAll {H : Type} : List (DataW H) → Nat
  | [] => 0
  | d :: r => uptoBulk d + uptoBulkAll r
def uptoBulkEntries {H : Type} : List (Lit × DataW H) → Nat
  | [] => 0
  | x :: r => uptoBulkEntry x + uptoBulkEntries r
def uptoBulkEntry {H : Type} : Lit × DataW H → Nat
  | (.string bytes, d) => bytes.length + uptoBulk d + 1
  | (_, d) => uptoBulk d + 1
 end
def uptoSmall : (H : Type) → List (DataW H) → Bool := fun _ ds => decide (uptoBulkAll ds ≤ 1048576)
def OpenSpec.upto (s : _root_.Go.ChangeSpec) : _root_.Go.OpenSpec := { _root_.Go.OpenSpec.ofChange s with cond := some uptoSmall }

/-- 'senvylaw02.StoneMills', WHERE WHAT IT READS IS OF BULK AT MOST 1048576: true; the input reads as it did. -/
def stoneMillsUptoRow : OpenClaim := { program := "ytpoopogojocolaa", sum := "cb14382e721b0b3c44e1375bd99bcfcef9fd8732c5ef3c165a6338030ad22ef2", func := "senvy/senvylaw02.StoneMills", spec := "stoneMills", inPlace := ["maps.clone"], unfollowed := true, recurses := true, plainKeys := false, apart := false, narrowed := true }
def StoneMillsUptoSaid : Prop := stoneMillsUptoRow.holds Try.pinned (OpenSpec.upto stoneMillsSpec)

/-- 'senvylaw02.StonePlans', WHERE WHAT IT READS IS OF BULK AT MOST 1048576: true; the input reads as it did. -/
def stonePlansUptoRow : OpenClaim := { program := "ytpoopogojocolaa", sum := "cb14382e721b0b3c44e1375bd99bcfcef9fd8732c5ef3c165a6338030ad22ef2", func := "senvy/senvylaw02.StonePlans", spec := "stonePlans", inPlace := ["maps.clone"], unfollowed := true, recurses := true, plainKeys := false, apart := false, narrowed := true }
def StonePlansUptoSaid : Prop := stonePlansUptoRow.holds Try.pinned (OpenSpec.upto stonePlansSpec)

/-- 'senvylaw02.StoneSpares', WHERE WHAT IT READS IS OF BULK AT MOST 1048576: true; the input reads as it did. -/
def stoneSparesUptoRow : OpenClaim := { program := "ytpoopogojocolaa", sum := "cb14382e721b0b3c44e1375bd99bcfcef9fd8732c5ef3c165a6338030ad22ef2", func := "senvy/senvylaw02.StoneSpares", spec := "stoneSpares", inPlace := ["maps.clone"], unfollowed := true, recurses := true, plainKeys := false, apart := false, narrowed := true }
def StoneSparesUptoSaid : Prop := stoneSparesUptoRow.holds Try.pinned (OpenSpec.upto stoneSparesSpec)

/-- 'senvylaw02.StoneTables', WHERE WHAT IT READS IS OF BULK AT MOST 1048576: true; the input reads as it did. -/
def stoneTablesUptoRow : OpenClaim := { program := "ytpoopogojocolaa", sum := "cb14382e721b0b3c44e1375bd99bcfcef9fd8732c5ef3c165a6338030ad22ef2", func := "senvy/senvylaw02.StoneTables", spec := "stoneTables", inPlace := ["maps.clone"], unfollowed := true, recurses := true, plainKeys := false, apart := false, narrowed := true }
def StoneTablesUptoSaid : Prop := stoneTablesUptoRow.holds Try.pinned (OpenSpec.upto stoneTablesSpec)

end Rows
end Go.Proofs.Ytpoopogojocolaa
