/-
  No cell of these rows narrows 'for every input' (looked for: loops, veiled, ifaces, maps, wideKeys, modest, calm, conditions, laid).
  DERIVED. THE GIVEN ROWS OF THIS SEAT. 6 by the template 'for every input the law returns true; each argument reads behind the call as it read before'; 0 by the template 'total and deterministic' (their statements: YthhmamdgpfgpfaaTotals.lean).
  GIVEN WITH THE SEED: the statements are not yours to turn. If you find one false, say at which input.
  Laid BY PROGRAM, IN A SANDBOX (cutbox-rows.mjs): the forced cells as the released guide's own fill.sh prints them over the translation 7766e876c4b40f7c… (all of the seat's roots in one cut). By AI agents, Wed Nov 11 2026. No macro, syntax, notation, axiom, sorry.
-/
import Derived.Test.YthhmamdgpfgpfaaChecked
import GoSem.Claim
import GoSem.ClaimJoined
import GoSem.ClaimMapViews
import Derived.JoinedTies
import Derived.KernelRfl
namespace Go.Proofs.Ythhmamdgpfgpfaa
/- THE CELL 'sum', in the pinned program and in every row, IS THE sha256 OF THE DUMP (.gsa) THAT YthhmamdgpfgpfaaProg.lean LOADS. Nothing in Lean hashes anything: it is a label: what it is worth is what the hold of that sum in a sandbox is worth. -/
noncomputable def Try.pinned : Pinned := { name := "ythhmamdgpfgpfaa", sum := "7766e876c4b40f7c808b98094258ddfe6eb509111742ea3e187288239e6185fe", checked := Try.checked }
namespace Rows
def none {H : Type} : Left H := { results := [], args := [] }

/-- 'windhoverlaw12.VotePlays': WHATEVER THE INPUT: true; the input reads as it did. -/
def votePlaysSpec : ChangeSpec := { name := "votePlays", fn := fun _ => fun
  | [d1, d2, d3] => { results := [.lit (.bool true)], args := [d1, d2, d3] }
  | _ => none }
def votePlaysRow : OpenClaim := { program := "ythhmamdgpfgpfaa", sum := "7766e876c4b40f7c808b98094258ddfe6eb509111742ea3e187288239e6185fe", func := "windhover/windhoverlaw12.VotePlays", spec := "votePlays", recurses := true, apart := false }
def VotePlaysSaid : Prop := votePlaysRow.holds Try.pinned (OpenSpec.ofChange votePlaysSpec)

/-- ITS FALSE NEIGHBOUR: 'it returns false'. Refute it at one input. -/
def votePlaysWrong : ChangeSpec := { name := "votePlays", fn := fun _ => fun
  | [d1, d2, d3] => { results := [.lit (.bool false)], args := [d1, d2, d3] }
  | _ => none }
def VotePlaysWrongFalsely : Prop := votePlaysRow.holds Try.pinned (OpenSpec.ofChange votePlaysWrong)

/-- 'windhoverlaw12.VoteHolds': WHATEVER THE INPUT: true; the input reads as it did. -/
def voteHoldsSpec : ChangeSpec := { name := "voteHolds", fn := fun _ => fun
  | [d1, d2, d3] => { results := [.lit (.bool true)], args := [d1, d2, d3] }
  | _ => none }
def voteHoldsRow : OpenClaim := { program := "ythhmamdgpfgpfaa", sum := "7766e876c4b40f7c808b98094258ddfe6eb509111742ea3e187288239e6185fe", func := "windhover/windhoverlaw12.VoteHolds", spec := "voteHolds", recurses := true, apart := false }
def VoteHoldsSaid : Prop := voteHoldsRow.holds Try.pinned (OpenSpec.ofChange voteHoldsSpec)

/-- ITS FALSE NEIGHBOUR: 'it returns false'. Refute it at one input. -/
def voteHoldsWrong : ChangeSpec := { name := "voteHolds", fn := fun _ => fun
  | [d1, d2, d3] => { results := [.lit (.bool false)], args := [d1, d2, d3] }
  | _ => none }
def VoteHoldsWrongFalsely : Prop := voteHoldsRow.holds Try.pinned (OpenSpec.ofChange voteHoldsWrong)

/-- 'windhoverlaw12.VoteTurns': WHATEVER THE INPUT: true; the input reads as it did. -/
def voteTurnsSpec : ChangeSpec := { name := "voteTurns", fn := fun _ => fun
  | [d1, d2, d3] => { results := [.lit (.bool true)], args := [d1, d2, d3] }
  | _ => none }
def voteTurnsRow : OpenClaim := { program := "ythhmamdgpfgpfaa", sum := "7766e876c4b40f7c808b98094258ddfe6eb509111742ea3e187288239e6185fe", func := "windhover/windhoverlaw12.VoteTurns", spec := "voteTurns", recurses := true, apart := false }
def VoteTurnsSaid : Prop := voteTurnsRow.holds Try.pinned (OpenSpec.ofChange voteTurnsSpec)

/-- ITS FALSE NEIGHBOUR: 'it returns false'. Refute it at one input. -/
def voteTurnsWrong : ChangeSpec := { name := "voteTurns", fn := fun _ => fun
  | [d1, d2, d3] => { results := [.lit (.bool false)], args := [d1, d2, d3] }
  | _ => none }
def VoteTurnsWrongFalsely : Prop := voteTurnsRow.holds Try.pinned (OpenSpec.ofChange voteTurnsWrong)

/-- 'windhoverlaw12.VoteBetween': WHATEVER THE INPUT: true; the input reads as it did. -/
def voteBetweenSpec : ChangeSpec := { name := "voteBetween", fn := fun _ => fun
  | [d] => { results := [.lit (.bool true)], args := [d] }
  | _ => none }
def voteBetweenRow : OpenClaim := { program := "ythhmamdgpfgpfaa", sum := "7766e876c4b40f7c808b98094258ddfe6eb509111742ea3e187288239e6185fe", func := "windhover/windhoverlaw12.VoteBetween", spec := "voteBetween", recurses := true, apart := false }
def VoteBetweenSaid : Prop := voteBetweenRow.holds Try.pinned (OpenSpec.ofChange voteBetweenSpec)

/-- ITS FALSE NEIGHBOUR: 'it returns false'. Refute it at one input. -/
def voteBetweenWrong : ChangeSpec := { name := "voteBetween", fn := fun _ => fun
  | [d] => { results := [.lit (.bool false)], args := [d] }
  | _ => none }
def VoteBetweenWrongFalsely : Prop := voteBetweenRow.holds Try.pinned (OpenSpec.ofChange voteBetweenWrong)

/-- 'windhoverlaw12.VoteAges': WHATEVER THE INPUT: true; the input reads as it did. -/
def voteAgesSpec : ChangeSpec := { name := "voteAges", fn := fun _ => fun
  | [d1, d2, d3] => { results := [.lit (.bool true)], args := [d1, d2, d3] }
  | _ => none }
def voteAgesRow : OpenClaim := { program := "ythhmamdgpfgpfaa", sum := "7766e876c4b40f7c808b98094258ddfe6eb509111742ea3e187288239e6185fe", func := "windhover/windhoverlaw12.VoteAges", spec := "voteAges", recurses := true, apart := false }
def VoteAgesSaid : Prop := voteAgesRow.holds Try.pinned (OpenSpec.ofChange voteAgesSpec)

/-- ITS FALSE NEIGHBOUR: 'it returns false'. Refute it at one input. -/
def voteAgesWrong : ChangeSpec := { name := "voteAges", fn := fun _ => fun
  | [d1, d2, d3] => { results := [.lit (.bool false)], args := [d1, d2, d3] }
  | _ => none }
def VoteAgesWrongFalsely : Prop := voteAgesRow.holds Try.pinned (OpenSpec.ofChange voteAgesWrong)

/-- 'windhoverlaw12.VoteNil': WHATEVER THE INPUT: true; the input reads as it did. -/
def voteNilSpec : ChangeSpec := { name := "voteNil", fn := fun _ => fun
  | [d] => { results := [.lit (.bool true)], args := [d] }
  | _ => none }
def voteNilRow : OpenClaim := { program := "ythhmamdgpfgpfaa", sum := "7766e876c4b40f7c808b98094258ddfe6eb509111742ea3e187288239e6185fe", func := "windhover/windhoverlaw12.VoteNil", spec := "voteNil", recurses := true, apart := false }
def VoteNilSaid : Prop := voteNilRow.holds Try.pinned (OpenSpec.ofChange voteNilSpec)

/-- ITS FALSE NEIGHBOUR: 'it returns false'. Refute it at one input. -/
def voteNilWrong : ChangeSpec := { name := "voteNil", fn := fun _ => fun
  | [d] => { results := [.lit (.bool false)], args := [d] }
  | _ => none }
def VoteNilWrongFalsely : Prop := voteNilRow.holds Try.pinned (OpenSpec.ofChange voteNilWrong)

/- THE SECOND FORM. 'bulk': how many values and letters a reading holds, each counted each time it is reached (what is shared counts as often as it is met; a slice's spare places count too). A statement '..UptoSaid' is the law's where the arguments, and the package variables that the reading takes, are together of bulk at most 1048576: NARROWER than '..Said'. Prove '..Said' where nothing that the law and all that it calls make is longer than what came in: it says more and counts as full. Else prove '..UptoSaid'. A law counts once. -/
mutual
def uptoBulk {H : Type} : DataW H → Nat
  | .lit (.string bytes) => bytes.length + 1
  | .lit _ => 1
  | .nil => 1
  | .ptr d => uptoBulk d + 1
  | .slice elems spare => uptoBulkAll elems + uptoBulkAll spare + 1
  | .agg parts => uptoBulkAll parts + 1
  | .iface _ d => uptoBulk d + 1
  | .map entries => uptoBulkEntries entries + 1
  | .held _ => 1
def uptoBulkAll {H : Type} : List (DataW H) → Nat
  | [] => 0
  | d :: r => uptoBulk d + uptoBulkAll r
def uptoBulkEntries {H : Type} : List (Lit × DataW H) → Nat
  | [] => 0
  | x :: r => uptoBulkEntry x + uptoBulkEntries r
def uptoBulkEntry {H : Type} : Lit × DataW H → Nat
  | (.string bytes, d) => bytes.length + uptoBulk d + 1
  | (_, d) => uptoBulk d + 1
 end
def uptoSmall : (H : Type) → List (DataW H) → Bool := fun _ ds => decide (uptoBulkAll ds ≤ 1048576)
def OpenSpec.upto (s : _root_.Go.ChangeSpec) : _root_.Go.OpenSpec := { _root_.Go.OpenSpec.ofChange s with cond := some uptoSmall }

/-- 'windhoverlaw12.VotePlays', WHERE WHAT IT READS IS OF BULK AT MOST 1048576: true; the input reads as it did. -/
def votePlaysUptoRow : OpenClaim := { program := "ythhmamdgpfgpfaa", sum := "7766e876c4b40f7c808b98094258ddfe6eb509111742ea3e187288239e6185fe", func := "windhover/windhoverlaw12.VotePlays", spec := "votePlays", recurses := true, apart := false, narrowed := true }
def VotePlaysUptoSaid : Prop := votePlaysUptoRow.holds Try.pinned (OpenSpec.upto votePlaysSpec)

/-- 'windhoverlaw12.VoteHolds', WHERE WHAT IT READS IS OF BULK AT MOST 1048576: true; the input reads as it did. -/
def voteHoldsUptoRow : OpenClaim := { program := "ythhmamdgpfgpfaa", sum := "7766e876c4b40f7c808b98094258ddfe6eb509111742ea3e187288239e6185fe", func := "windhover/windhoverlaw12.VoteHolds", spec := "voteHolds", recurses := true, apart := false, narrowed := true }
def VoteHoldsUptoSaid : Prop := voteHoldsUptoRow.holds Try.pinned (OpenSpec.upto voteHoldsSpec)

/-- 'windhoverlaw12.VoteTurns', WHERE WHAT IT READS IS OF BULK AT MOST 1048576: true; the input reads as it did. -/
def voteTurnsUptoRow : OpenClaim := { program := "ythhmamdgpfgpfaa", sum := "7766e876c4b40f7c808b98094258ddfe6eb509111742ea3e187288239e6185fe", func := "windhover/windhoverlaw12.VoteTurns", spec := "voteTurns", recurses := true, apart := false, narrowed := true }
def VoteTurnsUptoSaid : Prop := voteTurnsUptoRow.holds Try.pinned (OpenSpec.upto voteTurnsSpec)

/-- 'windhoverlaw12.VoteBetween', WHERE WHAT IT READS IS OF BULK AT MOST 1048576: true; the input reads as it did. -/
def voteBetweenUptoRow : OpenClaim := { program := "ythhmamdgpfgpfaa", sum := "7766e876c4b40f7c808b98094258ddfe6eb509111742ea3e187288239e6185fe", func := "windhover/windhoverlaw12.VoteBetween", spec := "voteBetween", recurses := true, apart := false, narrowed := true }
def VoteBetweenUptoSaid : Prop := voteBetweenUptoRow.holds Try.pinned (OpenSpec.upto voteBetweenSpec)

/-- 'windhoverlaw12.VoteAges', WHERE WHAT IT READS IS OF BULK AT MOST 1048576: true; the input reads as it did. -/
def voteAgesUptoRow : OpenClaim := { program := "ythhmamdgpfgpfaa", sum := "7766e876c4b40f7c808b98094258ddfe6eb509111742ea3e187288239e6185fe", func := "windhover/windhoverlaw12.VoteAges", spec := "voteAges", recurses := true, apart := false, narrowed := true }
def VoteAgesUptoSaid : Prop := voteAgesUptoRow.holds Try.pinned (OpenSpec.upto voteAgesSpec)

/-- 'windhoverlaw12.VoteNil', WHERE WHAT IT READS IS OF BULK AT MOST 1048576: true; the input reads as it did. -/
def voteNilUptoRow : OpenClaim := { program := "ythhmamdgpfgpfaa", sum := "7766e876c4b40f7c808b98094258ddfe6eb509111742ea3e187288239e6185fe", func := "windhover/windhoverlaw12.VoteNil", spec := "voteNil", recurses := true, apart := false, narrowed := true }
def VoteNilUptoSaid : Prop := voteNilUptoRow.holds Try.pinned (OpenSpec.upto voteNilSpec)

end Rows
end Go.Proofs.Ythhmamdgpfgpfaa
