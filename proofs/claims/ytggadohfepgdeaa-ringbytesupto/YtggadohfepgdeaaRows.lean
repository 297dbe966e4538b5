/-
  No cell of these rows narrows 'for every input' (looked for: loops, veiled, ifaces, maps, wideKeys, modest, calm, conditions, laid).
  DERIVED. THE GIVEN ROWS OF THIS SEAT. 5 by the template 'for every input the law returns true; each argument reads behind the call as it read before'; 0 by the template 'total and deterministic' (their statements: YtggadohfepgdeaaTotals.lean).
  GIVEN WITH THE SEED: the statements are not yours to turn. If you find one false, say at which input.
  Laid BY PROGRAM, IN A SANDBOX (cutbox-rows.mjs): the forced cells as the released guide's own fill.sh prints them over the translation 61761490896dbae1… (all of the seat's roots in one cut). By AI agents, Wed Nov 11 2026. No macro, syntax, notation, axiom, sorry.
-/
import Derived.Test.YtggadohfepgdeaaChecked
import GoSem.Claim
import GoSem.ClaimJoined
import GoSem.ClaimMapViews
import Derived.JoinedTies
import Derived.KernelRfl
namespace Go.Proofs.Ytggadohfepgdeaa
/- THE CELL 'sum', in the pinned program and in every row, IS THE sha256 OF THE DUMP (.gsa) THAT YtggadohfepgdeaaProg.lean LOADS. Nothing in Lean hashes anything: it is a label: what it is worth is what the hold of that sum in a sandbox is worth. -/
noncomputable def Try.pinned : Pinned := { name := "ytggadohfepgdeaa", sum := "61761490896dbae1493b73c739302e36e7ac003888a79969492ef12982060cb6", checked := Try.checked }
namespace Rows
def none {H : Type} : Left H := { results := [], args := [] }

/-- 'tidewracklaw13.RingReplicas': WHATEVER THE INPUT: true; the input reads as it did. -/
def ringReplicasSpec : ChangeSpec := { name := "ringReplicas", fn := fun _ => fun
  | [d1, d2, d3] => { results := [.lit (.bool true)], args := [d1, d2, d3] }
  | _ => none }
def ringReplicasRow : OpenClaim := { program := "ytggadohfepgdeaa", sum := "61761490896dbae1493b73c739302e36e7ac003888a79969492ef12982060cb6", func := "tidewrack/tidewracklaw13.RingReplicas", spec := "ringReplicas", inPlace := ["slices.overlaps[tidewrack/api.Member]"], unfollowed := true, recurses := true, apart := false }
def RingReplicasSaid : Prop := ringReplicasRow.holds Try.pinned (OpenSpec.ofChange ringReplicasSpec)

/-- ITS FALSE NEIGHBOUR: 'it returns false'. Refute it at one input. -/
def ringReplicasWrong : ChangeSpec := { name := "ringReplicas", fn := fun _ => fun
  | [d1, d2, d3] => { results := [.lit (.bool false)], args := [d1, d2, d3] }
  | _ => none }
def RingReplicasWrongFalsely : Prop := ringReplicasRow.holds Try.pinned (OpenSpec.ofChange ringReplicasWrong)

/-- 'tidewracklaw13.RingBytes': WHATEVER THE INPUT: true; the input reads as it did. -/
def ringBytesSpec : ChangeSpec := { name := "ringBytes", fn := fun _ => fun
  | [d1, d2] => { results := [.lit (.bool true)], args := [d1, d2] }
  | _ => none }
def ringBytesRow : OpenClaim := { program := "ytggadohfepgdeaa", sum := "61761490896dbae1493b73c739302e36e7ac003888a79969492ef12982060cb6", func := "tidewrack/tidewracklaw13.RingBytes", spec := "ringBytes", inPlace := ["slices.overlaps[tidewrack/api.Member]"], unfollowed := true, recurses := true, apart := false }
def RingBytesSaid : Prop := ringBytesRow.holds Try.pinned (OpenSpec.ofChange ringBytesSpec)

/-- ITS FALSE NEIGHBOUR: 'it returns false'. Refute it at one input. -/
def ringBytesWrong : ChangeSpec := { name := "ringBytes", fn := fun _ => fun
  | [d1, d2] => { results := [.lit (.bool false)], args := [d1, d2] }
  | _ => none }
def RingBytesWrongFalsely : Prop := ringBytesRow.holds Try.pinned (OpenSpec.ofChange ringBytesWrong)

/-- 'tidewracklaw13.RingFew': WHATEVER THE INPUT: true; the input reads as it did. -/
def ringFewSpec : ChangeSpec := { name := "ringFew", fn := fun _ => fun
  | [d1, d2] => { results := [.lit (.bool true)], args := [d1, d2] }
  | _ => none }
def ringFewRow : OpenClaim := { program := "ytggadohfepgdeaa", sum := "61761490896dbae1493b73c739302e36e7ac003888a79969492ef12982060cb6", func := "tidewrack/tidewracklaw13.RingFew", spec := "ringFew", inPlace := ["slices.overlaps[tidewrack/api.Member]"], unfollowed := true, recurses := true, apart := false }
def RingFewSaid : Prop := ringFewRow.holds Try.pinned (OpenSpec.ofChange ringFewSpec)

/-- ITS FALSE NEIGHBOUR: 'it returns false'. Refute it at one input. -/
def ringFewWrong : ChangeSpec := { name := "ringFew", fn := fun _ => fun
  | [d1, d2] => { results := [.lit (.bool false)], args := [d1, d2] }
  | _ => none }
def RingFewWrongFalsely : Prop := ringFewRow.holds Try.pinned (OpenSpec.ofChange ringFewWrong)

/-- 'tidewracklaw13.RingTurns': WHATEVER THE INPUT: true; the input reads as it did. -/
def ringTurnsSpec : ChangeSpec := { name := "ringTurns", fn := fun _ => fun
  | [d1, d2, d3, d4] => { results := [.lit (.bool true)], args := [d1, d2, d3, d4] }
  | _ => none }
def ringTurnsRow : OpenClaim := { program := "ytggadohfepgdeaa", sum := "61761490896dbae1493b73c739302e36e7ac003888a79969492ef12982060cb6", func := "tidewrack/tidewracklaw13.RingTurns", spec := "ringTurns", inPlace := ["slices.overlaps[tidewrack/api.Member]"], unfollowed := true, recurses := true, apart := false }
def RingTurnsSaid : Prop := ringTurnsRow.holds Try.pinned (OpenSpec.ofChange ringTurnsSpec)

/-- ITS FALSE NEIGHBOUR: 'it returns false'. Refute it at one input. -/
def ringTurnsWrong : ChangeSpec := { name := "ringTurns", fn := fun _ => fun
  | [d1, d2, d3, d4] => { results := [.lit (.bool false)], args := [d1, d2, d3, d4] }
  | _ => none }
def RingTurnsWrongFalsely : Prop := ringTurnsRow.holds Try.pinned (OpenSpec.ofChange ringTurnsWrong)

/-- 'tidewracklaw13.RingRounds': WHATEVER THE INPUT: true; the input reads as it did. -/
def ringRoundsSpec : ChangeSpec := { name := "ringRounds", fn := fun _ => fun
  | [d1, d2] => { results := [.lit (.bool true)], args := [d1, d2] }
  | _ => none }
def ringRoundsRow : OpenClaim := { program := "ytggadohfepgdeaa", sum := "61761490896dbae1493b73c739302e36e7ac003888a79969492ef12982060cb6", func := "tidewrack/tidewracklaw13.RingRounds", spec := "ringRounds", inPlace := ["slices.overlaps[tidewrack/api.Member]"], unfollowed := true, recurses := true, apart := false }
def RingRoundsSaid : Prop := ringRoundsRow.holds Try.pinned (OpenSpec.ofChange ringRoundsSpec)

/-- ITS FALSE NEIGHBOUR: 'it returns false'. Refute it at one input. -/
def ringRoundsWrong : ChangeSpec := { name := "ringRounds", fn := fun _ => fun
  | [d1, d2] => { results := [.lit (.bool false)], args := [d1, d2] }
  | _ => none }
def RingRoundsWrongFalsely : Prop := ringRoundsRow.holds Try.pinned (OpenSpec.ofChange ringRoundsWrong)

/- THE SECOND FORM. 'bulk': how many values and letters a reading holds, each counted each time it is reached (what is shared counts as often as it is met; a slice's spare places count too). A statement '..UptoSaid' is the law's where the arguments, and the package variables that the reading takes, are together of bulk at most 1048576: NARROWER than '..Said'. Prove '..Said' where nothing that the law and all that it calls make is longer than what came in: it says more and counts as full. Else prove '..UptoSaid'. A law counts once. -/
mutual
def uptoBulk {H : Type} : DataW H → Nat
  | .lit (.string bytes) => bytes.length + 1
  | .lit _ => 1
  | .nil => 1
  | .ptr d => uptoBulk d + 1
  | .slice elems spare => uptoBulkAll elems + uptoBulkAll spare + 1
  | .agg parts => uptoBulkAll parts + 1
  | .iface _ d => uptoBulk d + 1
  | .map entries => uptoBulkEntries entries + 1
  | .held _ => 1
def uptoBulkAll {H : Type} : List (DataW H) → Nat
  | [] => 0
  | d :: r => uptoBulk d + uptoBulkAll r
def uptoBulkEntries {H : Type} : List (Lit × DataW H) → Nat
  | [] => 0
  | x :: r => uptoBulkEntry x + uptoBulkEntries r
def uptoBulkEntry {H : Type} : Lit × DataW H → Nat
  | (.string bytes, d) => bytes.length + uptoBulk d + 1
  | (_, d) => uptoBulk d + 1
 end
def uptoSmall : (H : Type) → List (DataW H) → Bool := fun _ ds => decide (uptoBulkAll ds ≤ 1048576)
def OpenSpec.upto (s : _root_.Go.ChangeSpec) : _root_.Go.OpenSpec := { _root_.Go.OpenSpec.ofChange s with cond := some uptoSmall }

/-- 'tidewracklaw13.RingReplicas', WHERE WHAT IT READS IS OF BULK AT MOST 1048576: true; the input reads as it did. -/
def ringReplicasUptoRow : OpenClaim := { program := "ytggadohfepgdeaa", sum := "61761490896dbae1493b73c739302e36e7ac003888a79969492ef12982060cb6", func := "tidewrack/tidewracklaw13.RingReplicas", spec := "ringReplicas", inPlace := ["slices.overlaps[tidewrack/api.Member]"], unfollowed := true, recurses := true, apart := false, narrowed := true }
def RingReplicasUptoSaid : Prop := ringReplicasUptoRow.holds Try.pinned (OpenSpec.upto ringReplicasSpec)

/-- 'tidewracklaw13.RingBytes', WHERE WHAT IT READS IS OF BULK AT MOST 1048576: true; the input reads as it did. -/
def ringBytesUptoRow : OpenClaim := { program := "ytggadohfepgdeaa", sum := "61761490896dbae1493b73c739302e36e7ac003888a79969492ef12982060cb6", func := "tidewrack/tidewracklaw13.RingBytes", spec := "ringBytes", inPlace := ["slices.overlaps[tidewrack/api.Member]"], unfollowed := true, recurses := true, apart := false, narrowed := true }
def RingBytesUptoSaid : Prop := ringBytesUptoRow.holds Try.pinned (OpenSpec.upto ringBytesSpec)

/-- 'tidewracklaw13.RingFew', WHERE WHAT IT READS IS OF BULK AT MOST 1048576: true; the input reads as it did. -/
def ringFewUptoRow : OpenClaim := { program := "ytggadohfepgdeaa", sum := "61761490896dbae1493b73c739302e36e7ac003888a79969492ef12982060cb6", func := "tidewrack/tidewracklaw13.RingFew", spec := "ringFew", inPlace := ["slices.overlaps[tidewrack/api.Member]"], unfollowed := true, recurses := true, apart := false, narrowed := true }
def RingFewUptoSaid : Prop := ringFewUptoRow.holds Try.pinned (OpenSpec.upto ringFewSpec)

/-- 'tidewracklaw13.RingTurns', WHERE WHAT IT READS IS OF BULK AT MOST 1048576: true; the input reads as it did. -/
def ringTurnsUptoRow : OpenClaim := { program := "ytggadohfepgdeaa", sum := "61761490896dbae1493b73c739302e36e7ac003888a79969492ef12982060cb6", func := "tidewrack/tidewracklaw13.RingTurns", spec := "ringTurns", inPlace := ["slices.overlaps[tidewrack/api.Member]"], unfollowed := true, recurses := true, apart := false, narrowed := true }
def RingTurnsUptoSaid : Prop := ringTurnsUptoRow.holds Try.pinned (OpenSpec.upto ringTurnsSpec)

/-- 'tidewracklaw13.RingRounds', WHERE WHAT IT READS IS OF BULK AT MOST 1048576: true; the input reads as it did. -/
def ringRoundsUptoRow : OpenClaim := { program := "ytggadohfepgdeaa", sum := "61761490896dbae1493b73c739302e36e7ac003888a79969492ef12982060cb6", func := "tidewrack/tidewracklaw13.RingRounds", spec := "ringRounds", inPlace := ["slices.overlaps[tidewrack/api.Member]"], unfollowed := true, recurses := true, apart := false, narrowed := true }
def RingRoundsUptoSaid : Prop := ringRoundsUptoRow.holds Try.pinned (OpenSpec.upto ringRoundsSpec)

end Rows
end Go.Proofs.Ytggadohfepgdeaa
