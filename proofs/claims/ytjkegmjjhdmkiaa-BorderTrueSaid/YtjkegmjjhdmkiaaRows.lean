/-
  No cell of these rows narrows 'for every input' (looked for: loops, veiled, ifaces, maps, wideKeys, modest, calm, conditions, laid).
  DERIVED. THE GIVEN ROWS OF THIS SEAT. 8 by the template 'for every input the law returns true; each argument reads behind the call as it read before'; 0 by the template 'total and deterministic' (their statements: YtjkegmjjhdmkiaaTotals.lean).
  GIVEN WITH THE SEED: the statements are not yours to turn. If you find one false, say at which input.
  Laid BY PROGRAM, IN A SANDBOX (cutbox-rows.mjs): the forced cells as the released guide's own fill.sh prints them over the translation dd31b39c7f44904f… (all of the seat's roots in one cut). By AI agents, Wed Nov 11 2026. No macro, syntax, notation, axiom, sorry.
-/
import Derived.Test.YtjkegmjjhdmkiaaChecked
import GoSem.Claim
import GoSem.ClaimJoined
import GoSem.ClaimMapViews
import Derived.JoinedTies
import Derived.KernelRfl
namespace Go.Proofs.Ytjkegmjjhdmkiaa
/- THE CELL 'sum', in the pinned program and in every row, IS THE sha256 OF THE DUMP (.gsa) THAT YtjkegmjjhdmkiaaProg.lean LOADS. Nothing in Lean hashes anything: it is a label: what it is worth is what the hold of that sum in a sandbox is worth. -/
noncomputable def Try.pinned : Pinned := { name := "ytjkegmjjhdmkiaa", sum := "dd31b39c7f44904fab5ecb66595343329f342ead152620a1cce347fc056f5def", checked := Try.checked }
namespace Rows
def none {H : Type} : Left H := { results := [], args := [] }

/-- 'zoneworkslaw06.BorderShifts': WHATEVER THE INPUT: true; the input reads as it did. -/
def borderShiftsSpec : ChangeSpec := { name := "borderShifts", fn := fun _ => fun
  | [d1, d2, d3, d4, d5] => { results := [.lit (.bool true)], args := [d1, d2, d3, d4, d5] }
  | _ => none }
def borderShiftsRow : OpenClaim := { program := "ytjkegmjjhdmkiaa", sum := "dd31b39c7f44904fab5ecb66595343329f342ead152620a1cce347fc056f5def", func := "zoneworks/zoneworkslaw06.BorderShifts", spec := "borderShifts", unfollowed := true, recurses := true, plainKeys := false, apart := false }
def BorderShiftsSaid : Prop := borderShiftsRow.holds Try.pinned (OpenSpec.ofChange borderShiftsSpec)

/-- ITS FALSE NEIGHBOUR: 'it returns false'. Refute it at one input. -/
def borderShiftsWrong : ChangeSpec := { name := "borderShifts", fn := fun _ => fun
  | [d1, d2, d3, d4, d5] => { results := [.lit (.bool false)], args := [d1, d2, d3, d4, d5] }
  | _ => none }
def BorderShiftsWrongFalsely : Prop := borderShiftsRow.holds Try.pinned (OpenSpec.ofChange borderShiftsWrong)

/-- 'zoneworkslaw06.BorderStars': WHATEVER THE INPUT: true; the input reads as it did. -/
def borderStarsSpec : ChangeSpec := { name := "borderStars", fn := fun _ => fun
  | [d] => { results := [.lit (.bool true)], args := [d] }
  | _ => none }
def borderStarsRow : OpenClaim := { program := "ytjkegmjjhdmkiaa", sum := "dd31b39c7f44904fab5ecb66595343329f342ead152620a1cce347fc056f5def", func := "zoneworks/zoneworkslaw06.BorderStars", spec := "borderStars", unfollowed := true, recurses := true, plainKeys := false, apart := false }
def BorderStarsSaid : Prop := borderStarsRow.holds Try.pinned (OpenSpec.ofChange borderStarsSpec)

/-- ITS FALSE NEIGHBOUR: 'it returns false'. Refute it at one input. -/
def borderStarsWrong : ChangeSpec := { name := "borderStars", fn := fun _ => fun
  | [d] => { results := [.lit (.bool false)], args := [d] }
  | _ => none }
def BorderStarsWrongFalsely : Prop := borderStarsRow.holds Try.pinned (OpenSpec.ofChange borderStarsWrong)

/-- 'zoneworkslaw06.BorderTrue': WHATEVER THE INPUT: true; the input reads as it did. -/
def borderTrueSpec : ChangeSpec := { name := "borderTrue", fn := fun _ => fun
  | [d] => { results := [.lit (.bool true)], args := [d] }
  | _ => none }
def borderTrueRow : OpenClaim := { program := "ytjkegmjjhdmkiaa", sum := "dd31b39c7f44904fab5ecb66595343329f342ead152620a1cce347fc056f5def", func := "zoneworks/zoneworkslaw06.BorderTrue", spec := "borderTrue", unfollowed := true, recurses := true, plainKeys := false, apart := false }
def BorderTrueSaid : Prop := borderTrueRow.holds Try.pinned (OpenSpec.ofChange borderTrueSpec)

/-- ITS FALSE NEIGHBOUR: 'it returns false'. Refute it at one input. -/
def borderTrueWrong : ChangeSpec := { name := "borderTrue", fn := fun _ => fun
  | [d] => { results := [.lit (.bool false)], args := [d] }
  | _ => none }
def BorderTrueWrongFalsely : Prop := borderTrueRow.holds Try.pinned (OpenSpec.ofChange borderTrueWrong)

/-- 'zoneworkslaw06.BorderBest': WHATEVER THE INPUT: true; the input reads as it did. -/
def borderBestSpec : ChangeSpec := { name := "borderBest", fn := fun _ => fun
  | [d1, d2, d3, d4] => { results := [.lit (.bool true)], args := [d1, d2, d3, d4] }
  | _ => none }
def borderBestRow : OpenClaim := { program := "ytjkegmjjhdmkiaa", sum := "dd31b39c7f44904fab5ecb66595343329f342ead152620a1cce347fc056f5def", func := "zoneworks/zoneworkslaw06.BorderBest", spec := "borderBest", unfollowed := true, recurses := true, plainKeys := false, apart := false }
def BorderBestSaid : Prop := borderBestRow.holds Try.pinned (OpenSpec.ofChange borderBestSpec)

/-- ITS FALSE NEIGHBOUR: 'it returns false'. Refute it at one input. -/
def borderBestWrong : ChangeSpec := { name := "borderBest", fn := fun _ => fun
  | [d1, d2, d3, d4] => { results := [.lit (.bool false)], args := [d1, d2, d3, d4] }
  | _ => none }
def BorderBestWrongFalsely : Prop := borderBestRow.holds Try.pinned (OpenSpec.ofChange borderBestWrong)

/-- 'zoneworkslaw06.BorderPairs': WHATEVER THE INPUT: true; the input reads as it did. -/
def borderPairsSpec : ChangeSpec := { name := "borderPairs", fn := fun _ => fun
  | [d] => { results := [.lit (.bool true)], args := [d] }
  | _ => none }
def borderPairsRow : OpenClaim := { program := "ytjkegmjjhdmkiaa", sum := "dd31b39c7f44904fab5ecb66595343329f342ead152620a1cce347fc056f5def", func := "zoneworks/zoneworkslaw06.BorderPairs", spec := "borderPairs", unfollowed := true, recurses := true, plainKeys := false, apart := false }
def BorderPairsSaid : Prop := borderPairsRow.holds Try.pinned (OpenSpec.ofChange borderPairsSpec)

/-- ITS FALSE NEIGHBOUR: 'it returns false'. Refute it at one input. -/
def borderPairsWrong : ChangeSpec := { name := "borderPairs", fn := fun _ => fun
  | [d] => { results := [.lit (.bool false)], args := [d] }
  | _ => none }
def BorderPairsWrongFalsely : Prop := borderPairsRow.holds Try.pinned (OpenSpec.ofChange borderPairsWrong)

/-- 'zoneworkslaw06.BorderClash': WHATEVER THE INPUT: true; the input reads as it did. -/
def borderClashSpec : ChangeSpec := { name := "borderClash", fn := fun _ => fun
  | [d1, d2, d3] => { results := [.lit (.bool true)], args := [d1, d2, d3] }
  | _ => none }
def borderClashRow : OpenClaim := { program := "ytjkegmjjhdmkiaa", sum := "dd31b39c7f44904fab5ecb66595343329f342ead152620a1cce347fc056f5def", func := "zoneworks/zoneworkslaw06.BorderClash", spec := "borderClash", unfollowed := true, recurses := true, plainKeys := false, apart := false }
def BorderClashSaid : Prop := borderClashRow.holds Try.pinned (OpenSpec.ofChange borderClashSpec)

/-- ITS FALSE NEIGHBOUR: 'it returns false'. Refute it at one input. -/
def borderClashWrong : ChangeSpec := { name := "borderClash", fn := fun _ => fun
  | [d1, d2, d3] => { results := [.lit (.bool false)], args := [d1, d2, d3] }
  | _ => none }
def BorderClashWrongFalsely : Prop := borderClashRow.holds Try.pinned (OpenSpec.ofChange borderClashWrong)

/-- 'zoneworkslaw06.BorderMore': WHATEVER THE INPUT: true; the input reads as it did. -/
def borderMoreSpec : ChangeSpec := { name := "borderMore", fn := fun _ => fun
  | [d1, d2, d3] => { results := [.lit (.bool true)], args := [d1, d2, d3] }
  | _ => none }
def borderMoreRow : OpenClaim := { program := "ytjkegmjjhdmkiaa", sum := "dd31b39c7f44904fab5ecb66595343329f342ead152620a1cce347fc056f5def", func := "zoneworks/zoneworkslaw06.BorderMore", spec := "borderMore", unfollowed := true, recurses := true, plainKeys := false, apart := false }
def BorderMoreSaid : Prop := borderMoreRow.holds Try.pinned (OpenSpec.ofChange borderMoreSpec)

/-- ITS FALSE NEIGHBOUR: 'it returns false'. Refute it at one input. -/
def borderMoreWrong : ChangeSpec := { name := "borderMore", fn := fun _ => fun
  | [d1, d2, d3] => { results := [.lit (.bool false)], args := [d1, d2, d3] }
  | _ => none }
def BorderMoreWrongFalsely : Prop := borderMoreRow.holds Try.pinned (OpenSpec.ofChange borderMoreWrong)

/-- 'zoneworkslaw06.BorderTurned': WHATEVER THE INPUT: true; the input reads as it did. -/
def borderTurnedSpec : ChangeSpec := { name := "borderTurned", fn := fun _ => fun
  | [d1, d2] => { results := [.lit (.bool true)], args := [d1, d2] }
  | _ => none }
def borderTurnedRow : OpenClaim := { program := "ytjkegmjjhdmkiaa", sum := "dd31b39c7f44904fab5ecb66595343329f342ead152620a1cce347fc056f5def", func := "zoneworks/zoneworkslaw06.BorderTurned", spec := "borderTurned", unfollowed := true, recurses := true, plainKeys := false, apart := false }
def BorderTurnedSaid : Prop := borderTurnedRow.holds Try.pinned (OpenSpec.ofChange borderTurnedSpec)

/-- ITS FALSE NEIGHBOUR: 'it returns false'. Refute it at one input. -/
def borderTurnedWrong : ChangeSpec := { name := "borderTurned", fn := fun _ => fun
  | [d1, d2] => { results := [.lit (.bool false)], args := [d1, d2] }
  | _ => none }
def BorderTurnedWrongFalsely : Prop := borderTurnedRow.holds Try.pinned (OpenSpec.ofChange borderTurnedWrong)

/- THE SECOND FORM. 'bulk': how many values and letters a reading holds, each counted each time it is reached (what is shared counts as often as it is met; a slice's spare places count too). A statement '..UptoSaid' is the law's where the arguments, and the package variables that the reading takes, are together of bulk at most 1048576: NARROWER than '..Said'. Prove '..Said' where nothing that the law and all that it calls make is longer than what came in: it says more and counts as full. Else prove '..UptoSaid'. A law counts once. -/
mutual
def uptoBulk {H : Type} : DataW H → Nat
  | .lit (.string bytes) => bytes.length + 1
  | .lit _ => 1
  | .nil => 1
  | .ptr d => uptoBulk d + 1
  | .slice elems spare => uptoBulkAll elems + uptoBulkAll spare + 1
  | .agg parts => uptoBulkAll parts + 1
  | .iface _ d => uptoBulk d + 1
  | .map entries => uptoBulkEntries entries + 1
  | .held _ => 1
def uptoBulkAll {H : Type} : List (DataW H) → Nat
  | [] => 0
  | d :: r => uptoBulk d + uptoBulkAll r
def uptoBulkEntries {H : Type} : List (Lit × DataW H) → Nat
  | [] => 0
  | x :: r => uptoBulkEntry x + uptoBulkEntries r
def uptoBulkEntry {H : Type} : Lit × DataW H → Nat
  | (.string bytes, d) => bytes.length + uptoBulk d + 1
  | (_, d) => uptoBulk d + 1
 end
def uptoSmall : (H : Type) → List (DataW H) → Bool := fun _ ds => decide (uptoBulkAll ds ≤ 1048576)
def OpenSpec.upto (s : _root_.Go.ChangeSpec) : _root_.Go.OpenSpec := { _root_.Go.OpenSpec.ofChange s with cond := some uptoSmall }

/-- 'zoneworkslaw06.BorderShifts', WHERE WHAT IT READS IS OF BULK AT MOST 1048576: true; the input reads as it did. -/
def borderShiftsUptoRow : OpenClaim := { program := "ytjkegmjjhdmkiaa", sum := "dd31b39c7f44904fab5ecb66595343329f342ead152620a1cce347fc056f5def", func := "zoneworks/zoneworkslaw06.BorderShifts", spec := "borderShifts", unfollowed := true, recurses := true, plainKeys := false, apart := false, narrowed := true }
def BorderShiftsUptoSaid : Prop := borderShiftsUptoRow.holds Try.pinned (OpenSpec.upto borderShiftsSpec)

/-- 'zoneworkslaw06.BorderStars', WHERE WHAT IT READS IS OF BULK AT MOST 1048576: true; the input reads as it did. -/
def borderStarsUptoRow : OpenClaim := { program := "ytjkegmjjhdmkiaa", sum := "dd31b39c7f44904fab5ecb66595343329f342ead152620a1cce347fc056f5def", func := "zoneworks/zoneworkslaw06.BorderStars", spec := "borderStars", unfollowed := true, recurses := true, plainKeys := false, apart := false, narrowed := true }
def BorderStarsUptoSaid : Prop := borderStarsUptoRow.holds Try.pinned (OpenSpec.upto borderStarsSpec)

/-- 'zoneworkslaw06.BorderTrue', WHERE WHAT IT READS IS OF BULK AT MOST 1048576: true; the input reads as it did. -/
def borderTrueUptoRow : OpenClaim := { program := "ytjkegmjjhdmkiaa", sum := "dd31b39c7f44904fab5ecb66595343329f342ead152620a1cce347fc056f5def", func := "zoneworks/zoneworkslaw06.BorderTrue", spec := "borderTrue", unfollowed := true, recurses := true, plainKeys := false, apart := false, narrowed := true }
def BorderTrueUptoSaid : Prop := borderTrueUptoRow.holds Try.pinned (OpenSpec.upto borderTrueSpec)

/-- 'zoneworkslaw06.BorderBest', WHERE WHAT IT READS IS OF BULK AT MOST 1048576: true; the input reads as it did. -/
def borderBestUptoRow : OpenClaim := { program := "ytjkegmjjhdmkiaa", sum := "dd31b39c7f44904fab5ecb66595343329f342ead152620a1cce347fc056f5def", func := "zoneworks/zoneworkslaw06.BorderBest", spec := "borderBest", unfollowed := true, recurses := true, plainKeys := false, apart := false, narrowed := true }
def BorderBestUptoSaid : Prop := borderBestUptoRow.holds Try.pinned (OpenSpec.upto borderBestSpec)

/-- 'zoneworkslaw06.BorderPairs', WHERE WHAT IT READS IS OF BULK AT MOST 1048576: true; the input reads as it did. -/
def borderPairsUptoRow : OpenClaim := { program := "ytjkegmjjhdmkiaa", sum := "dd31b39c7f44904fab5ecb66595343329f342ead152620a1cce347fc056f5def", func := "zoneworks/zoneworkslaw06.BorderPairs", spec := "borderPairs", unfollowed := true, recurses := true, plainKeys := false, apart := false, narrowed := true }
def BorderPairsUptoSaid : Prop := borderPairsUptoRow.holds Try.pinned (OpenSpec.upto borderPairsSpec)

/-- 'zoneworkslaw06.BorderClash', WHERE WHAT IT READS IS OF BULK AT MOST 1048576: true; the input reads as it did. -/
def borderClashUptoRow : OpenClaim := { program := "ytjkegmjjhdmkiaa", sum := "dd31b39c7f44904fab5ecb66595343329f342ead152620a1cce347fc056f5def", func := "zoneworks/zoneworkslaw06.BorderClash", spec := "borderClash", unfollowed := true, recurses := true, plainKeys := false, apart := false, narrowed := true }
def BorderClashUptoSaid : Prop := borderClashUptoRow.holds Try.pinned (OpenSpec.upto borderClashSpec)

/-- 'zoneworkslaw06.BorderMore', WHERE WHAT IT READS IS OF BULK AT MOST 1048576: true; the input reads as it did. -/
def borderMoreUptoRow : OpenClaim := { program := "ytjkegmjjhdmkiaa", sum := "dd31b39c7f44904fab5ecb66595343329f342ead152620a1cce347fc056f5def", func := "zoneworks/zoneworkslaw06.BorderMore", spec := "borderMore", unfollowed := true, recurses := true, plainKeys := false, apart := false, narrowed := true }
def BorderMoreUptoSaid : Prop := borderMoreUptoRow.holds Try.pinned (OpenSpec.upto borderMoreSpec)

/-- 'zoneworkslaw06.BorderTurned', WHERE WHAT IT READS IS OF BULK AT MOST 1048576: true; the input reads as it did. -/
def borderTurnedUptoRow : OpenClaim := { program := "ytjkegmjjhdmkiaa", sum := "dd31b39c7f44904fab5ecb66595343329f342ead152620a1cce347fc056f5def", func := "zoneworks/zoneworkslaw06.BorderTurned", spec := "borderTurned", unfollowed := true, recurses := true, plainKeys := false, apart := false, narrowed := true }
def BorderTurnedUptoSaid : Prop := borderTurnedUptoRow.holds Try.pinned (OpenSpec.upto borderTurnedSpec)

end Rows
end Go.Proofs.Ytjkegmjjhdmkiaa
