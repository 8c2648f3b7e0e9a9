/-
  No cell of these rows narrows 'for every input' (looked for: loops, veiled, ifaces, maps, wideKeys, modest, calm, conditions, laid).
  DERIVED. THE GIVEN ROWS OF THIS SEAT. 8 by the template 'for every input the law returns true; each argument reads behind the call as it read before'; 0 by the template 'total and deterministic' (their statements: YtacioedolmaofaaTotals.lean).
  GIVEN WITH THE SEED: the statements are not yours to turn. If you find one false, say at which input.
  Laid BY PROGRAM, IN A SANDBOX (cutbox-rows.mjs): the forced cells as the released guide's own fill.sh prints them over the translation 7bc6f90a3b68b7fa… (all of the seat's roots in one cut). By AI agents, Wed Nov 11 2026. No macro, syntax, notation, axiom, sorry.
-/
import Derived.Test.YtacioedolmaofaaChecked
import GoSem.Claim
import GoSem.ClaimJoined
import GoSem.ClaimMapViews
import Derived.JoinedTies
import Derived.KernelRfl
namespace Go.Proofs.Ytacioedolmaofaa
/- THE CELL 'sum', in the pinned program and in every row, IS THE sha256 OF THE DUMP (.gsa) THAT YtacioedolmaofaaProg.lean LOADS. Nothing in Lean hashes anything: it is a label: what it is worth is what the hold of that sum in a sandbox is worth. -/
noncomputable def Try.pinned : Pinned := { name := "ytacioedolmaofaa", sum := "7bc6f90a3b68b7faf33e002eff06638f56ca6e1d5835c2b2409d61c6bb264bbf", checked := Try.checked }
namespace Rows
def none {H : Type} : Left H := { results := [], args := [] }

/-- 'zoneworkslaw02.ImageFits': WHATEVER THE INPUT: true; the input reads as it did. -/
def imageFitsSpec : ChangeSpec := { name := "imageFits", fn := fun _ => fun
  | [d1, d2] => { results := [.lit (.bool true)], args := [d1, d2] }
  | _ => none }
def imageFitsRow : OpenClaim := { program := "ytacioedolmaofaa", sum := "7bc6f90a3b68b7faf33e002eff06638f56ca6e1d5835c2b2409d61c6bb264bbf", func := "zoneworks/zoneworkslaw02.ImageFits", spec := "imageFits", unfollowed := true, recurses := true, plainKeys := false, apart := false }
def ImageFitsSaid : Prop := imageFitsRow.holds Try.pinned (OpenSpec.ofChange imageFitsSpec)

/-- ITS FALSE NEIGHBOUR: 'it returns false'. Refute it at one input. -/
def imageFitsWrong : ChangeSpec := { name := "imageFits", fn := fun _ => fun
  | [d1, d2] => { results := [.lit (.bool false)], args := [d1, d2] }
  | _ => none }
def ImageFitsWrongFalsely : Prop := imageFitsRow.holds Try.pinned (OpenSpec.ofChange imageFitsWrong)

/-- 'zoneworkslaw02.ImageTells': WHATEVER THE INPUT: true; the input reads as it did. -/
def imageTellsSpec : ChangeSpec := { name := "imageTells", fn := fun _ => fun
  | [d1, d2] => { results := [.lit (.bool true)], args := [d1, d2] }
  | _ => none }
def imageTellsRow : OpenClaim := { program := "ytacioedolmaofaa", sum := "7bc6f90a3b68b7faf33e002eff06638f56ca6e1d5835c2b2409d61c6bb264bbf", func := "zoneworks/zoneworkslaw02.ImageTells", spec := "imageTells", unfollowed := true, recurses := true, plainKeys := false, apart := false }
def ImageTellsSaid : Prop := imageTellsRow.holds Try.pinned (OpenSpec.ofChange imageTellsSpec)

/-- ITS FALSE NEIGHBOUR: 'it returns false'. Refute it at one input. -/
def imageTellsWrong : ChangeSpec := { name := "imageTells", fn := fun _ => fun
  | [d1, d2] => { results := [.lit (.bool false)], args := [d1, d2] }
  | _ => none }
def ImageTellsWrongFalsely : Prop := imageTellsRow.holds Try.pinned (OpenSpec.ofChange imageTellsWrong)

/-- 'zoneworkslaw02.ImageTrue': WHATEVER THE INPUT: true; the input reads as it did. -/
def imageTrueSpec : ChangeSpec := { name := "imageTrue", fn := fun _ => fun
  | [d] => { results := [.lit (.bool true)], args := [d] }
  | _ => none }
def imageTrueRow : OpenClaim := { program := "ytacioedolmaofaa", sum := "7bc6f90a3b68b7faf33e002eff06638f56ca6e1d5835c2b2409d61c6bb264bbf", func := "zoneworks/zoneworkslaw02.ImageTrue", spec := "imageTrue", unfollowed := true, recurses := true, plainKeys := false, apart := false }
def ImageTrueSaid : Prop := imageTrueRow.holds Try.pinned (OpenSpec.ofChange imageTrueSpec)

/-- ITS FALSE NEIGHBOUR: 'it returns false'. Refute it at one input. -/
def imageTrueWrong : ChangeSpec := { name := "imageTrue", fn := fun _ => fun
  | [d] => { results := [.lit (.bool false)], args := [d] }
  | _ => none }
def ImageTrueWrongFalsely : Prop := imageTrueRow.holds Try.pinned (OpenSpec.ofChange imageTrueWrong)

/-- 'zoneworkslaw02.ImageTrail': WHATEVER THE INPUT: true; the input reads as it did. -/
def imageTrailSpec : ChangeSpec := { name := "imageTrail", fn := fun _ => fun
  | [d1, d2] => { results := [.lit (.bool true)], args := [d1, d2] }
  | _ => none }
def imageTrailRow : OpenClaim := { program := "ytacioedolmaofaa", sum := "7bc6f90a3b68b7faf33e002eff06638f56ca6e1d5835c2b2409d61c6bb264bbf", func := "zoneworks/zoneworkslaw02.ImageTrail", spec := "imageTrail", unfollowed := true, recurses := true, plainKeys := false, apart := false }
def ImageTrailSaid : Prop := imageTrailRow.holds Try.pinned (OpenSpec.ofChange imageTrailSpec)

/-- ITS FALSE NEIGHBOUR: 'it returns false'. Refute it at one input. -/
def imageTrailWrong : ChangeSpec := { name := "imageTrail", fn := fun _ => fun
  | [d1, d2] => { results := [.lit (.bool false)], args := [d1, d2] }
  | _ => none }
def ImageTrailWrongFalsely : Prop := imageTrailRow.holds Try.pinned (OpenSpec.ofChange imageTrailWrong)

/-- 'zoneworkslaw02.ImageFew': WHATEVER THE INPUT: true; the input reads as it did. -/
def imageFewSpec : ChangeSpec := { name := "imageFew", fn := fun _ => fun
  | [d1, d2] => { results := [.lit (.bool true)], args := [d1, d2] }
  | _ => none }
def imageFewRow : OpenClaim := { program := "ytacioedolmaofaa", sum := "7bc6f90a3b68b7faf33e002eff06638f56ca6e1d5835c2b2409d61c6bb264bbf", func := "zoneworks/zoneworkslaw02.ImageFew", spec := "imageFew", unfollowed := true, recurses := true, plainKeys := false, apart := false }
def ImageFewSaid : Prop := imageFewRow.holds Try.pinned (OpenSpec.ofChange imageFewSpec)

/-- ITS FALSE NEIGHBOUR: 'it returns false'. Refute it at one input. -/
def imageFewWrong : ChangeSpec := { name := "imageFew", fn := fun _ => fun
  | [d1, d2] => { results := [.lit (.bool false)], args := [d1, d2] }
  | _ => none }
def ImageFewWrongFalsely : Prop := imageFewRow.holds Try.pinned (OpenSpec.ofChange imageFewWrong)

/-- 'zoneworkslaw02.ImageOpen': WHATEVER THE INPUT: true; the input reads as it did. -/
def imageOpenSpec : ChangeSpec := { name := "imageOpen", fn := fun _ => fun
  | [d] => { results := [.lit (.bool true)], args := [d] }
  | _ => none }
def imageOpenRow : OpenClaim := { program := "ytacioedolmaofaa", sum := "7bc6f90a3b68b7faf33e002eff06638f56ca6e1d5835c2b2409d61c6bb264bbf", func := "zoneworks/zoneworkslaw02.ImageOpen", spec := "imageOpen", unfollowed := true, recurses := true, plainKeys := false, apart := false }
def ImageOpenSaid : Prop := imageOpenRow.holds Try.pinned (OpenSpec.ofChange imageOpenSpec)

/-- ITS FALSE NEIGHBOUR: 'it returns false'. Refute it at one input. -/
def imageOpenWrong : ChangeSpec := { name := "imageOpen", fn := fun _ => fun
  | [d] => { results := [.lit (.bool false)], args := [d] }
  | _ => none }
def ImageOpenWrongFalsely : Prop := imageOpenRow.holds Try.pinned (OpenSpec.ofChange imageOpenWrong)

/-- 'zoneworkslaw02.ImageMore': WHATEVER THE INPUT: true; the input reads as it did. -/
def imageMoreSpec : ChangeSpec := { name := "imageMore", fn := fun _ => fun
  | [d1, d2, d3, d4] => { results := [.lit (.bool true)], args := [d1, d2, d3, d4] }
  | _ => none }
def imageMoreRow : OpenClaim := { program := "ytacioedolmaofaa", sum := "7bc6f90a3b68b7faf33e002eff06638f56ca6e1d5835c2b2409d61c6bb264bbf", func := "zoneworks/zoneworkslaw02.ImageMore", spec := "imageMore", unfollowed := true, recurses := true, plainKeys := false, apart := false }
def ImageMoreSaid : Prop := imageMoreRow.holds Try.pinned (OpenSpec.ofChange imageMoreSpec)

/-- ITS FALSE NEIGHBOUR: 'it returns false'. Refute it at one input. -/
def imageMoreWrong : ChangeSpec := { name := "imageMore", fn := fun _ => fun
  | [d1, d2, d3, d4] => { results := [.lit (.bool false)], args := [d1, d2, d3, d4] }
  | _ => none }
def ImageMoreWrongFalsely : Prop := imageMoreRow.holds Try.pinned (OpenSpec.ofChange imageMoreWrong)

/-- 'zoneworkslaw02.ImageTurned': WHATEVER THE INPUT: true; the input reads as it did. -/
def imageTurnedSpec : ChangeSpec := { name := "imageTurned", fn := fun _ => fun
  | [d1, d2, d3] => { results := [.lit (.bool true)], args := [d1, d2, d3] }
  | _ => none }
def imageTurnedRow : OpenClaim := { program := "ytacioedolmaofaa", sum := "7bc6f90a3b68b7faf33e002eff06638f56ca6e1d5835c2b2409d61c6bb264bbf", func := "zoneworks/zoneworkslaw02.ImageTurned", spec := "imageTurned", unfollowed := true, recurses := true, plainKeys := false, apart := false }
def ImageTurnedSaid : Prop := imageTurnedRow.holds Try.pinned (OpenSpec.ofChange imageTurnedSpec)

/-- ITS FALSE NEIGHBOUR: 'it returns false'. Refute it at one input. -/
def imageTurnedWrong : ChangeSpec := { name := "imageTurned", fn := fun _ => fun
  | [d1, d2, d3] => { results := [.lit (.bool false)], args := [d1, d2, d3] }
  | _ => none }
def ImageTurnedWrongFalsely : Prop := imageTurnedRow.holds Try.pinned (OpenSpec.ofChange imageTurnedWrong)

/- THE SECOND FORM. 'bulk': how many values and letters a reading holds, each counted each time it is reached (what is shared counts as often as it is met; a slice's spare places count too). A statement '..UptoSaid' is the law's where the arguments, and the package variables that the reading takes, are together of bulk at most 1048576: NARROWER than '..Said'. Prove '..Said' where nothing that the law and all that it calls make is longer than what came in: it says more and counts as full. Else prove '..UptoSaid'. A law counts once. -/
mutual
def uptoBulk {H : Type} : DataW H → Nat
  | .lit (.string bytes) => bytes.length + 1
  | .lit _ => 1
  | .nil => 1
  | .ptr d => uptoBulk d + 1
  | .slice elems spare => uptoBulkAll elems + uptoBulkAll spare + 1
  | .agg parts => uptoBulkAll parts + 1
  | .iface _ d => uptoBulk d + 1
  | .map entries => uptoBulkEntries entries + 1
  | .held _ => 1
def uptoBulkAll {H : Type} : List (DataW H) → Nat
  | [] => 0
  | d :: r => uptoBulk d + uptoBulkAll r
def uptoBulkEntries {H : Type} : List (Lit × DataW H) → Nat
  | [] => 0
  | x :: r => uptoBulkEntry x + uptoBulkEntries r
def uptoBulkEntry {H : Type} : Lit × DataW H → Nat
  | (.string bytes, d) => bytes.length + uptoBulk d + 1
  | (_, d) => uptoBulk d + 1
 end
def uptoSmall : (H : Type) → List (DataW H) → Bool := fun _ ds => decide (uptoBulkAll ds ≤ 1048576)
def OpenSpec.upto (s : _root_.Go.ChangeSpec) : _root_.Go.OpenSpec := { _root_.Go.OpenSpec.ofChange s with cond := some uptoSmall }

/-- 'zoneworkslaw02.ImageFits', WHERE WHAT IT READS IS OF BULK AT MOST 1048576: true; the input reads as it did. -/
def imageFitsUptoRow : OpenClaim := { program := "ytacioedolmaofaa", sum := "7bc6f90a3b68b7faf33e002eff06638f56ca6e1d5835c2b2409d61c6bb264bbf", func := "zoneworks/zoneworkslaw02.ImageFits", spec := "imageFits", unfollowed := true, recurses := true, plainKeys := false, apart := false, narrowed := true }
def ImageFitsUptoSaid : Prop := imageFitsUptoRow.holds Try.pinned (OpenSpec.upto imageFitsSpec)

/-- 'zoneworkslaw02.ImageTells', WHERE WHAT IT READS IS OF BULK AT MOST 1048576: true; the input reads as it did. -/
def imageTellsUptoRow : OpenClaim := { program := "ytacioedolmaofaa", sum := "7bc6f90a3b68b7faf33e002eff06638f56ca6e1d5835c2b2409d61c6bb264bbf", func := "zoneworks/zoneworkslaw02.ImageTells", spec := "imageTells", unfollowed := true, recurses := true, plainKeys := false, apart := false, narrowed := true }
def ImageTellsUptoSaid : Prop := imageTellsUptoRow.holds Try.pinned (OpenSpec.upto imageTellsSpec)

/-- 'zoneworkslaw02.ImageTrue', WHERE WHAT IT READS IS OF BULK AT MOST 1048576: true; the input reads as it did. -/
def imageTrueUptoRow : OpenClaim := { program := "ytacioedolmaofaa", sum := "7bc6f90a3b68b7faf33e002eff06638f56ca6e1d5835c2b2409d61c6bb264bbf", func := "zoneworks/zoneworkslaw02.ImageTrue", spec := "imageTrue", unfollowed := true, recurses := true, plainKeys := false, apart := false, narrowed := true }
def ImageTrueUptoSaid : Prop := imageTrueUptoRow.holds Try.pinned (OpenSpec.upto imageTrueSpec)

/-- 'zoneworkslaw02.ImageTrail', WHERE WHAT IT READS IS OF BULK AT MOST 1048576: true; the input reads as it did. -/
def imageTrailUptoRow : OpenClaim := { program := "ytacioedolmaofaa", sum := "7bc6f90a3b68b7faf33e002eff06638f56ca6e1d5835c2b2409d61c6bb264bbf", func := "zoneworks/zoneworkslaw02.ImageTrail", spec := "imageTrail", unfollowed := true, recurses := true, plainKeys := false, apart := false, narrowed := true }
def ImageTrailUptoSaid : Prop := imageTrailUptoRow.holds Try.pinned (OpenSpec.upto imageTrailSpec)

/-- 'zoneworkslaw02.ImageFew', WHERE WHAT IT READS IS OF BULK AT MOST 1048576: true; the input reads as it did. -/
def imageFewUptoRow : OpenClaim := { program := "ytacioedolmaofaa", sum := "7bc6f90a3b68b7faf33e002eff06638f56ca6e1d5835c2b2409d61c6bb264bbf", func := "zoneworks/zoneworkslaw02.ImageFew", spec := "imageFew", unfollowed := true, recurses := true, plainKeys := false, apart := false, narrowed := true }
def ImageFewUptoSaid : Prop := imageFewUptoRow.holds Try.pinned (OpenSpec.upto imageFewSpec)

/-- 'zoneworkslaw02.ImageOpen', WHERE WHAT IT READS IS OF BULK AT MOST 1048576: true; the input reads as it did. -/
def imageOpenUptoRow : OpenClaim := { program := "ytacioedolmaofaa", sum := "7bc6f90a3b68b7faf33e002eff06638f56ca6e1d5835c2b2409d61c6bb264bbf", func := "zoneworks/zoneworkslaw02.ImageOpen", spec := "imageOpen", unfollowed := true, recurses := true, plainKeys := false, apart := false, narrowed := true }
def ImageOpenUptoSaid : Prop := imageOpenUptoRow.holds Try.pinned (OpenSpec.upto imageOpenSpec)

/-- 'zoneworkslaw02.ImageMore', WHERE WHAT IT READS IS OF BULK AT MOST 1048576: true; the input reads as it did. -/
def imageMoreUptoRow : OpenClaim := { program := "ytacioedolmaofaa", sum := "7bc6f90a3b68b7faf33e002eff06638f56ca6e1d5835c2b2409d61c6bb264bbf", func := "zoneworks/zoneworkslaw02.ImageMore", spec := "imageMore", unfollowed := true, recurses := true, plainKeys := false, apart := false, narrowed := true }
def ImageMoreUptoSaid : Prop := imageMoreUptoRow.holds Try.pinned (OpenSpec.upto imageMoreSpec)

/-- 'zoneworkslaw02.ImageTurned', WHERE WHAT IT READS IS OF BULK AT MOST 1048576: true; the input reads as it did. -/
def imageTurnedUptoRow : OpenClaim := { program := "ytacioedolmaofaa", sum := "7bc6f90a3b68b7faf33e002eff06638f56ca6e1d5835c2b2409d61c6bb264bbf", func := "zoneworks/zoneworkslaw02.ImageTurned", spec := "imageTurned", unfollowed := true, recurses := true, plainKeys := false, apart := false, narrowed := true }
def ImageTurnedUptoSaid : Prop := imageTurnedUptoRow.holds Try.pinned (OpenSpec.upto imageTurnedSpec)

end Rows
end Go.Proofs.Ytacioedolmaofaa
