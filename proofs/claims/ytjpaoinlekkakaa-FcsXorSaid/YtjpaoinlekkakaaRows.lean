/-
  No cell of these rows narrows 'for every input' (looked for: loops, veiled, ifaces, maps, wideKeys, modest, calm, conditions, laid).
  DERIVED. THE GIVEN ROWS OF THIS SEAT. 6 by the template 'for every input the law returns true; each argument reads behind the call as it read before'; 0 by the template 'total and deterministic' (their statements: YtjpaoinlekkakaaTotals.lean).
  GIVEN WITH THE SEED: the statements are not yours to turn. If you find one false, say at which input.
  Laid BY PROGRAM, IN A SANDBOX (cutbox-rows.mjs): the forced cells as the released guide's own fill.sh prints them over the translation 452e75edae7edd2a… (all of the seat's roots in one cut). By AI agents, Wed Nov 11 2026. No macro, syntax, notation, axiom, sorry.
-/
import Derived.Test.YtjpaoinlekkakaaChecked
import GoSem.Claim
import GoSem.ClaimJoined
import GoSem.ClaimMapViews
import Derived.JoinedTies
import Derived.KernelRfl
namespace Go.Proofs.Ytjpaoinlekkakaa
/- THE CELL 'sum', in the pinned program and in every row, IS THE sha256 OF THE DUMP (.gsa) THAT YtjpaoinlekkakaaProg.lean LOADS. Nothing in Lean hashes anything: it is a label: what it is worth is what the hold of that sum in a sandbox is worth. -/
noncomputable def Try.pinned : Pinned := { name := "ytjpaoinlekkakaa", sum := "452e75edae7edd2acde41d9591e520e3267b1ba118988f6b1bd9f53d65798abe", checked := Try.checked }
namespace Rows
def none {H : Type} : Left H := { results := [], args := [] }

/-- 'bowlinelaw02.FcsTells': WHATEVER THE INPUT: true; the input reads as it did. -/
def fcsTellsSpec : ChangeSpec := { name := "fcsTells", fn := fun _ => fun
  | [d] => { results := [.lit (.bool true)], args := [d] }
  | _ => none }
def fcsTellsRow : OpenClaim := { program := "ytjpaoinlekkakaa", sum := "452e75edae7edd2acde41d9591e520e3267b1ba118988f6b1bd9f53d65798abe", func := "bowline/bowlinelaw02.FcsTells", spec := "fcsTells", apart := false }
def FcsTellsSaid : Prop := fcsTellsRow.holds Try.pinned (OpenSpec.ofChange fcsTellsSpec)

/-- ITS FALSE NEIGHBOUR: 'it returns false'. Refute it at one input. -/
def fcsTellsWrong : ChangeSpec := { name := "fcsTells", fn := fun _ => fun
  | [d] => { results := [.lit (.bool false)], args := [d] }
  | _ => none }
def FcsTellsWrongFalsely : Prop := fcsTellsRow.holds Try.pinned (OpenSpec.ofChange fcsTellsWrong)

/-- 'bowlinelaw02.FcsBack': WHATEVER THE INPUT: true; the input reads as it did. -/
def fcsBackSpec : ChangeSpec := { name := "fcsBack", fn := fun _ => fun
  | [d] => { results := [.lit (.bool true)], args := [d] }
  | _ => none }
def fcsBackRow : OpenClaim := { program := "ytjpaoinlekkakaa", sum := "452e75edae7edd2acde41d9591e520e3267b1ba118988f6b1bd9f53d65798abe", func := "bowline/bowlinelaw02.FcsBack", spec := "fcsBack", apart := false }
def FcsBackSaid : Prop := fcsBackRow.holds Try.pinned (OpenSpec.ofChange fcsBackSpec)

/-- ITS FALSE NEIGHBOUR: 'it returns false'. Refute it at one input. -/
def fcsBackWrong : ChangeSpec := { name := "fcsBack", fn := fun _ => fun
  | [d] => { results := [.lit (.bool false)], args := [d] }
  | _ => none }
def FcsBackWrongFalsely : Prop := fcsBackRow.holds Try.pinned (OpenSpec.ofChange fcsBackWrong)

/-- 'bowlinelaw02.FcsBursts': WHATEVER THE INPUT: true; the input reads as it did. -/
def fcsBurstsSpec : ChangeSpec := { name := "fcsBursts", fn := fun _ => fun
  | [d1, d2, d3] => { results := [.lit (.bool true)], args := [d1, d2, d3] }
  | _ => none }
def fcsBurstsRow : OpenClaim := { program := "ytjpaoinlekkakaa", sum := "452e75edae7edd2acde41d9591e520e3267b1ba118988f6b1bd9f53d65798abe", func := "bowline/bowlinelaw02.FcsBursts", spec := "fcsBursts", apart := false }
def FcsBurstsSaid : Prop := fcsBurstsRow.holds Try.pinned (OpenSpec.ofChange fcsBurstsSpec)

/-- ITS FALSE NEIGHBOUR: 'it returns false'. Refute it at one input. -/
def fcsBurstsWrong : ChangeSpec := { name := "fcsBursts", fn := fun _ => fun
  | [d1, d2, d3] => { results := [.lit (.bool false)], args := [d1, d2, d3] }
  | _ => none }
def FcsBurstsWrongFalsely : Prop := fcsBurstsRow.holds Try.pinned (OpenSpec.ofChange fcsBurstsWrong)

/-- 'bowlinelaw02.FcsXor': WHATEVER THE INPUT: true; the input reads as it did. -/
def fcsXorSpec : ChangeSpec := { name := "fcsXor", fn := fun _ => fun
  | [d1, d2] => { results := [.lit (.bool true)], args := [d1, d2] }
  | _ => none }
def fcsXorRow : OpenClaim := { program := "ytjpaoinlekkakaa", sum := "452e75edae7edd2acde41d9591e520e3267b1ba118988f6b1bd9f53d65798abe", func := "bowline/bowlinelaw02.FcsXor", spec := "fcsXor", apart := false }
def FcsXorSaid : Prop := fcsXorRow.holds Try.pinned (OpenSpec.ofChange fcsXorSpec)

/-- ITS FALSE NEIGHBOUR: 'it returns false'. Refute it at one input. -/
def fcsXorWrong : ChangeSpec := { name := "fcsXor", fn := fun _ => fun
  | [d1, d2] => { results := [.lit (.bool false)], args := [d1, d2] }
  | _ => none }
def FcsXorWrongFalsely : Prop := fcsXorRow.holds Try.pinned (OpenSpec.ofChange fcsXorWrong)

/-- 'bowlinelaw02.FcsStill': WHATEVER THE INPUT: true; the input reads as it did. -/
def fcsStillSpec : ChangeSpec := { name := "fcsStill", fn := fun _ => fun
  | [d] => { results := [.lit (.bool true)], args := [d] }
  | _ => none }
def fcsStillRow : OpenClaim := { program := "ytjpaoinlekkakaa", sum := "452e75edae7edd2acde41d9591e520e3267b1ba118988f6b1bd9f53d65798abe", func := "bowline/bowlinelaw02.FcsStill", spec := "fcsStill", apart := false }
def FcsStillSaid : Prop := fcsStillRow.holds Try.pinned (OpenSpec.ofChange fcsStillSpec)

/-- ITS FALSE NEIGHBOUR: 'it returns false'. Refute it at one input. -/
def fcsStillWrong : ChangeSpec := { name := "fcsStill", fn := fun _ => fun
  | [d] => { results := [.lit (.bool false)], args := [d] }
  | _ => none }
def FcsStillWrongFalsely : Prop := fcsStillRow.holds Try.pinned (OpenSpec.ofChange fcsStillWrong)

/-- 'bowlinelaw02.FcsEnds': WHATEVER THE INPUT: true; the input reads as it did. -/
def fcsEndsSpec : ChangeSpec := { name := "fcsEnds", fn := fun _ => fun
  | [d1, d2] => { results := [.lit (.bool true)], args := [d1, d2] }
  | _ => none }
def fcsEndsRow : OpenClaim := { program := "ytjpaoinlekkakaa", sum := "452e75edae7edd2acde41d9591e520e3267b1ba118988f6b1bd9f53d65798abe", func := "bowline/bowlinelaw02.FcsEnds", spec := "fcsEnds", apart := false }
def FcsEndsSaid : Prop := fcsEndsRow.holds Try.pinned (OpenSpec.ofChange fcsEndsSpec)

/-- ITS FALSE NEIGHBOUR: 'it returns false'. Refute it at one input. -/
def fcsEndsWrong : ChangeSpec := { name := "fcsEnds", fn := fun _ => fun
  | [d1, d2] => { results := [.lit (.bool false)], args := [d1, d2] }
  | _ => none }
def FcsEndsWrongFalsely : Prop := fcsEndsRow.holds Try.pinned (OpenSpec.ofChange fcsEndsWrong)

/- THE SECOND FORM. 'bulk': how many values and letters a reading holds, each counted each time it is reached (what is shared counts as often as it is met; a slice's spare places count too). A statement '..UptoSaid' is the law's where the arguments, and the package variables that the reading takes, are together of bulk at most 1048576: NARROWER than '..Said'. Prove '..Said' where nothing that the law and all that it calls make is longer than what came in: it says more and counts as full. Else prove '..UptoSaid'. A law counts once. -/
mutual
def uptoBulk {H : Type} : DataW H → Nat
  | .lit (.string bytes) => bytes.length + 1
  | .lit _ => 1
  | .nil => 1
  | .ptr d => uptoBulk d + 1
  | .slice elems spare => uptoBulkAll elems + uptoBulkAll spare + 1
  | .agg parts => uptoBulkAll parts + 1
  | .iface _ d => uptoBulk d + 1
  | .map entries => uptoBulkEntries entries + 1
  | .held _ => 1
def uptoBulkAll {H : Type} : List (DataW H) → Nat
  | [] => 0
  | d :: r => uptoBulk d + uptoBulkAll r
def uptoBulkEntries {H : Type} : List (Lit × DataW H) → Nat
  | [] => 0
  | x :: r => uptoBulkEntry x + uptoBulkEntries r
def uptoBulkEntry {H : Type} : Lit × DataW H → Nat
  | (.string bytes, d) => bytes.length + uptoBulk d + 1
  | (_, d) => uptoBulk d + 1
 end
def uptoSmall : (H : Type) → List (DataW H) → Bool := fun _ ds => decide (uptoBulkAll ds ≤ 1048576)
def OpenSpec.upto (s : _root_.Go.ChangeSpec) : _root_.Go.OpenSpec := { _root_.Go.OpenSpec.ofChange s with cond := some uptoSmall }

/-- 'bowlinelaw02.FcsTells', WHERE WHAT IT READS IS OF BULK AT MOST 1048576: true; the input reads as it did. -/
def fcsTellsUptoRow : OpenClaim := { program := "ytjpaoinlekkakaa", sum := "452e75edae7edd2acde41d9591e520e3267b1ba118988f6b1bd9f53d65798abe", func := "bowline/bowlinelaw02.FcsTells", spec := "fcsTells", apart := false, narrowed := true }
def FcsTellsUptoSaid : Prop := fcsTellsUptoRow.holds Try.pinned (OpenSpec.upto fcsTellsSpec)

/-- 'bowlinelaw02.FcsBack', WHERE WHAT IT READS IS OF BULK AT MOST 1048576: true; the input reads as it did. -/
def fcsBackUptoRow : OpenClaim := { program := "ytjpaoinlekkakaa", sum := "452e75edae7edd2acde41d9591e520e3267b1ba118988f6b1bd9f53d65798abe", func := "bowline/bowlinelaw02.FcsBack", spec := "fcsBack", apart := false, narrowed := true }
def FcsBackUptoSaid : Prop := fcsBackUptoRow.holds Try.pinned (OpenSpec.upto fcsBackSpec)

/-- 'bowlinelaw02.FcsBursts', WHERE WHAT IT READS IS OF BULK AT MOST 1048576: true; the input reads as it did. -/
def fcsBurstsUptoRow : OpenClaim := { program := "ytjpaoinlekkakaa", sum := "452e75edae7edd2acde41d9591e520e3267b1ba118988f6b1bd9f53d65798abe", func := "bowline/bowlinelaw02.FcsBursts", spec := "fcsBursts", apart := false, narrowed := true }
def FcsBurstsUptoSaid : Prop := fcsBurstsUptoRow.holds Try.pinned (OpenSpec.upto fcsBurstsSpec)

/-- 'bowlinelaw02.FcsXor', WHERE WHAT IT READS IS OF BULK AT MOST 1048576: true; the input reads as it did. -/
def fcsXorUptoRow : OpenClaim := { program := "ytjpaoinlekkakaa", sum := "452e75edae7edd2acde41d9591e520e3267b1ba118988f6b1bd9f53d65798abe", func := "bowline/bowlinelaw02.FcsXor", spec := "fcsXor", apart := false, narrowed := true }
def FcsXorUptoSaid : Prop := fcsXorUptoRow.holds Try.pinned (OpenSpec.upto fcsXorSpec)

/-- 'bowlinelaw02.FcsStill', WHERE WHAT IT READS IS OF BULK AT MOST 1048576: true; the input reads as it did. -/
def fcsStillUptoRow : OpenClaim := { program := "ytjpaoinlekkakaa", sum := "452e75edae7edd2acde41d9591e520e3267b1ba118988f6b1bd9f53d65798abe", func := "bowline/bowlinelaw02.FcsStill", spec := "fcsStill", apart := false, narrowed := true }
def FcsStillUptoSaid : Prop := fcsStillUptoRow.holds Try.pinned (OpenSpec.upto fcsStillSpec)

/-- 'bowlinelaw02.FcsEnds', WHERE WHAT IT READS IS OF BULK AT MOST 1048576: true; the input reads as it did. -/
def fcsEndsUptoRow : OpenClaim := { program := "ytjpaoinlekkakaa", sum := "452e75edae7edd2acde41d9591e520e3267b1ba118988f6b1bd9f53d65798abe", func := "bowline/bowlinelaw02.FcsEnds", spec := "fcsEnds", apart := false, narrowed := true }
def FcsEndsUptoSaid : Prop := fcsEndsUptoRow.holds Try.pinned (OpenSpec.upto fcsEndsSpec)

end Rows
end Go.Proofs.Ytjpaoinlekkakaa
