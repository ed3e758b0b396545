/-
  No cell of these rows narrows 'for every input' (looked for: loops, veiled, ifaces, maps, wideKeys, modest, calm, conditions, laid).
  DERIVED. THE GIVEN ROWS OF THIS SEAT. 7 by the template 'for every input the law returns true; each argument reads behind the call as it read before'; 0 by the template 'total and deterministic' (their statements: YtfdjfejlfkabdaaTotals.lean).
  GIVEN WITH THE SEED: the statements are not yours to turn. If you find one false, say at which input.
  Laid BY PROGRAM, IN A SANDBOX (cutbox-rows.mjs): the forced cells as the released guide's own fill.sh prints them over the translation ca374f3eb73e55b1… (all of the seat's roots in one cut). By AI agents, Wed Nov 11 2026. No macro, syntax, notation, axiom, sorry.
-/
import Derived.Test.YtfdjfejlfkabdaaChecked
import GoSem.Claim
import GoSem.ClaimJoined
import GoSem.ClaimMapViews
import Derived.JoinedTies
import Derived.KernelRfl
namespace Go.Proofs.Ytfdjfejlfkabdaa
/- THE CELL 'sum', in the pinned program and in every row, IS THE sha256 OF THE DUMP (.gsa) THAT YtfdjfejlfkabdaaProg.lean LOADS. Nothing in Lean hashes anything: it is a label: what it is worth is what the hold of that sum in a sandbox is worth. -/
noncomputable def Try.pinned : Pinned := { name := "ytfdjfejlfkabdaa", sum := "ca374f3eb73e55b1ae50d03ae1276b5a829566302ad314331783b591904b0a17", checked := Try.checked }
namespace Rows
def none {H : Type} : Left H := { results := [], args := [] }

/-- 'bowlinelaw11.FragTells': WHATEVER THE INPUT: true; the input reads as it did. -/
def fragTellsSpec : ChangeSpec := { name := "fragTells", fn := fun _ => fun
  | [d1, d2, d3, d4] => { results := [.lit (.bool true)], args := [d1, d2, d3, d4] }
  | _ => none }
def fragTellsRow : OpenClaim := { program := "ytfdjfejlfkabdaa", sum := "ca374f3eb73e55b1ae50d03ae1276b5a829566302ad314331783b591904b0a17", func := "bowline/bowlinelaw11.FragTells", spec := "fragTells", unfollowed := true, recurses := true, apart := false }
def FragTellsSaid : Prop := fragTellsRow.holds Try.pinned (OpenSpec.ofChange fragTellsSpec)

/-- ITS FALSE NEIGHBOUR: 'it returns false'. Refute it at one input. -/
def fragTellsWrong : ChangeSpec := { name := "fragTells", fn := fun _ => fun
  | [d1, d2, d3, d4] => { results := [.lit (.bool false)], args := [d1, d2, d3, d4] }
  | _ => none }
def FragTellsWrongFalsely : Prop := fragTellsRow.holds Try.pinned (OpenSpec.ofChange fragTellsWrong)

/-- 'bowlinelaw11.FragBack': WHATEVER THE INPUT: true; the input reads as it did. -/
def fragBackSpec : ChangeSpec := { name := "fragBack", fn := fun _ => fun
  | [d1, d2] => { results := [.lit (.bool true)], args := [d1, d2] }
  | _ => none }
def fragBackRow : OpenClaim := { program := "ytfdjfejlfkabdaa", sum := "ca374f3eb73e55b1ae50d03ae1276b5a829566302ad314331783b591904b0a17", func := "bowline/bowlinelaw11.FragBack", spec := "fragBack", unfollowed := true, recurses := true, apart := false }
def FragBackSaid : Prop := fragBackRow.holds Try.pinned (OpenSpec.ofChange fragBackSpec)

/-- ITS FALSE NEIGHBOUR: 'it returns false'. Refute it at one input. -/
def fragBackWrong : ChangeSpec := { name := "fragBack", fn := fun _ => fun
  | [d1, d2] => { results := [.lit (.bool false)], args := [d1, d2] }
  | _ => none }
def FragBackWrongFalsely : Prop := fragBackRow.holds Try.pinned (OpenSpec.ofChange fragBackWrong)

/-- 'bowlinelaw11.FragLess': WHATEVER THE INPUT: true; the input reads as it did. -/
def fragLessSpec : ChangeSpec := { name := "fragLess", fn := fun _ => fun
  | [d1, d2] => { results := [.lit (.bool true)], args := [d1, d2] }
  | _ => none }
def fragLessRow : OpenClaim := { program := "ytfdjfejlfkabdaa", sum := "ca374f3eb73e55b1ae50d03ae1276b5a829566302ad314331783b591904b0a17", func := "bowline/bowlinelaw11.FragLess", spec := "fragLess", unfollowed := true, recurses := true, apart := false }
def FragLessSaid : Prop := fragLessRow.holds Try.pinned (OpenSpec.ofChange fragLessSpec)

/-- ITS FALSE NEIGHBOUR: 'it returns false'. Refute it at one input. -/
def fragLessWrong : ChangeSpec := { name := "fragLess", fn := fun _ => fun
  | [d1, d2] => { results := [.lit (.bool false)], args := [d1, d2] }
  | _ => none }
def FragLessWrongFalsely : Prop := fragLessRow.holds Try.pinned (OpenSpec.ofChange fragLessWrong)

/-- 'bowlinelaw11.FragJoins': WHATEVER THE INPUT: true; the input reads as it did. -/
def fragJoinsSpec : ChangeSpec := { name := "fragJoins", fn := fun _ => fun
  | [d1, d2] => { results := [.lit (.bool true)], args := [d1, d2] }
  | _ => none }
def fragJoinsRow : OpenClaim := { program := "ytfdjfejlfkabdaa", sum := "ca374f3eb73e55b1ae50d03ae1276b5a829566302ad314331783b591904b0a17", func := "bowline/bowlinelaw11.FragJoins", spec := "fragJoins", unfollowed := true, recurses := true, apart := false }
def FragJoinsSaid : Prop := fragJoinsRow.holds Try.pinned (OpenSpec.ofChange fragJoinsSpec)

/-- ITS FALSE NEIGHBOUR: 'it returns false'. Refute it at one input. -/
def fragJoinsWrong : ChangeSpec := { name := "fragJoins", fn := fun _ => fun
  | [d1, d2] => { results := [.lit (.bool false)], args := [d1, d2] }
  | _ => none }
def FragJoinsWrongFalsely : Prop := fragJoinsRow.holds Try.pinned (OpenSpec.ofChange fragJoinsWrong)

/-- 'bowlinelaw11.FragSizes': WHATEVER THE INPUT: true; the input reads as it did. -/
def fragSizesSpec : ChangeSpec := { name := "fragSizes", fn := fun _ => fun
  | [d1, d2] => { results := [.lit (.bool true)], args := [d1, d2] }
  | _ => none }
def fragSizesRow : OpenClaim := { program := "ytfdjfejlfkabdaa", sum := "ca374f3eb73e55b1ae50d03ae1276b5a829566302ad314331783b591904b0a17", func := "bowline/bowlinelaw11.FragSizes", spec := "fragSizes", unfollowed := true, recurses := true, apart := false }
def FragSizesSaid : Prop := fragSizesRow.holds Try.pinned (OpenSpec.ofChange fragSizesSpec)

/-- ITS FALSE NEIGHBOUR: 'it returns false'. Refute it at one input. -/
def fragSizesWrong : ChangeSpec := { name := "fragSizes", fn := fun _ => fun
  | [d1, d2] => { results := [.lit (.bool false)], args := [d1, d2] }
  | _ => none }
def FragSizesWrongFalsely : Prop := fragSizesRow.holds Try.pinned (OpenSpec.ofChange fragSizesWrong)

/-- 'bowlinelaw11.FragHead': WHATEVER THE INPUT: true; the input reads as it did. -/
def fragHeadSpec : ChangeSpec := { name := "fragHead", fn := fun _ => fun
  | [d1, d2, d3] => { results := [.lit (.bool true)], args := [d1, d2, d3] }
  | _ => none }
def fragHeadRow : OpenClaim := { program := "ytfdjfejlfkabdaa", sum := "ca374f3eb73e55b1ae50d03ae1276b5a829566302ad314331783b591904b0a17", func := "bowline/bowlinelaw11.FragHead", spec := "fragHead", unfollowed := true, recurses := true, apart := false }
def FragHeadSaid : Prop := fragHeadRow.holds Try.pinned (OpenSpec.ofChange fragHeadSpec)

/-- ITS FALSE NEIGHBOUR: 'it returns false'. Refute it at one input. -/
def fragHeadWrong : ChangeSpec := { name := "fragHead", fn := fun _ => fun
  | [d1, d2, d3] => { results := [.lit (.bool false)], args := [d1, d2, d3] }
  | _ => none }
def FragHeadWrongFalsely : Prop := fragHeadRow.holds Try.pinned (OpenSpec.ofChange fragHeadWrong)

/-- 'bowlinelaw11.FragMany': WHATEVER THE INPUT: true; the input reads as it did. -/
def fragManySpec : ChangeSpec := { name := "fragMany", fn := fun _ => fun
  | [d1, d2, d3] => { results := [.lit (.bool true)], args := [d1, d2, d3] }
  | _ => none }
def fragManyRow : OpenClaim := { program := "ytfdjfejlfkabdaa", sum := "ca374f3eb73e55b1ae50d03ae1276b5a829566302ad314331783b591904b0a17", func := "bowline/bowlinelaw11.FragMany", spec := "fragMany", unfollowed := true, recurses := true, apart := false }
def FragManySaid : Prop := fragManyRow.holds Try.pinned (OpenSpec.ofChange fragManySpec)

/-- ITS FALSE NEIGHBOUR: 'it returns false'. Refute it at one input. -/
def fragManyWrong : ChangeSpec := { name := "fragMany", fn := fun _ => fun
  | [d1, d2, d3] => { results := [.lit (.bool false)], args := [d1, d2, d3] }
  | _ => none }
def FragManyWrongFalsely : Prop := fragManyRow.holds Try.pinned (OpenSpec.ofChange fragManyWrong)

/- THE SECOND FORM. 'bulk': how many values and letters a reading holds, each counted each time it is reached (what is shared counts as often as it is met; a slice's spare places count too). A statement '..UptoSaid' is the law's where the arguments, and the package variables that the reading takes, are together of bulk at most 1048576: NARROWER than '..Said'. Prove '..Said' where nothing that the law and all that it calls make is longer than what came in: it says more and counts as full. Else prove '..UptoSaid'. A law counts once. -/
mutual
def uptoBulk {H : Type} : DataW H → Nat
  | .lit (.string bytes) => bytes.length + 1
  | .lit _ => 1
  | .nil => 1
  | .ptr d => uptoBulk d + 1
  | .slice elems spare => uptoBulkAll elems + uptoBulkAll spare + 1
  | .agg parts => uptoBulkAll parts + 1
  | .iface _ d => uptoBulk d + 1
  | .map entries => uptoBulkEntries entries + 1
  | .held _ => 1
def uptoBulkAll {H : Type} : List (DataW H) → Nat
  | [] => 0
  | d :: r => uptoBulk d + uptoBulkAll r
def uptoBulkEntries {H : Type} : List (Lit × DataW H) → Nat
  | [] => 0
  | x :: r => uptoBulkEntry x + uptoBulkEntries r
def uptoBulkEntry {H : Type} : Lit × DataW H → Nat
  | (.string bytes, d) => bytes.length + uptoBulk d + 1
  | (_, d) => uptoBulk d + 1
 end
def uptoSmall : (H : Type) → List (DataW H) → Bool := fun _ ds => decide (uptoBulkAll ds ≤ 1048576)
def OpenSpec.upto (s : _root_.Go.ChangeSpec) : _root_.Go.OpenSpec := { _root_.Go.OpenSpec.ofChange s with cond := some uptoSmall }

/-- 'bowlinelaw11.FragTells', WHERE WHAT IT READS IS OF BULK AT MOST 1048576: true; the input reads as it did. -/
def fragTellsUptoRow : OpenClaim := { program := "ytfdjfejlfkabdaa", sum := "ca374f3eb73e55b1ae50d03ae1276b5a829566302ad314331783b591904b0a17", func := "bowline/bowlinelaw11.FragTells", spec := "fragTells", unfollowed := true, recurses := true, apart := false, narrowed := true }
def FragTellsUptoSaid : Prop := fragTellsUptoRow.holds Try.pinned (OpenSpec.upto fragTellsSpec)

/-- 'bowlinelaw11.FragBack', WHERE WHAT IT READS IS OF BULK AT MOST 1048576: true; the input reads as it did. -/
def fragBackUptoRow : OpenClaim := { program := "ytfdjfejlfkabdaa", sum := "ca374f3eb73e55b1ae50d03ae1276b5a829566302ad314331783b591904b0a17", func := "bowline/bowlinelaw11.FragBack", spec := "fragBack", unfollowed := true, recurses := true, apart := false, narrowed := true }
def FragBackUptoSaid : Prop := fragBackUptoRow.holds Try.pinned (OpenSpec.upto fragBackSpec)

/-- 'bowlinelaw11.FragLess', WHERE WHAT IT READS IS OF BULK AT MOST 1048576: true; the input reads as it did. -/
def fragLessUptoRow : OpenClaim := { program := "ytfdjfejlfkabdaa", sum := "ca374f3eb73e55b1ae50d03ae1276b5a829566302ad314331783b591904b0a17", func := "bowline/bowlinelaw11.FragLess", spec := "fragLess", unfollowed := true, recurses := true, apart := false, narrowed := true }
def FragLessUptoSaid : Prop := fragLessUptoRow.holds Try.pinned (OpenSpec.upto fragLessSpec)

/-- 'bowlinelaw11.FragJoins', WHERE WHAT IT READS IS OF BULK AT MOST 1048576: true; the input reads as it did. -/
def fragJoinsUptoRow : OpenClaim := { program := "ytfdjfejlfkabdaa", sum := "ca374f3eb73e55b1ae50d03ae1276b5a829566302ad314331783b591904b0a17", func := "bowline/bowlinelaw11.FragJoins", spec := "fragJoins", unfollowed := true, recurses := true, apart := false, narrowed := true }
def FragJoinsUptoSaid : Prop := fragJoinsUptoRow.holds Try.pinned (OpenSpec.upto fragJoinsSpec)

/-- 'bowlinelaw11.FragSizes', WHERE WHAT IT READS IS OF BULK AT MOST 1048576: true; the input reads as it did. -/
def fragSizesUptoRow : OpenClaim := { program := "ytfdjfejlfkabdaa", sum := "ca374f3eb73e55b1ae50d03ae1276b5a829566302ad314331783b591904b0a17", func := "bowline/bowlinelaw11.FragSizes", spec := "fragSizes", unfollowed := true, recurses := true, apart := false, narrowed := true }
def FragSizesUptoSaid : Prop := fragSizesUptoRow.holds Try.pinned (OpenSpec.upto fragSizesSpec)

/-- 'bowlinelaw11.FragHead', WHERE WHAT IT READS IS OF BULK AT MOST 1048576: true; the input reads as it did. -/
def fragHeadUptoRow : OpenClaim := { program := "ytfdjfejlfkabdaa", sum := "ca374f3eb73e55b1ae50d03ae1276b5a829566302ad314331783b591904b0a17", func := "bowline/bowlinelaw11.FragHead", spec := "fragHead", unfollowed := true, recurses := true, apart := false, narrowed := true }
def FragHeadUptoSaid : Prop := fragHeadUptoRow.holds Try.pinned (OpenSpec.upto fragHeadSpec)

/-- 'bowlinelaw11.FragMany', WHERE WHAT IT READS IS OF BULK AT MOST 1048576: true; the input reads as it did. -/
def fragManyUptoRow : OpenClaim := { program := "ytfdjfejlfkabdaa", sum := "ca374f3eb73e55b1ae50d03ae1276b5a829566302ad314331783b591904b0a17", func := "bowline/bowlinelaw11.FragMany", spec := "fragMany", unfollowed := true, recurses := true, apart := false, narrowed := true }
def FragManyUptoSaid : Prop := fragManyUptoRow.holds Try.pinned (OpenSpec.upto fragManySpec)

end Rows
end Go.Proofs.Ytfdjfejlfkabdaa
