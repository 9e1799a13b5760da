/-
  No cell of these rows narrows 'for every input' (looked for: loops, veiled, ifaces, maps, wideKeys, modest, calm, conditions, laid).
  DERIVED. THE GIVEN ROWS OF THIS SEAT. 10 by the template 'for every input the law returns true; each argument reads behind the call as it read before'; 0 by the template 'total and deterministic' (their statements: YteelmdpahpggkaaGreatTotals.lean).
  GIVEN WITH THE SEED: the statements are not yours to turn. If you find one false, say at which input.
  Laid BY PROGRAM, IN A SANDBOX (cutbox-rows.mjs): the forced cells as the released guide's own fill.sh prints them over the translation 42bbe9728132e8e3… (all of the seat's roots in one cut). By AI agents, Wed Nov 11 2026. No macro, syntax, notation, axiom, sorry.
-/
import Derived.Test.YteelmdpahpggkaaGreatChecked
import GoSem.Claim
import GoSem.ClaimJoined
import GoSem.ClaimMapViews
import Derived.JoinedTies
import Derived.KernelRfl
namespace Go.Proofs.YteelmdpahpggkaaGreat
/- THE CELL 'sum', in the pinned program and in every row, IS THE sha256 OF THE DUMP (.gsa) THAT YteelmdpahpggkaaGreatProg.lean LOADS. Nothing in Lean hashes anything: it is a label: what it is worth is what the hold of that sum in a sandbox is worth. -/
noncomputable def Tryz.pinned : Pinned := { name := "yteelmdpahpggkaagreat", sum := "42bbe9728132e8e3f006e31a1c6269b9b0d8f722f6744e621b2c6338a3c5326a", checked := Tryz.checked }
namespace Rows
def none {H : Type} : Left H := { results := [], args := [] }

/-- 'laws.FnExactBegin': WHATEVER THE INPUT: true; the input reads as it did. -/
def fnExactBeginSpec : ChangeSpec := { name := "fnExactBegin", fn := fun _ => fun
  | [d] => { results := [.lit (.bool true)], args := [d] }
  | _ => none }
def fnExactBeginRow : OpenClaim := { program := "yteelmdpahpggkaagreat", sum := "42bbe9728132e8e3f006e31a1c6269b9b0d8f722f6744e621b2c6338a3c5326a", func := "loop.example/g00975/laws.FnExactBegin", spec := "fnExactBegin", apart := false }
def FnExactBeginSaid : Prop := fnExactBeginRow.holds Tryz.pinned (OpenSpec.ofChange fnExactBeginSpec)

/-- ITS FALSE NEIGHBOUR: 'it returns false'. Refute it at one input. -/
def fnExactBeginWrong : ChangeSpec := { name := "fnExactBegin", fn := fun _ => fun
  | [d] => { results := [.lit (.bool false)], args := [d] }
  | _ => none }
def FnExactBeginWrongFalsely : Prop := fnExactBeginRow.holds Tryz.pinned (OpenSpec.ofChange fnExactBeginWrong)

/-- 'laws.FnExactLand': WHATEVER THE INPUT: true; the input reads as it did. -/
def fnExactLandSpec : ChangeSpec := { name := "fnExactLand", fn := fun _ => fun
  | [d1, d2] => { results := [.lit (.bool true)], args := [d1, d2] }
  | _ => none }
def fnExactLandRow : OpenClaim := { program := "yteelmdpahpggkaagreat", sum := "42bbe9728132e8e3f006e31a1c6269b9b0d8f722f6744e621b2c6338a3c5326a", func := "loop.example/g00975/laws.FnExactLand", spec := "fnExactLand", apart := false }
def FnExactLandSaid : Prop := fnExactLandRow.holds Tryz.pinned (OpenSpec.ofChange fnExactLandSpec)

/-- ITS FALSE NEIGHBOUR: 'it returns false'. Refute it at one input. -/
def fnExactLandWrong : ChangeSpec := { name := "fnExactLand", fn := fun _ => fun
  | [d1, d2] => { results := [.lit (.bool false)], args := [d1, d2] }
  | _ => none }
def FnExactLandWrongFalsely : Prop := fnExactLandRow.holds Tryz.pinned (OpenSpec.ofChange fnExactLandWrong)

/-- 'laws.FnExactMoveImage': WHATEVER THE INPUT: true; the input reads as it did. -/
def fnExactMoveImageSpec : ChangeSpec := { name := "fnExactMoveImage", fn := fun _ => fun
  | [d1, d2] => { results := [.lit (.bool true)], args := [d1, d2] }
  | _ => none }
def fnExactMoveImageRow : OpenClaim := { program := "yteelmdpahpggkaagreat", sum := "42bbe9728132e8e3f006e31a1c6269b9b0d8f722f6744e621b2c6338a3c5326a", func := "loop.example/g00975/laws.FnExactMoveImage", spec := "fnExactMoveImage", apart := false }
def FnExactMoveImageSaid : Prop := fnExactMoveImageRow.holds Tryz.pinned (OpenSpec.ofChange fnExactMoveImageSpec)

/-- ITS FALSE NEIGHBOUR: 'it returns false'. Refute it at one input. -/
def fnExactMoveImageWrong : ChangeSpec := { name := "fnExactMoveImage", fn := fun _ => fun
  | [d1, d2] => { results := [.lit (.bool false)], args := [d1, d2] }
  | _ => none }
def FnExactMoveImageWrongFalsely : Prop := fnExactMoveImageRow.holds Tryz.pinned (OpenSpec.ofChange fnExactMoveImageWrong)

/-- 'laws.FnExactFence': WHATEVER THE INPUT: true; the input reads as it did. -/
def fnExactFenceSpec : ChangeSpec := { name := "fnExactFence", fn := fun _ => fun
  | [d1, d2] => { results := [.lit (.bool true)], args := [d1, d2] }
  | _ => none }
def fnExactFenceRow : OpenClaim := { program := "yteelmdpahpggkaagreat", sum := "42bbe9728132e8e3f006e31a1c6269b9b0d8f722f6744e621b2c6338a3c5326a", func := "loop.example/g00975/laws.FnExactFence", spec := "fnExactFence", unfollowed := true, recurses := true, apart := false }
def FnExactFenceSaid : Prop := fnExactFenceRow.holds Tryz.pinned (OpenSpec.ofChange fnExactFenceSpec)

/-- ITS FALSE NEIGHBOUR: 'it returns false'. Refute it at one input. -/
def fnExactFenceWrong : ChangeSpec := { name := "fnExactFence", fn := fun _ => fun
  | [d1, d2] => { results := [.lit (.bool false)], args := [d1, d2] }
  | _ => none }
def FnExactFenceWrongFalsely : Prop := fnExactFenceRow.holds Tryz.pinned (OpenSpec.ofChange fnExactFenceWrong)

/-- 'laws.FnExactMoveCopy': WHATEVER THE INPUT: true; the input reads as it did. -/
def fnExactMoveCopySpec : ChangeSpec := { name := "fnExactMoveCopy", fn := fun _ => fun
  | [d1, d2, d3] => { results := [.lit (.bool true)], args := [d1, d2, d3] }
  | _ => none }
def fnExactMoveCopyRow : OpenClaim := { program := "yteelmdpahpggkaagreat", sum := "42bbe9728132e8e3f006e31a1c6269b9b0d8f722f6744e621b2c6338a3c5326a", func := "loop.example/g00975/laws.FnExactMoveCopy", spec := "fnExactMoveCopy", unfollowed := true, recurses := true, apart := false }
def FnExactMoveCopySaid : Prop := fnExactMoveCopyRow.holds Tryz.pinned (OpenSpec.ofChange fnExactMoveCopySpec)

/-- ITS FALSE NEIGHBOUR: 'it returns false'. Refute it at one input. -/
def fnExactMoveCopyWrong : ChangeSpec := { name := "fnExactMoveCopy", fn := fun _ => fun
  | [d1, d2, d3] => { results := [.lit (.bool false)], args := [d1, d2, d3] }
  | _ => none }
def FnExactMoveCopyWrongFalsely : Prop := fnExactMoveCopyRow.holds Tryz.pinned (OpenSpec.ofChange fnExactMoveCopyWrong)

/-- 'laws.FnExactMoveAll': WHATEVER THE INPUT: true; the input reads as it did. -/
def fnExactMoveAllSpec : ChangeSpec := { name := "fnExactMoveAll", fn := fun _ => fun
  | [d1, d2, d3, d4] => { results := [.lit (.bool true)], args := [d1, d2, d3, d4] }
  | _ => none }
def fnExactMoveAllRow : OpenClaim := { program := "yteelmdpahpggkaagreat", sum := "42bbe9728132e8e3f006e31a1c6269b9b0d8f722f6744e621b2c6338a3c5326a", func := "loop.example/g00975/laws.FnExactMoveAll", spec := "fnExactMoveAll", unfollowed := true, recurses := true, apart := false }
def FnExactMoveAllSaid : Prop := fnExactMoveAllRow.holds Tryz.pinned (OpenSpec.ofChange fnExactMoveAllSpec)

/-- ITS FALSE NEIGHBOUR: 'it returns false'. Refute it at one input. -/
def fnExactMoveAllWrong : ChangeSpec := { name := "fnExactMoveAll", fn := fun _ => fun
  | [d1, d2, d3, d4] => { results := [.lit (.bool false)], args := [d1, d2, d3, d4] }
  | _ => none }
def FnExactMoveAllWrongFalsely : Prop := fnExactMoveAllRow.holds Tryz.pinned (OpenSpec.ofChange fnExactMoveAllWrong)

/-- 'laws.FnExactStayedLife': WHATEVER THE INPUT: true; the input reads as it did. -/
def fnExactStayedLifeSpec : ChangeSpec := { name := "fnExactStayedLife", fn := fun _ => fun
  | [d1, d2, d3] => { results := [.lit (.bool true)], args := [d1, d2, d3] }
  | _ => none }
def fnExactStayedLifeRow : OpenClaim := { program := "yteelmdpahpggkaagreat", sum := "42bbe9728132e8e3f006e31a1c6269b9b0d8f722f6744e621b2c6338a3c5326a", func := "loop.example/g00975/laws.FnExactStayedLife", spec := "fnExactStayedLife", unfollowed := true, recurses := true, apart := false }
def FnExactStayedLifeSaid : Prop := fnExactStayedLifeRow.holds Tryz.pinned (OpenSpec.ofChange fnExactStayedLifeSpec)

/-- ITS FALSE NEIGHBOUR: 'it returns false'. Refute it at one input. -/
def fnExactStayedLifeWrong : ChangeSpec := { name := "fnExactStayedLife", fn := fun _ => fun
  | [d1, d2, d3] => { results := [.lit (.bool false)], args := [d1, d2, d3] }
  | _ => none }
def FnExactStayedLifeWrongFalsely : Prop := fnExactStayedLifeRow.holds Tryz.pinned (OpenSpec.ofChange fnExactStayedLifeWrong)

/-- 'laws.FnExactRewritten': WHATEVER THE INPUT: true; the input reads as it did. -/
def fnExactRewrittenSpec : ChangeSpec := { name := "fnExactRewritten", fn := fun _ => fun
  | [d1, d2, d3] => { results := [.lit (.bool true)], args := [d1, d2, d3] }
  | _ => none }
def fnExactRewrittenRow : OpenClaim := { program := "yteelmdpahpggkaagreat", sum := "42bbe9728132e8e3f006e31a1c6269b9b0d8f722f6744e621b2c6338a3c5326a", func := "loop.example/g00975/laws.FnExactRewritten", spec := "fnExactRewritten", unfollowed := true, recurses := true, apart := false }
def FnExactRewrittenSaid : Prop := fnExactRewrittenRow.holds Tryz.pinned (OpenSpec.ofChange fnExactRewrittenSpec)

/-- ITS FALSE NEIGHBOUR: 'it returns false'. Refute it at one input. -/
def fnExactRewrittenWrong : ChangeSpec := { name := "fnExactRewritten", fn := fun _ => fun
  | [d1, d2, d3] => { results := [.lit (.bool false)], args := [d1, d2, d3] }
  | _ => none }
def FnExactRewrittenWrongFalsely : Prop := fnExactRewrittenRow.holds Tryz.pinned (OpenSpec.ofChange fnExactRewrittenWrong)

/-- 'laws.FnExactAwayLife': WHATEVER THE INPUT: true; the input reads as it did. -/
def fnExactAwayLifeSpec : ChangeSpec := { name := "fnExactAwayLife", fn := fun _ => fun
  | [d1, d2, d3] => { results := [.lit (.bool true)], args := [d1, d2, d3] }
  | _ => none }
def fnExactAwayLifeRow : OpenClaim := { program := "yteelmdpahpggkaagreat", sum := "42bbe9728132e8e3f006e31a1c6269b9b0d8f722f6744e621b2c6338a3c5326a", func := "loop.example/g00975/laws.FnExactAwayLife", spec := "fnExactAwayLife", unfollowed := true, recurses := true, apart := false }
def FnExactAwayLifeSaid : Prop := fnExactAwayLifeRow.holds Tryz.pinned (OpenSpec.ofChange fnExactAwayLifeSpec)

/-- ITS FALSE NEIGHBOUR: 'it returns false'. Refute it at one input. -/
def fnExactAwayLifeWrong : ChangeSpec := { name := "fnExactAwayLife", fn := fun _ => fun
  | [d1, d2, d3] => { results := [.lit (.bool false)], args := [d1, d2, d3] }
  | _ => none }
def FnExactAwayLifeWrongFalsely : Prop := fnExactAwayLifeRow.holds Tryz.pinned (OpenSpec.ofChange fnExactAwayLifeWrong)

/-- 'laws.FnExactMovedLife': WHATEVER THE INPUT: true; the input reads as it did. -/
def fnExactMovedLifeSpec : ChangeSpec := { name := "fnExactMovedLife", fn := fun _ => fun
  | [d1, d2, d3, d4] => { results := [.lit (.bool true)], args := [d1, d2, d3, d4] }
  | _ => none }
def fnExactMovedLifeRow : OpenClaim := { program := "yteelmdpahpggkaagreat", sum := "42bbe9728132e8e3f006e31a1c6269b9b0d8f722f6744e621b2c6338a3c5326a", func := "loop.example/g00975/laws.FnExactMovedLife", spec := "fnExactMovedLife", unfollowed := true, recurses := true, apart := false }
def FnExactMovedLifeSaid : Prop := fnExactMovedLifeRow.holds Tryz.pinned (OpenSpec.ofChange fnExactMovedLifeSpec)

/-- ITS FALSE NEIGHBOUR: 'it returns false'. Refute it at one input. -/
def fnExactMovedLifeWrong : ChangeSpec := { name := "fnExactMovedLife", fn := fun _ => fun
  | [d1, d2, d3, d4] => { results := [.lit (.bool false)], args := [d1, d2, d3, d4] }
  | _ => none }
def FnExactMovedLifeWrongFalsely : Prop := fnExactMovedLifeRow.holds Tryz.pinned (OpenSpec.ofChange fnExactMovedLifeWrong)

/- THE SECOND FORM. 'bulk': how many values and letters a reading holds, each counted each time it is reached (what is shared counts as often as it is met; a slice's spare places count too). A statement '..UptoSaid' is the law's where the arguments, and the package variables that the reading takes, are together of bulk at most 1048576: NARROWER than '..Said'. Prove '..Said' where nothing that the law and all that it calls make is longer than what came in: it says more and counts as full. Else prove '..UptoSaid'. A law counts once. -/
mutual
def uptoBulk {H : Type} : DataW H → Nat
  | .lit (.string bytes) => bytes.length + 1
  | .lit _ => 1
  | .nil => 1
  | .ptr d => uptoBulk d + 1
  | .slice elems spare => uptoBulkAll elems + uptoBulkAll spare + 1
  | .agg parts => uptoBulkAll parts + 1
  | .iface _ d => uptoBulk d + 1
  | .map entries => uptoBulkEntries entries + 1
  | .held _ => 1
def uptoBulkAll {H : Type} : List (DataW H) → Nat
  | [] => 0
  | d :: r => uptoBulk d + uptoBulkAll r
def uptoBulkEntries {H : Type} : List (Lit × DataW H) → Nat
  | [] => 0
  | x :: r => uptoBulkEntry x + uptoBulkEntries r
def uptoBulkEntry {H : Type} : Lit × DataW H → Nat
  | (.string bytes, d) => bytes.length + uptoBulk d + 1
  | (_, d) => uptoBulk d + 1
 end
def uptoSmall : (H : Type) → List (DataW H) → Bool := fun _ ds => decide (uptoBulkAll ds ≤ 1048576)
def OpenSpec.upto (s : _root_.Go.ChangeSpec) : _root_.Go.OpenSpec := { _root_.Go.OpenSpec.ofChange s with cond := some uptoSmall }

/-- 'laws.FnExactBegin', WHERE WHAT IT READS IS OF BULK AT MOST 1048576: true; the input reads as it did. -/
def fnExactBeginUptoRow : OpenClaim := { program := "yteelmdpahpggkaagreat", sum := "42bbe9728132e8e3f006e31a1c6269b9b0d8f722f6744e621b2c6338a3c5326a", func := "loop.example/g00975/laws.FnExactBegin", spec := "fnExactBegin", apart := false, narrowed := true }
def FnExactBeginUptoSaid : Prop := fnExactBeginUptoRow.holds Tryz.pinned (OpenSpec.upto fnExactBeginSpec)

/-- 'laws.FnExactLand', WHERE WHAT IT READS IS OF BULK AT MOST 1048576: true; the input reads as it did. -/
def fnExactLandUptoRow : OpenClaim := { program := "yteelmdpahpggkaagreat", sum := "42bbe9728132e8e3f006e31a1c6269b9b0d8f722f6744e621b2c6338a3c5326a", func := "loop.example/g00975/laws.FnExactLand", spec := "fnExactLand", apart := false, narrowed := true }
def FnExactLandUptoSaid : Prop := fnExactLandUptoRow.holds Tryz.pinned (OpenSpec.upto fnExactLandSpec)

/-- 'laws.FnExactMoveImage', WHERE WHAT IT READS IS OF BULK AT MOST 1048576: true; the input reads as it did. -/
def fnExactMoveImageUptoRow : OpenClaim := { program := "yteelmdpahpggkaagreat", sum := "42bbe9728132e8e3f006e31a1c6269b9b0d8f722f6744e621b2c6338a3c5326a", func := "loop.example/g00975/laws.FnExactMoveImage", spec := "fnExactMoveImage", apart := false, narrowed := true }
def FnExactMoveImageUptoSaid : Prop := fnExactMoveImageUptoRow.holds Tryz.pinned (OpenSpec.upto fnExactMoveImageSpec)

/-- 'laws.FnExactFence', WHERE WHAT IT READS IS OF BULK AT MOST 1048576: true; the input reads as it did. -/
def fnExactFenceUptoRow : OpenClaim := { program := "yteelmdpahpggkaagreat", sum := "42bbe9728132e8e3f006e31a1c6269b9b0d8f722f6744e621b2c6338a3c5326a", func := "loop.example/g00975/laws.FnExactFence", spec := "fnExactFence", unfollowed := true, recurses := true, apart := false, narrowed := true }
def FnExactFenceUptoSaid : Prop := fnExactFenceUptoRow.holds Tryz.pinned (OpenSpec.upto fnExactFenceSpec)

/-- 'laws.FnExactMoveCopy', WHERE WHAT IT READS IS OF BULK AT MOST 1048576: true; the input reads as it did. -/
def fnExactMoveCopyUptoRow : OpenClaim := { program := "yteelmdpahpggkaagreat", sum := "42bbe9728132e8e3f006e31a1c6269b9b0d8f722f6744e621b2c6338a3c5326a", func := "loop.example/g00975/laws.FnExactMoveCopy", spec := "fnExactMoveCopy", unfollowed := true, recurses := true, apart := false, narrowed := true }
def FnExactMoveCopyUptoSaid : Prop := fnExactMoveCopyUptoRow.holds Tryz.pinned (OpenSpec.upto fnExactMoveCopySpec)

/-- 'laws.FnExactMoveAll', WHERE WHAT IT READS IS OF BULK AT MOST 1048576: true; the input reads as it did. -/
def fnExactMoveAllUptoRow : OpenClaim := { program := "yteelmdpahpggkaagreat", sum := "42bbe9728132e8e3f006e31a1c6269b9b0d8f722f6744e621b2c6338a3c5326a", func := "loop.example/g00975/laws.FnExactMoveAll", spec := "fnExactMoveAll", unfollowed := true, recurses := true, apart := false, narrowed := true }
def FnExactMoveAllUptoSaid : Prop := fnExactMoveAllUptoRow.holds Tryz.pinned (OpenSpec.upto fnExactMoveAllSpec)

/-- 'laws.FnExactStayedLife', WHERE WHAT IT READS IS OF BULK AT MOST 1048576: true; the input reads as it did. -/
def fnExactStayedLifeUptoRow : OpenClaim := { program := "yteelmdpahpggkaagreat", sum := "42bbe9728132e8e3f006e31a1c6269b9b0d8f722f6744e621b2c6338a3c5326a", func := "loop.example/g00975/laws.FnExactStayedLife", spec := "fnExactStayedLife", unfollowed := true, recurses := true, apart := false, narrowed := true }
def FnExactStayedLifeUptoSaid : Prop := fnExactStayedLifeUptoRow.holds Tryz.pinned (OpenSpec.upto fnExactStayedLifeSpec)

/-- 'laws.FnExactRewritten', WHERE WHAT IT READS IS OF BULK AT MOST 1048576: true; the input reads as it did. -/
def fnExactRewrittenUptoRow : OpenClaim := { program := "yteelmdpahpggkaagreat", sum := "42bbe9728132e8e3f006e31a1c6269b9b0d8f722f6744e621b2c6338a3c5326a", func := "loop.example/g00975/laws.FnExactRewritten", spec := "fnExactRewritten", unfollowed := true, recurses := true, apart := false, narrowed := true }
def FnExactRewrittenUptoSaid : Prop := fnExactRewrittenUptoRow.holds Tryz.pinned (OpenSpec.upto fnExactRewrittenSpec)

/-- 'laws.FnExactAwayLife', WHERE WHAT IT READS IS OF BULK AT MOST 1048576: true; the input reads as it did. -/
def fnExactAwayLifeUptoRow : OpenClaim := { program := "yteelmdpahpggkaagreat", sum := "42bbe9728132e8e3f006e31a1c6269b9b0d8f722f6744e621b2c6338a3c5326a", func := "loop.example/g00975/laws.FnExactAwayLife", spec := "fnExactAwayLife", unfollowed := true, recurses := true, apart := false, narrowed := true }
def FnExactAwayLifeUptoSaid : Prop := fnExactAwayLifeUptoRow.holds Tryz.pinned (OpenSpec.upto fnExactAwayLifeSpec)

/-- 'laws.FnExactMovedLife', WHERE WHAT IT READS IS OF BULK AT MOST 1048576: true; the input reads as it did. -/
def fnExactMovedLifeUptoRow : OpenClaim := { program := "yteelmdpahpggkaagreat", sum := "42bbe9728132e8e3f006e31a1c6269b9b0d8f722f6744e621b2c6338a3c5326a", func := "loop.example/g00975/laws.FnExactMovedLife", spec := "fnExactMovedLife", unfollowed := true, recurses := true, apart := false, narrowed := true }
def FnExactMovedLifeUptoSaid : Prop := fnExactMovedLifeUptoRow.holds Tryz.pinned (OpenSpec.upto fnExactMovedLifeSpec)

end Rows
end Go.Proofs.YteelmdpahpggkaaGreat
