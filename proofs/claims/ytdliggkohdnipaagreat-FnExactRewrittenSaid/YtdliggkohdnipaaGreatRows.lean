/-
  No cell of these rows narrows 'for every input' (looked for: loops, veiled, ifaces, maps, wideKeys, modest, calm, conditions, laid).
  DERIVED. THE GIVEN ROWS OF THIS SEAT. 9 by the template 'for every input the law returns true; each argument reads behind the call as it read before'; 0 by the template 'total and deterministic' (their statements: YtdliggkohdnipaaGreatTotals.lean).
  GIVEN WITH THE SEED: the statements are not yours to turn. If you find one false, say at which input.
  Laid BY PROGRAM, IN A SANDBOX (cutbox-rows.mjs): the forced cells as the released guide's own fill.sh prints them over the translation 7c500630fff872ea… (all of the seat's roots in one cut). By AI agents, Wed Nov 11 2026. No macro, syntax, notation, axiom, sorry.
-/
import Derived.Test.YtdliggkohdnipaaGreatChecked
import GoSem.Claim
import GoSem.ClaimJoined
import GoSem.ClaimMapViews
import Derived.JoinedTies
import Derived.KernelRfl
namespace Go.Proofs.YtdliggkohdnipaaGreat
/- THE CELL 'sum', in the pinned program and in every row, IS THE sha256 OF THE DUMP (.gsa) THAT YtdliggkohdnipaaGreatProg.lean LOADS. Nothing in Lean hashes anything: it is a label: what it is worth is what the hold of that sum in a sandbox is worth. -/
noncomputable def Tryz.pinned : Pinned := { name := "ytdliggkohdnipaagreat", sum := "7c500630fff872ea4a3710fb80e82f4ad118748172c4b21b793c8bb59e9e1c89", checked := Tryz.checked }
namespace Rows
def none {H : Type} : Left H := { results := [], args := [] }

/-- 'laws.FnAwayAnywhere': WHATEVER THE INPUT: true; the input reads as it did. -/
def fnAwayAnywhereSpec : ChangeSpec := { name := "fnAwayAnywhere", fn := fun _ => fun
  | [d] => { results := [.lit (.bool true)], args := [d] }
  | _ => none }
def fnAwayAnywhereRow : OpenClaim := { program := "ytdliggkohdnipaagreat", sum := "7c500630fff872ea4a3710fb80e82f4ad118748172c4b21b793c8bb59e9e1c89", func := "loop.example/g00975/laws.FnAwayAnywhere", spec := "fnAwayAnywhere", unfollowed := true, recurses := true, apart := false }
def FnAwayAnywhereSaid : Prop := fnAwayAnywhereRow.holds Tryz.pinned (OpenSpec.ofChange fnAwayAnywhereSpec)

/-- ITS FALSE NEIGHBOUR: 'it returns false'. Refute it at one input. -/
def fnAwayAnywhereWrong : ChangeSpec := { name := "fnAwayAnywhere", fn := fun _ => fun
  | [d] => { results := [.lit (.bool false)], args := [d] }
  | _ => none }
def FnAwayAnywhereWrongFalsely : Prop := fnAwayAnywhereRow.holds Tryz.pinned (OpenSpec.ofChange fnAwayAnywhereWrong)

/-- 'laws.FnTwice': WHATEVER THE INPUT: true; the input reads as it did. -/
def fnTwiceSpec : ChangeSpec := { name := "fnTwice", fn := fun _ => fun
  | [d] => { results := [.lit (.bool true)], args := [d] }
  | _ => none }
def fnTwiceRow : OpenClaim := { program := "ytdliggkohdnipaagreat", sum := "7c500630fff872ea4a3710fb80e82f4ad118748172c4b21b793c8bb59e9e1c89", func := "loop.example/g00975/laws.FnTwice", spec := "fnTwice", apart := false }
def FnTwiceSaid : Prop := fnTwiceRow.holds Tryz.pinned (OpenSpec.ofChange fnTwiceSpec)

/-- ITS FALSE NEIGHBOUR: 'it returns false'. Refute it at one input. -/
def fnTwiceWrong : ChangeSpec := { name := "fnTwice", fn := fun _ => fun
  | [d] => { results := [.lit (.bool false)], args := [d] }
  | _ => none }
def FnTwiceWrongFalsely : Prop := fnTwiceRow.holds Tryz.pinned (OpenSpec.ofChange fnTwiceWrong)

/-- 'laws.FnShorter': WHATEVER THE INPUT: true; the input reads as it did. -/
def fnShorterSpec : ChangeSpec := { name := "fnShorter", fn := fun _ => fun
  | [d] => { results := [.lit (.bool true)], args := [d] }
  | _ => none }
def fnShorterRow : OpenClaim := { program := "ytdliggkohdnipaagreat", sum := "7c500630fff872ea4a3710fb80e82f4ad118748172c4b21b793c8bb59e9e1c89", func := "loop.example/g00975/laws.FnShorter", spec := "fnShorter", unfollowed := true, recurses := true, apart := false }
def FnShorterSaid : Prop := fnShorterRow.holds Tryz.pinned (OpenSpec.ofChange fnShorterSpec)

/-- ITS FALSE NEIGHBOUR: 'it returns false'. Refute it at one input. -/
def fnShorterWrong : ChangeSpec := { name := "fnShorter", fn := fun _ => fun
  | [d] => { results := [.lit (.bool false)], args := [d] }
  | _ => none }
def FnShorterWrongFalsely : Prop := fnShorterRow.holds Tryz.pinned (OpenSpec.ofChange fnShorterWrong)

/-- 'laws.FnNoCopies': WHATEVER THE INPUT: true; the input reads as it did. -/
def fnNoCopiesSpec : ChangeSpec := { name := "fnNoCopies", fn := fun _ => fun
  | [d] => { results := [.lit (.bool true)], args := [d] }
  | _ => none }
def fnNoCopiesRow : OpenClaim := { program := "ytdliggkohdnipaagreat", sum := "7c500630fff872ea4a3710fb80e82f4ad118748172c4b21b793c8bb59e9e1c89", func := "loop.example/g00975/laws.FnNoCopies", spec := "fnNoCopies", unfollowed := true, recurses := true, apart := false }
def FnNoCopiesSaid : Prop := fnNoCopiesRow.holds Tryz.pinned (OpenSpec.ofChange fnNoCopiesSpec)

/-- ITS FALSE NEIGHBOUR: 'it returns false'. Refute it at one input. -/
def fnNoCopiesWrong : ChangeSpec := { name := "fnNoCopies", fn := fun _ => fun
  | [d] => { results := [.lit (.bool false)], args := [d] }
  | _ => none }
def FnNoCopiesWrongFalsely : Prop := fnNoCopiesRow.holds Tryz.pinned (OpenSpec.ofChange fnNoCopiesWrong)

/-- 'laws.FnMovedTwice': WHATEVER THE INPUT: true; the input reads as it did. -/
def fnMovedTwiceSpec : ChangeSpec := { name := "fnMovedTwice", fn := fun _ => fun
  | [d] => { results := [.lit (.bool true)], args := [d] }
  | _ => none }
def fnMovedTwiceRow : OpenClaim := { program := "ytdliggkohdnipaagreat", sum := "7c500630fff872ea4a3710fb80e82f4ad118748172c4b21b793c8bb59e9e1c89", func := "loop.example/g00975/laws.FnMovedTwice", spec := "fnMovedTwice", unfollowed := true, recurses := true, apart := false }
def FnMovedTwiceSaid : Prop := fnMovedTwiceRow.holds Tryz.pinned (OpenSpec.ofChange fnMovedTwiceSpec)

/-- ITS FALSE NEIGHBOUR: 'it returns false'. Refute it at one input. -/
def fnMovedTwiceWrong : ChangeSpec := { name := "fnMovedTwice", fn := fun _ => fun
  | [d] => { results := [.lit (.bool false)], args := [d] }
  | _ => none }
def FnMovedTwiceWrongFalsely : Prop := fnMovedTwiceRow.holds Tryz.pinned (OpenSpec.ofChange fnMovedTwiceWrong)

/-- 'laws.FnWhichever': WHATEVER THE INPUT: true; the input reads as it did. -/
def fnWhicheverSpec : ChangeSpec := { name := "fnWhichever", fn := fun _ => fun
  | [d] => { results := [.lit (.bool true)], args := [d] }
  | _ => none }
def fnWhicheverRow : OpenClaim := { program := "ytdliggkohdnipaagreat", sum := "7c500630fff872ea4a3710fb80e82f4ad118748172c4b21b793c8bb59e9e1c89", func := "loop.example/g00975/laws.FnWhichever", spec := "fnWhichever", unfollowed := true, recurses := true, apart := false }
def FnWhicheverSaid : Prop := fnWhicheverRow.holds Tryz.pinned (OpenSpec.ofChange fnWhicheverSpec)

/-- ITS FALSE NEIGHBOUR: 'it returns false'. Refute it at one input. -/
def fnWhicheverWrong : ChangeSpec := { name := "fnWhichever", fn := fun _ => fun
  | [d] => { results := [.lit (.bool false)], args := [d] }
  | _ => none }
def FnWhicheverWrongFalsely : Prop := fnWhicheverRow.holds Tryz.pinned (OpenSpec.ofChange fnWhicheverWrong)

/-- 'laws.FnExactRewritten': WHATEVER THE INPUT: true; the input reads as it did. -/
def fnExactRewrittenSpec : ChangeSpec := { name := "fnExactRewritten", fn := fun _ => fun
  | [d1, d2, d3] => { results := [.lit (.bool true)], args := [d1, d2, d3] }
  | _ => none }
def fnExactRewrittenRow : OpenClaim := { program := "ytdliggkohdnipaagreat", sum := "7c500630fff872ea4a3710fb80e82f4ad118748172c4b21b793c8bb59e9e1c89", func := "loop.example/g00975/laws.FnExactRewritten", spec := "fnExactRewritten", unfollowed := true, recurses := true, apart := false }
def FnExactRewrittenSaid : Prop := fnExactRewrittenRow.holds Tryz.pinned (OpenSpec.ofChange fnExactRewrittenSpec)

/-- ITS FALSE NEIGHBOUR: 'it returns false'. Refute it at one input. -/
def fnExactRewrittenWrong : ChangeSpec := { name := "fnExactRewritten", fn := fun _ => fun
  | [d1, d2, d3] => { results := [.lit (.bool false)], args := [d1, d2, d3] }
  | _ => none }
def FnExactRewrittenWrongFalsely : Prop := fnExactRewrittenRow.holds Tryz.pinned (OpenSpec.ofChange fnExactRewrittenWrong)

/-- 'laws.FnExactAwayLife': WHATEVER THE INPUT: true; the input reads as it did. -/
def fnExactAwayLifeSpec : ChangeSpec := { name := "fnExactAwayLife", fn := fun _ => fun
  | [d1, d2, d3] => { results := [.lit (.bool true)], args := [d1, d2, d3] }
  | _ => none }
def fnExactAwayLifeRow : OpenClaim := { program := "ytdliggkohdnipaagreat", sum := "7c500630fff872ea4a3710fb80e82f4ad118748172c4b21b793c8bb59e9e1c89", func := "loop.example/g00975/laws.FnExactAwayLife", spec := "fnExactAwayLife", unfollowed := true, recurses := true, apart := false }
def FnExactAwayLifeSaid : Prop := fnExactAwayLifeRow.holds Tryz.pinned (OpenSpec.ofChange fnExactAwayLifeSpec)

/-- ITS FALSE NEIGHBOUR: 'it returns false'. Refute it at one input. -/
def fnExactAwayLifeWrong : ChangeSpec := { name := "fnExactAwayLife", fn := fun _ => fun
  | [d1, d2, d3] => { results := [.lit (.bool false)], args := [d1, d2, d3] }
  | _ => none }
def FnExactAwayLifeWrongFalsely : Prop := fnExactAwayLifeRow.holds Tryz.pinned (OpenSpec.ofChange fnExactAwayLifeWrong)

/-- 'laws.FnExactMovedLife': WHATEVER THE INPUT: true; the input reads as it did. -/
def fnExactMovedLifeSpec : ChangeSpec := { name := "fnExactMovedLife", fn := fun _ => fun
  | [d1, d2, d3, d4] => { results := [.lit (.bool true)], args := [d1, d2, d3, d4] }
  | _ => none }
def fnExactMovedLifeRow : OpenClaim := { program := "ytdliggkohdnipaagreat", sum := "7c500630fff872ea4a3710fb80e82f4ad118748172c4b21b793c8bb59e9e1c89", func := "loop.example/g00975/laws.FnExactMovedLife", spec := "fnExactMovedLife", unfollowed := true, recurses := true, apart := false }
def FnExactMovedLifeSaid : Prop := fnExactMovedLifeRow.holds Tryz.pinned (OpenSpec.ofChange fnExactMovedLifeSpec)

/-- ITS FALSE NEIGHBOUR: 'it returns false'. Refute it at one input. -/
def fnExactMovedLifeWrong : ChangeSpec := { name := "fnExactMovedLife", fn := fun _ => fun
  | [d1, d2, d3, d4] => { results := [.lit (.bool false)], args := [d1, d2, d3, d4] }
  | _ => none }
def FnExactMovedLifeWrongFalsely : Prop := fnExactMovedLifeRow.holds Tryz.pinned (OpenSpec.ofChange fnExactMovedLifeWrong)

/- THE SECOND FORM. 'bulk': how many values and letters a reading holds, each counted each time it is reached (what is shared counts as often as it is met; a slice's spare places count too). A statement '..UptoSaid' is the law's where the arguments, and the package variables that the reading takes, are together of bulk at most 1048576: NARROWER than '..Said'. Prove '..Said' where nothing that the law and all that it calls make is longer than what came in: it says more and counts as full. Else prove '..UptoSaid'. A law counts once. -/
mutual
def uptoBulk {H : Type} : DataW H → Nat
  | .lit (.string bytes) => bytes.length + 1
  | .lit _ => 1
  | .nil => 1
  | .ptr d => uptoBulk d + 1
  | .slice elems spare => uptoBulkAll elems + uptoBulkAll spare + 1
  | .agg parts => uptoBulkAll parts + 1
  | .iface _ d => uptoBulk d + 1
  | .map entries => uptoBulkEntries entries + 1
  | .held _ => 1
def uptoBulkAll {H : Type} : List (DataW H) → Nat
  | [] => 0
  | d :: r => uptoBulk d + uptoBulkAll r
def uptoBulkEntries {H : Type} : List (Lit × DataW H) → Nat
  | [] => 0
  | x :: r => uptoBulkEntry x + uptoBulkEntries r
def uptoBulkEntry {H : Type} : Lit × DataW H → Nat
  | (.string bytes, d) => bytes.length + uptoBulk d + 1
  | (_, d) => uptoBulk d + 1
 end
def uptoSmall : (H : Type) → List (DataW H) → Bool := fun _ ds => decide (uptoBulkAll ds ≤ 1048576)
def OpenSpec.upto (s : _root_.Go.ChangeSpec) : _root_.Go.OpenSpec := { _root_.Go.OpenSpec.ofChange s with cond := some uptoSmall }

/-- 'laws.FnAwayAnywhere', WHERE WHAT IT READS IS OF BULK AT MOST 1048576: true; the input reads as it did. -/
def fnAwayAnywhereUptoRow : OpenClaim := { program := "ytdliggkohdnipaagreat", sum := "7c500630fff872ea4a3710fb80e82f4ad118748172c4b21b793c8bb59e9e1c89", func := "loop.example/g00975/laws.FnAwayAnywhere", spec := "fnAwayAnywhere", unfollowed := true, recurses := true, apart := false, narrowed := true }
def FnAwayAnywhereUptoSaid : Prop := fnAwayAnywhereUptoRow.holds Tryz.pinned (OpenSpec.upto fnAwayAnywhereSpec)

/-- 'laws.FnTwice', WHERE WHAT IT READS IS OF BULK AT MOST 1048576: true; the input reads as it did. -/
def fnTwiceUptoRow : OpenClaim := { program := "ytdliggkohdnipaagreat", sum := "7c500630fff872ea4a3710fb80e82f4ad118748172c4b21b793c8bb59e9e1c89", func := "loop.example/g00975/laws.FnTwice", spec := "fnTwice", apart := false, narrowed := true }
def FnTwiceUptoSaid : Prop := fnTwiceUptoRow.holds Tryz.pinned (OpenSpec.upto fnTwiceSpec)

/-- 'laws.FnShorter', WHERE WHAT IT READS IS OF BULK AT MOST 1048576: true; the input reads as it did. -/
def fnShorterUptoRow : OpenClaim := { program := "ytdliggkohdnipaagreat", sum := "7c500630fff872ea4a3710fb80e82f4ad118748172c4b21b793c8bb59e9e1c89", func := "loop.example/g00975/laws.FnShorter", spec := "fnShorter", unfollowed := true, recurses := true, apart := false, narrowed := true }
def FnShorterUptoSaid : Prop := fnShorterUptoRow.holds Tryz.pinned (OpenSpec.upto fnShorterSpec)

/-- 'laws.FnNoCopies', WHERE WHAT IT READS IS OF BULK AT MOST 1048576: true; the input reads as it did. -/
def fnNoCopiesUptoRow : OpenClaim := { program := "ytdliggkohdnipaagreat", sum := "7c500630fff872ea4a3710fb80e82f4ad118748172c4b21b793c8bb59e9e1c89", func := "loop.example/g00975/laws.FnNoCopies", spec := "fnNoCopies", unfollowed := true, recurses := true, apart := false, narrowed := true }
def FnNoCopiesUptoSaid : Prop := fnNoCopiesUptoRow.holds Tryz.pinned (OpenSpec.upto fnNoCopiesSpec)

/-- 'laws.FnMovedTwice', WHERE WHAT IT READS IS OF BULK AT MOST 1048576: true; the input reads as it did. -/
def fnMovedTwiceUptoRow : OpenClaim := { program := "ytdliggkohdnipaagreat", sum := "7c500630fff872ea4a3710fb80e82f4ad118748172c4b21b793c8bb59e9e1c89", func := "loop.example/g00975/laws.FnMovedTwice", spec := "fnMovedTwice", unfollowed := true, recurses := true, apart := false, narrowed := true }
def FnMovedTwiceUptoSaid : Prop := fnMovedTwiceUptoRow.holds Tryz.pinned (OpenSpec.upto fnMovedTwiceSpec)

/-- 'laws.FnWhichever', WHERE WHAT IT READS IS OF BULK AT MOST 1048576: true; the input reads as it did. -/
def fnWhicheverUptoRow : OpenClaim := { program := "ytdliggkohdnipaagreat", sum := "7c500630fff872ea4a3710fb80e82f4ad118748172c4b21b793c8bb59e9e1c89", func := "loop.example/g00975/laws.FnWhichever", spec := "fnWhichever", unfollowed := true, recurses := true, apart := false, narrowed := true }
def FnWhicheverUptoSaid : Prop := fnWhicheverUptoRow.holds Tryz.pinned (OpenSpec.upto fnWhicheverSpec)

/-- 'laws.FnExactRewritten', WHERE WHAT IT READS IS OF BULK AT MOST 1048576: true; the input reads as it did. -/
def fnExactRewrittenUptoRow : OpenClaim := { program := "ytdliggkohdnipaagreat", sum := "7c500630fff872ea4a3710fb80e82f4ad118748172c4b21b793c8bb59e9e1c89", func := "loop.example/g00975/laws.FnExactRewritten", spec := "fnExactRewritten", unfollowed := true, recurses := true, apart := false, narrowed := true }
def FnExactRewrittenUptoSaid : Prop := fnExactRewrittenUptoRow.holds Tryz.pinned (OpenSpec.upto fnExactRewrittenSpec)

/-- 'laws.FnExactAwayLife', WHERE WHAT IT READS IS OF BULK AT MOST 1048576: true; the input reads as it did. -/
def fnExactAwayLifeUptoRow : OpenClaim := { program := "ytdliggkohdnipaagreat", sum := "7c500630fff872ea4a3710fb80e82f4ad118748172c4b21b793c8bb59e9e1c89", func := "loop.example/g00975/laws.FnExactAwayLife", spec := "fnExactAwayLife", unfollowed := true, recurses := true, apart := false, narrowed := true }
def FnExactAwayLifeUptoSaid : Prop := fnExactAwayLifeUptoRow.holds Tryz.pinned (OpenSpec.upto fnExactAwayLifeSpec)

/-- 'laws.FnExactMovedLife', WHERE WHAT IT READS IS OF BULK AT MOST 1048576: true; the input reads as it did. -/
def fnExactMovedLifeUptoRow : OpenClaim := { program := "ytdliggkohdnipaagreat", sum := "7c500630fff872ea4a3710fb80e82f4ad118748172c4b21b793c8bb59e9e1c89", func := "loop.example/g00975/laws.FnExactMovedLife", spec := "fnExactMovedLife", unfollowed := true, recurses := true, apart := false, narrowed := true }
def FnExactMovedLifeUptoSaid : Prop := fnExactMovedLifeUptoRow.holds Tryz.pinned (OpenSpec.upto fnExactMovedLifeSpec)

end Rows
end Go.Proofs.YtdliggkohdnipaaGreat
