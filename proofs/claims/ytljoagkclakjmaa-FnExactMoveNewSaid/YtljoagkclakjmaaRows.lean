/-
  No cell of these rows narrows 'for every input' (looked for: loops, veiled, ifaces, maps, wideKeys, modest, calm, conditions, laid).
  DERIVED. THE GIVEN ROWS OF THIS SEAT. 6 by the template 'for every input the law returns true; each argument reads behind the call as it read before'; 0 by the template 'total and deterministic' (their statements: YtljoagkclakjmaaTotals.lean).
  GIVEN WITH THE SEED: the statements are not yours to turn. If you find one false, say at which input.
  Laid BY PROGRAM, IN A SANDBOX (cutbox-rows.mjs): the forced cells as the released guide's own fill.sh prints them over the translation e7f44d3400799025… (all of the seat's roots in one cut). By AI agents, Wed Nov 11 2026. No macro, syntax, notation, axiom, sorry.
-/
import Derived.Test.YtljoagkclakjmaaChecked
import GoSem.Claim
import GoSem.ClaimJoined
import GoSem.ClaimMapViews
import Derived.JoinedTies
import Derived.KernelRfl
namespace Go.Proofs.Ytljoagkclakjmaa
/- THE CELL 'sum', in the pinned program and in every row, IS THE sha256 OF THE DUMP (.gsa) THAT YtljoagkclakjmaaProg.lean LOADS. Nothing in Lean hashes anything: it is a label: what it is worth is what the hold of that sum in a sandbox is worth. -/
noncomputable def Try.pinned : Pinned := { name := "ytljoagkclakjmaa", sum := "e7f44d3400799025b703aa383b2fda5b564be49c95af28977608229f92ec4472", checked := Try.checked }
namespace Rows
def none {H : Type} : Left H := { results := [], args := [] }

/-- 'laws.FnExactActName': WHATEVER THE INPUT: true; the input reads as it did. -/
def fnExactActNameSpec : ChangeSpec := { name := "fnExactActName", fn := fun _ => fun
  | [d] => { results := [.lit (.bool true)], args := [d] }
  | _ => none }
def fnExactActNameRow : OpenClaim := { program := "ytljoagkclakjmaa", sum := "e7f44d3400799025b703aa383b2fda5b564be49c95af28977608229f92ec4472", func := "loop.example/g00975/laws.FnExactActName", spec := "fnExactActName", apart := false }
def FnExactActNameSaid : Prop := fnExactActNameRow.holds Try.pinned (OpenSpec.ofChange fnExactActNameSpec)

/-- ITS FALSE NEIGHBOUR: 'it returns false'. Refute it at one input. -/
def fnExactActNameWrong : ChangeSpec := { name := "fnExactActName", fn := fun _ => fun
  | [d] => { results := [.lit (.bool false)], args := [d] }
  | _ => none }
def FnExactActNameWrongFalsely : Prop := fnExactActNameRow.holds Try.pinned (OpenSpec.ofChange fnExactActNameWrong)

/-- 'laws.FnExactActUses': WHATEVER THE INPUT: true; the input reads as it did. -/
def fnExactActUsesSpec : ChangeSpec := { name := "fnExactActUses", fn := fun _ => fun
  | [d] => { results := [.lit (.bool true)], args := [d] }
  | _ => none }
def fnExactActUsesRow : OpenClaim := { program := "ytljoagkclakjmaa", sum := "e7f44d3400799025b703aa383b2fda5b564be49c95af28977608229f92ec4472", func := "loop.example/g00975/laws.FnExactActUses", spec := "fnExactActUses", apart := false }
def FnExactActUsesSaid : Prop := fnExactActUsesRow.holds Try.pinned (OpenSpec.ofChange fnExactActUsesSpec)

/-- ITS FALSE NEIGHBOUR: 'it returns false'. Refute it at one input. -/
def fnExactActUsesWrong : ChangeSpec := { name := "fnExactActUses", fn := fun _ => fun
  | [d] => { results := [.lit (.bool false)], args := [d] }
  | _ => none }
def FnExactActUsesWrongFalsely : Prop := fnExactActUsesRow.holds Try.pinned (OpenSpec.ofChange fnExactActUsesWrong)

/-- 'laws.FnExactToldText': WHATEVER THE INPUT: true; the input reads as it did. -/
def fnExactToldTextSpec : ChangeSpec := { name := "fnExactToldText", fn := fun _ => fun
  | [d] => { results := [.lit (.bool true)], args := [d] }
  | _ => none }
def fnExactToldTextRow : OpenClaim := { program := "ytljoagkclakjmaa", sum := "e7f44d3400799025b703aa383b2fda5b564be49c95af28977608229f92ec4472", func := "loop.example/g00975/laws.FnExactToldText", spec := "fnExactToldText", apart := false }
def FnExactToldTextSaid : Prop := fnExactToldTextRow.holds Try.pinned (OpenSpec.ofChange fnExactToldTextSpec)

/-- ITS FALSE NEIGHBOUR: 'it returns false'. Refute it at one input. -/
def fnExactToldTextWrong : ChangeSpec := { name := "fnExactToldText", fn := fun _ => fun
  | [d] => { results := [.lit (.bool false)], args := [d] }
  | _ => none }
def FnExactToldTextWrongFalsely : Prop := fnExactToldTextRow.holds Try.pinned (OpenSpec.ofChange fnExactToldTextWrong)

/-- 'laws.FnExactMoveNew': WHATEVER THE INPUT: true; the input reads as it did. -/
def fnExactMoveNewSpec : ChangeSpec := { name := "fnExactMoveNew", fn := fun _ => fun
  | [d] => { results := [.lit (.bool true)], args := [d] }
  | _ => none }
def fnExactMoveNewRow : OpenClaim := { program := "ytljoagkclakjmaa", sum := "e7f44d3400799025b703aa383b2fda5b564be49c95af28977608229f92ec4472", func := "loop.example/g00975/laws.FnExactMoveNew", spec := "fnExactMoveNew", apart := false }
def FnExactMoveNewSaid : Prop := fnExactMoveNewRow.holds Try.pinned (OpenSpec.ofChange fnExactMoveNewSpec)

/-- ITS FALSE NEIGHBOUR: 'it returns false'. Refute it at one input. -/
def fnExactMoveNewWrong : ChangeSpec := { name := "fnExactMoveNew", fn := fun _ => fun
  | [d] => { results := [.lit (.bool false)], args := [d] }
  | _ => none }
def FnExactMoveNewWrongFalsely : Prop := fnExactMoveNewRow.holds Try.pinned (OpenSpec.ofChange fnExactMoveNewWrong)

/-- 'laws.FnExactOfZero': WHATEVER THE INPUT: true; the input reads as it did. -/
def fnExactOfZeroSpec : ChangeSpec := { name := "fnExactOfZero", fn := fun _ => fun
  | [d] => { results := [.lit (.bool true)], args := [d] }
  | _ => none }
def fnExactOfZeroRow : OpenClaim := { program := "ytljoagkclakjmaa", sum := "e7f44d3400799025b703aa383b2fda5b564be49c95af28977608229f92ec4472", func := "loop.example/g00975/laws.FnExactOfZero", spec := "fnExactOfZero", apart := false }
def FnExactOfZeroSaid : Prop := fnExactOfZeroRow.holds Try.pinned (OpenSpec.ofChange fnExactOfZeroSpec)

/-- ITS FALSE NEIGHBOUR: 'it returns false'. Refute it at one input. -/
def fnExactOfZeroWrong : ChangeSpec := { name := "fnExactOfZero", fn := fun _ => fun
  | [d] => { results := [.lit (.bool false)], args := [d] }
  | _ => none }
def FnExactOfZeroWrongFalsely : Prop := fnExactOfZeroRow.holds Try.pinned (OpenSpec.ofChange fnExactOfZeroWrong)

/-- 'laws.FnExactSameScript': WHATEVER THE INPUT: true; the input reads as it did. -/
def fnExactSameScriptSpec : ChangeSpec := { name := "fnExactSameScript", fn := fun _ => fun
  | [d1, d2] => { results := [.lit (.bool true)], args := [d1, d2] }
  | _ => none }
def fnExactSameScriptRow : OpenClaim := { program := "ytljoagkclakjmaa", sum := "e7f44d3400799025b703aa383b2fda5b564be49c95af28977608229f92ec4472", func := "loop.example/g00975/laws.FnExactSameScript", spec := "fnExactSameScript", unfollowed := true, recurses := true, apart := false }
def FnExactSameScriptSaid : Prop := fnExactSameScriptRow.holds Try.pinned (OpenSpec.ofChange fnExactSameScriptSpec)

/-- ITS FALSE NEIGHBOUR: 'it returns false'. Refute it at one input. -/
def fnExactSameScriptWrong : ChangeSpec := { name := "fnExactSameScript", fn := fun _ => fun
  | [d1, d2] => { results := [.lit (.bool false)], args := [d1, d2] }
  | _ => none }
def FnExactSameScriptWrongFalsely : Prop := fnExactSameScriptRow.holds Try.pinned (OpenSpec.ofChange fnExactSameScriptWrong)

/- THE SECOND FORM. 'bulk': how many values and letters a reading holds, each counted each time it is reached (what is shared counts as often as it is met; a slice's spare places count too). A statement '..UptoSaid' is the law's where the arguments, and the package variables that the reading takes, are together of bulk at most 1048576: NARROWER than '..Said'. Prove '..Said' where nothing that the law and all that it calls make is longer than what came in: it says more and counts as full. Else prove '..UptoSaid'. A law counts once. -/
mutual
def uptoBulk {H : Type} : DataW H → Nat
  | .lit (.string bytes) => bytes.length + 1
  | .lit _ => 1
  | .nil => 1
  | .ptr d => uptoBulk d + 1
  | .slice elems spare => uptoBulkAll elems + uptoBulkAll spare + 1
  | .agg parts => uptoBulkAll parts + 1
  | .iface _ d => uptoBulk d + 1
  | .map entries => uptoBulkEntries entries + 1
  | .held _ => 1
def uptoBulkAll {H : Type} : List (DataW H) → Nat
  | [] => 0
  | d :: r => uptoBulk d + uptoBulkAll r
def uptoBulkEntries {H : Type} : List (Lit × DataW H) → Nat
  | [] => 0
  | x :: r => uptoBulkEntry x + uptoBulkEntries r
def uptoBulkEntry {H : Type} : Lit × DataW H → Nat
  | (.string bytes, d) => bytes.length + uptoBulk d + 1
  | (_, d) => uptoBulk d + 1
 end
def uptoSmall : (H : Type) → List (DataW H) → Bool := fun _ ds => decide (uptoBulkAll ds ≤ 1048576)
def OpenSpec.upto (s : _root_.Go.ChangeSpec) : _root_.Go.OpenSpec := { _root_.Go.OpenSpec.ofChange s with cond := some uptoSmall }

/-- 'laws.FnExactActName', WHERE WHAT IT READS IS OF BULK AT MOST 1048576: true; the input reads as it did. -/
def fnExactActNameUptoRow : OpenClaim := { program := "ytljoagkclakjmaa", sum := "e7f44d3400799025b703aa383b2fda5b564be49c95af28977608229f92ec4472", func := "loop.example/g00975/laws.FnExactActName", spec := "fnExactActName", apart := false, narrowed := true }
def FnExactActNameUptoSaid : Prop := fnExactActNameUptoRow.holds Try.pinned (OpenSpec.upto fnExactActNameSpec)

/-- 'laws.FnExactActUses', WHERE WHAT IT READS IS OF BULK AT MOST 1048576: true; the input reads as it did. -/
def fnExactActUsesUptoRow : OpenClaim := { program := "ytljoagkclakjmaa", sum := "e7f44d3400799025b703aa383b2fda5b564be49c95af28977608229f92ec4472", func := "loop.example/g00975/laws.FnExactActUses", spec := "fnExactActUses", apart := false, narrowed := true }
def FnExactActUsesUptoSaid : Prop := fnExactActUsesUptoRow.holds Try.pinned (OpenSpec.upto fnExactActUsesSpec)

/-- 'laws.FnExactToldText', WHERE WHAT IT READS IS OF BULK AT MOST 1048576: true; the input reads as it did. -/
def fnExactToldTextUptoRow : OpenClaim := { program := "ytljoagkclakjmaa", sum := "e7f44d3400799025b703aa383b2fda5b564be49c95af28977608229f92ec4472", func := "loop.example/g00975/laws.FnExactToldText", spec := "fnExactToldText", apart := false, narrowed := true }
def FnExactToldTextUptoSaid : Prop := fnExactToldTextUptoRow.holds Try.pinned (OpenSpec.upto fnExactToldTextSpec)

/-- 'laws.FnExactMoveNew', WHERE WHAT IT READS IS OF BULK AT MOST 1048576: true; the input reads as it did. -/
def fnExactMoveNewUptoRow : OpenClaim := { program := "ytljoagkclakjmaa", sum := "e7f44d3400799025b703aa383b2fda5b564be49c95af28977608229f92ec4472", func := "loop.example/g00975/laws.FnExactMoveNew", spec := "fnExactMoveNew", apart := false, narrowed := true }
def FnExactMoveNewUptoSaid : Prop := fnExactMoveNewUptoRow.holds Try.pinned (OpenSpec.upto fnExactMoveNewSpec)

/-- 'laws.FnExactOfZero', WHERE WHAT IT READS IS OF BULK AT MOST 1048576: true; the input reads as it did. -/
def fnExactOfZeroUptoRow : OpenClaim := { program := "ytljoagkclakjmaa", sum := "e7f44d3400799025b703aa383b2fda5b564be49c95af28977608229f92ec4472", func := "loop.example/g00975/laws.FnExactOfZero", spec := "fnExactOfZero", apart := false, narrowed := true }
def FnExactOfZeroUptoSaid : Prop := fnExactOfZeroUptoRow.holds Try.pinned (OpenSpec.upto fnExactOfZeroSpec)

/-- 'laws.FnExactSameScript', WHERE WHAT IT READS IS OF BULK AT MOST 1048576: true; the input reads as it did. -/
def fnExactSameScriptUptoRow : OpenClaim := { program := "ytljoagkclakjmaa", sum := "e7f44d3400799025b703aa383b2fda5b564be49c95af28977608229f92ec4472", func := "loop.example/g00975/laws.FnExactSameScript", spec := "fnExactSameScript", unfollowed := true, recurses := true, apart := false, narrowed := true }
def FnExactSameScriptUptoSaid : Prop := fnExactSameScriptUptoRow.holds Try.pinned (OpenSpec.upto fnExactSameScriptSpec)

end Rows
end Go.Proofs.Ytljoagkclakjmaa
