/- The lifted walk, part zo: functions with what they captured: made and called. No condition. -/
import Derived.Test.YteelmdpahpggkaaGreatTznp
namespace Go.Proofs.YteelmdpahpggkaaGreat.T
open Go
set_option linter.unusedVariables false
set_option linter.unusedSimpArgs false

section
variable {P : Program} {w0 : World} {g0 : Gh} {st : St}
section
variable {a : Act} {w : World} {g : Gh}
end
theorem Val.makeFunc {o : Oper} {f : FuncId} {cs : List Operand} {ts : List TS} {tvs : List TV} (ho : o.op = .makeFunc (.func f) #[] cs.toArray) (hx : opds st cs = some ts) (ht : ts = tvs.map TS.one) : Val P w0 g0 o st (.fn f tvs) := fun a w g hR => by
  have h1 := hR.opds hx
  subst ht
  refine ⟨.func (.func f) #[] (cs.map a.eval).toArray, fun w' _ => ?_, .fn f tvs _ (by simpa using h1.1.symm) fun j t u hj hu => ?_⟩
  · simp [execOp, ho, Instr.makeFunc]
  · have h2 := h1.2 j (.one t) u (by simp [hj]) (by simpa using hu)
    cases h2 with
    | one _ _ h => exact h
end
end Go.Proofs.YteelmdpahpggkaaGreat.T

