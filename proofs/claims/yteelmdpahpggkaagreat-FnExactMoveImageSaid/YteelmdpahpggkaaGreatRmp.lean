/- The reckoned walk, part m: functions that are given lists for good: their contracts and their calls. No condition. -/
import Derived.Test.YteelmdpahpggkaaGreatRlp
import Derived.Test.YteelmdpahpggkaaGreatTznp
namespace Go.Proofs.YteelmdpahpggkaaGreat.T
open Go
set_option linter.unusedVariables false
set_option linter.unusedSimpArgs false

/-- THE CONTRACT of a function that is given lists for good: what it returns may hold them. -/
def Fun3 (P : Program) (f : FuncId) (row : List D) (pts : List TS) (R : Res → Prop) : Prop := Fun2 P f ⟨false, row⟩ pts fun row' r => row' = row.map (fun _ => .hole) ∧ R r
theorem Fun3.w {P : Program} {f : FuncId} {fn : Func} {c : Code} {row : List D} {pts : List TS} {R : Res → Prop} (n : Nat) (hf : P.funcs[f]? = some fn)
    (hh : ∀ w g0, mostS pts → argsW 0 pts fun e => ownsW row fun cs => wC P w g0 n c e [(1000000, ⟨false, cs⟩)] (endW P n fn.results.toList R))
    (hb : fn.body = some c := by exact rfl) (hn : fn.ntmps = n := by exact rfl) (hl0 : Nat.ble pts.length n = true := by exact rfl) : Fun3 P f row pts R := by
  have hl := Nat.le_of_ble_eq_true hl0
  subst hn
  refine Fun2.ofGive rfl hf hb hl fun w g0 => TC.mostS fun hM => ?_
  obtain ⟨e, h1, h2⟩ := argsW_of (m := 0) (hh w g0 hM)
  rw [args_st hl h1]
  exact (wC_of (ownsW_of h2)).mono fun ex st hl => endW_of hl
section
variable {P : Program} {w0 : World} {g0 : Gh} {n : Nat} {e : List En} {rs : Rs} {K : Kn} {f : FuncId} {ts pts : List TS} {caps : List TV} {d : Nat}
end
end Go.Proofs.YteelmdpahpggkaaGreat.T

