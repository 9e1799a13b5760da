/- Interrupts, both sides. PRINTED by gen3.py. No condition. -/
import Derived.Test.YteelmdpahpggkaaGreatNdp
namespace Go.Proofs.YteelmdpahpggkaaGreat.T
open Go
set_option linter.unusedVariables false
set_option linter.unusedSimpArgs false
set_option maxRecDepth 100000
set_option maxHeartbeats 1000000

theorem pow8 {n : Nat} (h : n ≤ 7) : IntKind.i64.wrap (1 * 2 ^ n) = 2 ^ n := by
  have : ∀ m : Fin 8, IntKind.i64.wrap (1 * 2 ^ m.1) = 2 ^ m.1 := by decide +kernel
  exact this ⟨n, by omega⟩
theorem shl {y : Int} {k : Int → Prop} (c : k (2 ^ y.toNat)) (h : 0 ≤ y ∧ y ≤ 7 := by omega) : ShlW .i64 1 y k := ⟨y.toNat, _, by omega, by show _ ≤ 64; omega, pow8 (by omega), c⟩
theorem shr {x y : Int} {k : Int → Prop} (c : k (x.fdiv (2 ^ y.toNat))) (h : 0 ≤ y ∧ y ≤ 7 := by omega) : ShrW .i64 x y k := ⟨y.toNat, _, by omega, by show _ ≤ 64; omega, rfl, c⟩
end Go.Proofs.YteelmdpahpggkaaGreat.T

