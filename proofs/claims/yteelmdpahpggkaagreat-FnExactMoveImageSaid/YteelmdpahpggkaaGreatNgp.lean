/- Guests that run, both sides. PRINTED by gen3.py. No condition. -/
import Derived.Test.YteelmdpahpggkaaGreatNfp
namespace Go.Proofs.YteelmdpahpggkaaGreat.T
open Go
set_option linter.unusedVariables false
set_option linter.unusedSimpArgs false
set_option maxRecDepth 100000
set_option maxHeartbeats 1000000

instance (g : VGuest) (n : Int) [h : Q (SmGuest g)] : Q (SmGuest (saw g n)) := ⟨by
  unfold saw
  split
  · refine ⟨h.h.1, h.h.2.1, h.h.2.2.1, ?_⟩
    show (g.Seen ++ [n]).length ≤ _
    rw [List.length_append, List.length_singleton]
    omega
  · exact h.h⟩
instance (g : VGuest) (e : VExit) [h : Q (SmGuest g)] : Q (SmGuest (stopped g e)) := ⟨h.h⟩
instance (g : VGuest) [h : Q (SmGuest g)] : Q (SmGuest (moved g)) := ⟨h.h⟩
instance (g : VGuest) [h : Q (SmGuest g)] : Q (SmGuest (held g)) := ⟨h.h⟩
instance (g : VGuest) (v : Int) [h : Q (SmGuest g)] : Q (SmGuest (loaded g v)) := ⟨(inferInstance : Q (SmGuest (moved (saw { g with A := v } v)))).h⟩
instance (g : VGuest) [h : Q (SmGuest g)] : Q (SmGuest (interrupted g)) := ⟨by
  unfold interrupted
  split
  · exact (inferInstance : Q (SmGuest (saw { g with Pending := g.Pending - 2 ^ (topIrq g.Pending).toNat } (100 + topIrq g.Pending)))).h
  · exact h.h⟩
instance (g : VGuest) [h : Q (SmGuest g)] : Q (SmGuest (plainly g)) := ⟨by
  unfold plainly
  simp only
  split
  · exact h.h
  · split
    · split
      · exact h.h
      · split
        · exact h.h
        · split <;> exact h.h
    · exact h.h⟩
theorem saw_pc (g : VGuest) (n : Int) : (saw g n).Pc = g.Pc := by unfold saw; split <;> rfl
instance (g : VGuest) (n a : Int) [h : Q (a ≤ g.Pc)] : Q (a ≤ (saw g n).Pc) := ⟨by rw [saw_pc]; exact h.h⟩
end Go.Proofs.YteelmdpahpggkaaGreat.T

