/- The shelf's layings at this seat: printed by say.py in plain words. No condition. -/
import Derived.Test.YteelmdpahpggkaaGreatRows
import Derived.Shelf.Lays
namespace Go.Proofs.YteelmdpahpggkaaGreat
open Go.Shelf
set_option maxRecDepth 100000

def laysMul_ren : Go.Shelf.Ren := ⟨fun | 212 => 304 | 263 => 399 | 264 => 400 | n => n, fun | 46 => 291 | 51 => 337 | 146 => 338 | 53 => 340 | 148 => 341 | n => n, fun | n => n⟩
theorem laysMul : Go.Proofs.Lays.n212 Tryz.prog laysMul_ren := {
  mixed := by kernel_rfl
  f212 := Tryz.func304.trans (congrArg some (by kernel_rfl))
  f263 := Tryz.func399.trans (congrArg some (by kernel_rfl))
  f264 := Tryz.func400.trans (congrArg some (by kernel_rfl))
  t46 := Tryz.underlying291
  a46 := Tryz.isAgg291
  z46 := Tryz.sizeOf291
  v46 := Tryz.zeroValue291
  t51 := Tryz.underlying337
  a51 := Tryz.isAgg337
  z51 := Tryz.sizeOf337
  v51 := Tryz.zeroValue337
  t53 := Tryz.underlying340
  a53 := Tryz.isAgg340
  z53 := Tryz.sizeOf340
  v53 := Tryz.zeroValue340
  t146 := Tryz.underlying338
  a146 := Tryz.isAgg338
  z146 := Tryz.sizeOf338
  v146 := Tryz.zeroValue338
  t148 := Tryz.underlying341
  a148 := Tryz.isAgg341
  z148 := Tryz.sizeOf341
  v148 := Tryz.zeroValue341 }
end Go.Proofs.YteelmdpahpggkaaGreat

