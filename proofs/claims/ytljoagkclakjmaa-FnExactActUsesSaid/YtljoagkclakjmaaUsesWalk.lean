/- FnExactActUses, the walk: for every int, no condition. -/
import Derived.Test.YtljoagkclakjmaaBase
namespace Go.Proofs.Ytljoagkclakjmaa.ActUses
open Go.ChangeShapes Go.WideShapes Go.ChangeAt Go.RowKit Go.Proofs.Ytljoagkclakjmaa.Base

set_option maxHeartbeats 1000000 in
theorem law_no (n : Int) (h : ¬ (1 ≤ n ∧ n ≤ 16)) (w : World) : Calls Try.prog 4 #[.int .i64 n] w (Done w) := by
  have h1 : (n == 1) = false := beq_eq_false_iff_ne.2 (by omega)
  have h2 : (n == 2) = false := beq_eq_false_iff_ne.2 (by omega)
  have h3 : (n == 3) = false := beq_eq_false_iff_ne.2 (by omega)
  have h4 : (n == 4) = false := beq_eq_false_iff_ne.2 (by omega)
  have h5 : (n == 5) = false := beq_eq_false_iff_ne.2 (by omega)
  have h6 : (n == 6) = false := beq_eq_false_iff_ne.2 (by omega)
  have h7 : (n == 7) = false := beq_eq_false_iff_ne.2 (by omega)
  have h8 : (n == 8) = false := beq_eq_false_iff_ne.2 (by omega)
  have h9 : (n == 9) = false := beq_eq_false_iff_ne.2 (by omega)
  have h10 : (n == 10) = false := beq_eq_false_iff_ne.2 (by omega)
  have h11 : (n == 11) = false := beq_eq_false_iff_ne.2 (by omega)
  have h12 : (n == 12) = false := beq_eq_false_iff_ne.2 (by omega)
  have h13 : (n == 13) = false := beq_eq_false_iff_ne.2 (by omega)
  have h14 : (n == 14) = false := beq_eq_false_iff_ne.2 (by omega)
  have h15 : (n == 15) = false := beq_eq_false_iff_ne.2 (by omega)
  have h16 : (n == 16) = false := beq_eq_false_iff_ne.2 (by omega)
  clear h
  go_enter Try.func4, Try.ntmps4
  go_wp2
  go_ret
  exact ⟨rfl, Below.refl _ _⟩

set_option maxHeartbeats 400000 in
theorem law_1 (w : World) : Calls Try.prog 4 #[.int .i64 1] w (Done w) := by
  go_enter Try.func4, Try.ntmps4
  go_wp2
  go_ret
  exact ⟨rfl, Below.refl _ _⟩

set_option maxHeartbeats 400000 in
theorem law_2 (w : World) : Calls Try.prog 4 #[.int .i64 2] w (Done w) := by
  go_enter Try.func4, Try.ntmps4
  go_wp2
  go_ret
  exact ⟨rfl, Below.refl _ _⟩

set_option maxHeartbeats 400000 in
theorem law_3 (w : World) : Calls Try.prog 4 #[.int .i64 3] w (Done w) := by
  go_enter Try.func4, Try.ntmps4
  go_wp2
  go_ret
  exact ⟨rfl, Below.refl _ _⟩

set_option maxHeartbeats 400000 in
theorem law_4 (w : World) : Calls Try.prog 4 #[.int .i64 4] w (Done w) := by
  go_enter Try.func4, Try.ntmps4
  go_wp2
  go_ret
  exact ⟨rfl, Below.refl _ _⟩

set_option maxHeartbeats 400000 in
theorem law_5 (w : World) : Calls Try.prog 4 #[.int .i64 5] w (Done w) := by
  go_enter Try.func4, Try.ntmps4
  go_wp2
  go_ret
  exact ⟨rfl, Below.refl _ _⟩

set_option maxHeartbeats 400000 in
theorem law_6 (w : World) : Calls Try.prog 4 #[.int .i64 6] w (Done w) := by
  go_enter Try.func4, Try.ntmps4
  go_wp2
  go_ret
  exact ⟨rfl, Below.refl _ _⟩

set_option maxHeartbeats 400000 in
theorem law_7 (w : World) : Calls Try.prog 4 #[.int .i64 7] w (Done w) := by
  go_enter Try.func4, Try.ntmps4
  go_wp2
  go_ret
  exact ⟨rfl, Below.refl _ _⟩

set_option maxHeartbeats 400000 in
theorem law_8 (w : World) : Calls Try.prog 4 #[.int .i64 8] w (Done w) := by
  go_enter Try.func4, Try.ntmps4
  go_wp2
  go_ret
  exact ⟨rfl, Below.refl _ _⟩

set_option maxHeartbeats 400000 in
theorem law_9 (w : World) : Calls Try.prog 4 #[.int .i64 9] w (Done w) := by
  go_enter Try.func4, Try.ntmps4
  go_wp2
  go_ret
  exact ⟨rfl, Below.refl _ _⟩

set_option maxHeartbeats 400000 in
theorem law_10 (w : World) : Calls Try.prog 4 #[.int .i64 10] w (Done w) := by
  go_enter Try.func4, Try.ntmps4
  go_wp2
  go_ret
  exact ⟨rfl, Below.refl _ _⟩

set_option maxHeartbeats 400000 in
theorem law_11 (w : World) : Calls Try.prog 4 #[.int .i64 11] w (Done w) := by
  go_enter Try.func4, Try.ntmps4
  go_wp2
  go_ret
  exact ⟨rfl, Below.refl _ _⟩

set_option maxHeartbeats 400000 in
theorem law_12 (w : World) : Calls Try.prog 4 #[.int .i64 12] w (Done w) := by
  go_enter Try.func4, Try.ntmps4
  go_wp2
  go_ret
  exact ⟨rfl, Below.refl _ _⟩

set_option maxHeartbeats 400000 in
theorem law_13 (w : World) : Calls Try.prog 4 #[.int .i64 13] w (Done w) := by
  go_enter Try.func4, Try.ntmps4
  go_wp2
  go_ret
  exact ⟨rfl, Below.refl _ _⟩

set_option maxHeartbeats 400000 in
theorem law_14 (w : World) : Calls Try.prog 4 #[.int .i64 14] w (Done w) := by
  go_enter Try.func4, Try.ntmps4
  go_wp2
  go_ret
  exact ⟨rfl, Below.refl _ _⟩

set_option maxHeartbeats 400000 in
theorem law_15 (w : World) : Calls Try.prog 4 #[.int .i64 15] w (Done w) := by
  go_enter Try.func4, Try.ntmps4
  go_wp2
  go_ret
  exact ⟨rfl, Below.refl _ _⟩

set_option maxHeartbeats 400000 in
theorem law_16 (w : World) : Calls Try.prog 4 #[.int .i64 16] w (Done w) := by
  go_enter Try.func4, Try.ntmps4
  go_wp2
  go_ret
  exact ⟨rfl, Below.refl _ _⟩

theorem walk (n : Int) (w : World) : Calls Try.prog 4 #[.int .i64 n] w (Done w) := by
  by_cases h : 1 ≤ n ∧ n ≤ 16
  · have h' : n = 1 ∨ n = 2 ∨ n = 3 ∨ n = 4 ∨ n = 5 ∨ n = 6 ∨ n = 7 ∨ n = 8 ∨ n = 9 ∨ n = 10 ∨ n = 11 ∨ n = 12 ∨ n = 13 ∨ n = 14 ∨ n = 15 ∨ n = 16 := by omega
    rcases h' with rfl | rfl | rfl | rfl | rfl | rfl | rfl | rfl | rfl | rfl | rfl | rfl | rfl | rfl | rfl | rfl
    · exact law_1 w
    · exact law_2 w
    · exact law_3 w
    · exact law_4 w
    · exact law_5 w
    · exact law_6 w
    · exact law_7 w
    · exact law_8 w
    · exact law_9 w
    · exact law_10 w
    · exact law_11 w
    · exact law_12 w
    · exact law_13 w
    · exact law_14 w
    · exact law_15 w
    · exact law_16 w
  · exact law_no n h w
end Go.Proofs.Ytljoagkclakjmaa.ActUses
