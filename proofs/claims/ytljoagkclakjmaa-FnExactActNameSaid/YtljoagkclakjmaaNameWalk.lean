/- FnExactActName, the walk: for every int, no condition. -/
import Derived.Test.YtljoagkclakjmaaBase
namespace Go.Proofs.Ytljoagkclakjmaa.ActName
open Go.ChangeShapes Go.WideShapes Go.ChangeAt Go.RowKit Go.Proofs.Ytljoagkclakjmaa.Base

set_option maxHeartbeats 400000 in
theorem within_no36 (n a b : Int) (h : ¬ (a ≤ n ∧ n ≤ b)) (w : World) :
    Calls Try.prog 36 #[.int .i64 n, .int .i64 a, .int .i64 b] w fun e w' => e = .returned (.bool false) ∧ w = w' := by
  by_cases h1 : a ≤ n
  · have h2 : ¬ n ≤ b := fun h2 => h ⟨h1, h2⟩
    clear h
    go_enter Try.func36, Try.ntmps36
    go_wp2
    go_ret
    exact ⟨rfl, rfl⟩
  · clear h
    go_enter Try.func36, Try.ntmps36
    go_wp2
    go_ret
    exact ⟨rfl, rfl⟩

set_option maxHeartbeats 400000 in
theorem within_no35 (n a b : Int) (h : ¬ (a ≤ n ∧ n ≤ b)) (w : World) :
    Calls Try.prog 35 #[.int .i64 n, .int .i64 a, .int .i64 b] w fun e w' => e = .returned (.bool false) ∧ w = w' := by
  by_cases h1 : a ≤ n
  · have h2 : ¬ n ≤ b := fun h2 => h ⟨h1, h2⟩
    clear h
    go_enter Try.func35, Try.ntmps35
    go_wp2
    go_ret
    exact ⟨rfl, rfl⟩
  · clear h
    go_enter Try.func35, Try.ntmps35
    go_wp2
    go_ret
    exact ⟨rfl, rfl⟩

set_option maxHeartbeats 400000 in
theorem no9 (n : Int) (h : ¬ (1 ≤ n ∧ n ≤ 17)) (w : World) : Calls Try.prog 9 #[.int .i64 n] w fun e w' => e = .returned (.string ⟨#[63]⟩) ∧ w = w' := by
  have H := Lib.hid h
  clear h
  go_enter Try.func9, Try.ntmps9
  go_wp2_with (go_at_call 35; refine (within_no35 _ _ _ H.out _).mono ?_; rintro e w' ⟨rfl, rfl⟩)
  go_ret
  exact ⟨rfl, rfl⟩

set_option maxHeartbeats 400000 in
theorem no10 (n : Int) (h : ¬ (1 ≤ n ∧ n ≤ 17)) (w : World) : Calls Try.prog 10 #[.int .i64 n] w fun e w' => e = .returned (.string ⟨#[63]⟩) ∧ w = w' := by
  have H := Lib.hid h
  clear h
  go_enter Try.func10, Try.ntmps10
  go_wp2_with (go_at_call 36; refine (within_no36 _ _ _ H.out _).mono ?_; rintro e w' ⟨rfl, rfl⟩)
  go_ret
  exact ⟨rfl, rfl⟩

set_option maxHeartbeats 400000 in
theorem law_no (n : Int) (h : ¬ (1 ≤ n ∧ n ≤ 17)) (w : World) : Calls Try.prog 3 #[.int .i64 n] w (Done w) := by
  have H := Lib.hid h
  clear h
  go_enter Try.func3, Try.ntmps3
  go_wp2_with (first | (go_at_call 9; refine (no9 _ H.out _).mono ?_; rintro e w' ⟨rfl, rfl⟩) | (go_at_call 10; refine (no10 _ H.out _).mono ?_; rintro e w' ⟨rfl, rfl⟩))
  go_ret
  exact ⟨rfl, Below.refl _ _⟩

set_option maxHeartbeats 400000 in
theorem law_1 (w : World) : Calls Try.prog 3 #[.int .i64 1] w (Done w) := by
  go_enter Try.func3, Try.ntmps3
  go_wp2
  go_ret
  exact ⟨rfl, (((Below.refl _ _).alloc (Nat.le_refl _) _).alloc (by simp) _)⟩

set_option maxHeartbeats 400000 in
theorem law_2 (w : World) : Calls Try.prog 3 #[.int .i64 2] w (Done w) := by
  go_enter Try.func3, Try.ntmps3
  go_wp2
  go_ret
  exact ⟨rfl, (((Below.refl _ _).alloc (Nat.le_refl _) _).alloc (by simp) _)⟩

set_option maxHeartbeats 400000 in
theorem law_3 (w : World) : Calls Try.prog 3 #[.int .i64 3] w (Done w) := by
  go_enter Try.func3, Try.ntmps3
  go_wp2
  go_ret
  exact ⟨rfl, (((Below.refl _ _).alloc (Nat.le_refl _) _).alloc (by simp) _)⟩

set_option maxHeartbeats 400000 in
theorem law_4 (w : World) : Calls Try.prog 3 #[.int .i64 4] w (Done w) := by
  go_enter Try.func3, Try.ntmps3
  go_wp2
  go_ret
  exact ⟨rfl, (((Below.refl _ _).alloc (Nat.le_refl _) _).alloc (by simp) _)⟩

set_option maxHeartbeats 400000 in
theorem law_5 (w : World) : Calls Try.prog 3 #[.int .i64 5] w (Done w) := by
  go_enter Try.func3, Try.ntmps3
  go_wp2
  go_ret
  exact ⟨rfl, (((Below.refl _ _).alloc (Nat.le_refl _) _).alloc (by simp) _)⟩

set_option maxHeartbeats 400000 in
theorem law_6 (w : World) : Calls Try.prog 3 #[.int .i64 6] w (Done w) := by
  go_enter Try.func3, Try.ntmps3
  go_wp2
  go_ret
  exact ⟨rfl, (((Below.refl _ _).alloc (Nat.le_refl _) _).alloc (by simp) _)⟩

set_option maxHeartbeats 400000 in
theorem law_7 (w : World) : Calls Try.prog 3 #[.int .i64 7] w (Done w) := by
  go_enter Try.func3, Try.ntmps3
  go_wp2
  go_ret
  exact ⟨rfl, (((Below.refl _ _).alloc (Nat.le_refl _) _).alloc (by simp) _)⟩

set_option maxHeartbeats 400000 in
theorem law_8 (w : World) : Calls Try.prog 3 #[.int .i64 8] w (Done w) := by
  go_enter Try.func3, Try.ntmps3
  go_wp2
  go_ret
  exact ⟨rfl, (((Below.refl _ _).alloc (Nat.le_refl _) _).alloc (by simp) _)⟩

set_option maxHeartbeats 400000 in
theorem law_9 (w : World) : Calls Try.prog 3 #[.int .i64 9] w (Done w) := by
  go_enter Try.func3, Try.ntmps3
  go_wp2
  go_ret
  exact ⟨rfl, (((Below.refl _ _).alloc (Nat.le_refl _) _).alloc (by simp) _)⟩

set_option maxHeartbeats 400000 in
theorem law_10 (w : World) : Calls Try.prog 3 #[.int .i64 10] w (Done w) := by
  go_enter Try.func3, Try.ntmps3
  go_wp2
  go_ret
  exact ⟨rfl, (((Below.refl _ _).alloc (Nat.le_refl _) _).alloc (by simp) _)⟩

set_option maxHeartbeats 400000 in
theorem law_11 (w : World) : Calls Try.prog 3 #[.int .i64 11] w (Done w) := by
  go_enter Try.func3, Try.ntmps3
  go_wp2
  go_ret
  exact ⟨rfl, (((Below.refl _ _).alloc (Nat.le_refl _) _).alloc (by simp) _)⟩

set_option maxHeartbeats 400000 in
theorem law_12 (w : World) : Calls Try.prog 3 #[.int .i64 12] w (Done w) := by
  go_enter Try.func3, Try.ntmps3
  go_wp2
  go_ret
  exact ⟨rfl, (((Below.refl _ _).alloc (Nat.le_refl _) _).alloc (by simp) _)⟩

set_option maxHeartbeats 400000 in
theorem law_13 (w : World) : Calls Try.prog 3 #[.int .i64 13] w (Done w) := by
  go_enter Try.func3, Try.ntmps3
  go_wp2
  go_ret
  exact ⟨rfl, (((Below.refl _ _).alloc (Nat.le_refl _) _).alloc (by simp) _)⟩

set_option maxHeartbeats 400000 in
theorem law_14 (w : World) : Calls Try.prog 3 #[.int .i64 14] w (Done w) := by
  go_enter Try.func3, Try.ntmps3
  go_wp2
  go_ret
  exact ⟨rfl, (((Below.refl _ _).alloc (Nat.le_refl _) _).alloc (by simp) _)⟩

set_option maxHeartbeats 400000 in
theorem law_15 (w : World) : Calls Try.prog 3 #[.int .i64 15] w (Done w) := by
  go_enter Try.func3, Try.ntmps3
  go_wp2
  go_ret
  exact ⟨rfl, (((Below.refl _ _).alloc (Nat.le_refl _) _).alloc (by simp) _)⟩

set_option maxHeartbeats 400000 in
theorem law_16 (w : World) : Calls Try.prog 3 #[.int .i64 16] w (Done w) := by
  go_enter Try.func3, Try.ntmps3
  go_wp2
  go_ret
  exact ⟨rfl, (((Below.refl _ _).alloc (Nat.le_refl _) _).alloc (by simp) _)⟩

set_option maxHeartbeats 400000 in
theorem law_17 (w : World) : Calls Try.prog 3 #[.int .i64 17] w (Done w) := by
  go_enter Try.func3, Try.ntmps3
  go_wp2
  go_ret
  exact ⟨rfl, (((Below.refl _ _).alloc (Nat.le_refl _) _).alloc (by simp) _)⟩

theorem walk (n : Int) (w : World) : Calls Try.prog 3 #[.int .i64 n] w (Done w) := by
  by_cases h : 1 ≤ n ∧ n ≤ 17
  · have h' : n = 1 ∨ n = 2 ∨ n = 3 ∨ n = 4 ∨ n = 5 ∨ n = 6 ∨ n = 7 ∨ n = 8 ∨ n = 9 ∨ n = 10 ∨ n = 11 ∨ n = 12 ∨ n = 13 ∨ n = 14 ∨ n = 15 ∨ n = 16 ∨ n = 17 := by omega
    rcases h' with rfl | rfl | rfl | rfl | rfl | rfl | rfl | rfl | rfl | rfl | rfl | rfl | rfl | rfl | rfl | rfl | rfl
    · exact law_1 w
    · exact law_2 w
    · exact law_3 w
    · exact law_4 w
    · exact law_5 w
    · exact law_6 w
    · exact law_7 w
    · exact law_8 w
    · exact law_9 w
    · exact law_10 w
    · exact law_11 w
    · exact law_12 w
    · exact law_13 w
    · exact law_14 w
    · exact law_15 w
    · exact law_16 w
    · exact law_17 w
  · exact law_no n h w

end Go.Proofs.Ytljoagkclakjmaa.ActName
