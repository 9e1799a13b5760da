/- The reference's drawing of numbers, by the kit's walk: a cursor in a block of its own. Condition: the bytes lie in memory. -/
import Derived.Test.YtfiakjbnfaaamaaDoorBase
import Derived.Test.YtfiakjbnfaaamaaDoorT3
import Derived.LoopTactic
import Derived.WalkKit
import Derived.BigQuiet
import Derived.Laws.Bits128
import Derived.Deep.QuietTactic
namespace Go.Proofs.YtfiakjbnfaaamaaDoor.T
open Go Go.ChangeShapes Go.WideShapes Go.ChangeAt Go.RowKit
set_option linter.unusedVariables false
set_option linter.unusedSimpArgs false
set_option maxRecDepth 100000
set_option maxHeartbeats 1000000

/-- The bytes of a list, in memory. -/
def Bytes (w : World) (ad : Option Addr) (n : Nat) : Prop := ∀ k, k < n → ∃ b off, ad = some ⟨b, off, none⟩ ∧ ∃ z : Nat, z < 256 ∧ w.cell? ⟨b, off + k, none⟩ = some (.int .u8 z)

theorem curNil (ad : Option Addr) (c : Nat) (w : World) :
    Calls Tryd.prog 9 #[.slice ad 0 c] w fun e w' => ∃ (h : Int) (k : Nat), e = .returned (.pointer (some ⟨w.heap.size, 0, none⟩)) ∧
      w' = (w.drewN k).alloc (.cells #[.slice ad 0 c, .int .i64 0, .int .i64 h] 48) := by
  go_enter Tryd.func9, Tryd.ntmps9
  go_wp2
  go_loop [3, 4] (fun t i => i = .int .i64 0 ∧ ∃ z : Int, t = .int .i64 z) (fun _ i => 0)
  case atStart => exact ⟨rfl, _, rfl⟩
  case round =>
    obtain ⟨rfl, z, rfl⟩ := hrel
    go_wp2
    go_ret
    exact ⟨rfl, _, 0, rfl⟩

theorem curNew (b off n c : Nat) (hn : n ≤ 1048576) (w : World) (hb : Bytes w (some ⟨b, off, none⟩) n) :
    Calls Tryd.prog 9 #[.slice (some ⟨b, off, none⟩) n c] w fun e w' => ∃ (h : Int) (k : Nat), e = .returned (.pointer (some ⟨w.heap.size, 0, none⟩)) ∧
      w' = (w.drewN k).alloc (.cells #[.slice (some ⟨b, off, none⟩) n c, .int .i64 0, .int .i64 h] 48) := by
  have hb' : ∀ k, k < n → ∃ z : Nat, z < 256 ∧ w.cell? ⟨b, off + k, none⟩ = some (.int .u8 z) := fun k hk => by
    obtain ⟨b2, off2, e, h⟩ := hb k hk
    simp only [Option.some.injEq, Addr.mk.injEq, and_true] at e
    obtain ⟨rfl, rfl⟩ := e
    exact h
  clear hb
  go_enter Tryd.func9, Tryd.ntmps9
  go_wp2
  go_loop [3, 4] (fun t i => ∃ k : Nat, k ≤ n ∧ i = .int .i64 k ∧ ∃ z : Int, t = .int .i64 z) (fun _ i => n - (intOf i).toNat)
  case atStart => exact ⟨0, Nat.zero_le _, rfl, _, rfl⟩
  case round =>
    obtain ⟨k, hk, rfl, z, rfl⟩ := hrel
    obtain ⟨y, hcell⟩ : ∃ y : Nat, k < n → y < 256 ∧ w.cell? ⟨b, off + k, none⟩ = some (.int .u8 y) := by
      by_cases h : k < n
      · obtain ⟨y, hy⟩ := hb' k h
        exact ⟨y, fun _ => hy⟩
      · exact ⟨0, fun h' => absurd h' h⟩
    clear hb'
    have hcell2 : k < n → w.cell? ⟨b, off + k, none⟩ = some (.int .u8 y) := fun h => (hcell h).2
    clear hcell
    go_wp2
    · exact ⟨⟨k + 1, by omega, by simp, _, rfl⟩, by simp [intOf]; omega⟩
    all_goals
      go_ret
      exact ⟨rfl, _, 0, rfl⟩

/-- A step of the cursor's: only its block has turned. -/
structure CurStep (b : Nat) (w w' : World) : Prop where
  os : w'.os = w.os
  tape : w'.tape = w.tape
  output : w'.output = w.output
  size : w'.heap.size = w.heap.size
  other : ∀ b', b' ≠ b → w'.heap[b']? = w.heap[b']?
/-- The cursor lies in its block. -/
structure Cur (w : World) (b o : Nat) (v : Value) (i h : Int) : Prop where
  c0 : w.cell? ⟨b, o, none⟩ = some v
  c1 : w.cell? ⟨b, o + 1, none⟩ = some (.int .i64 i)
  c2 : w.cell? ⟨b, o + 2, none⟩ = some (.int .i64 h)
  fz : ∃ cs t, w.heap[b]? = some (.cells cs t (0, 0))
  nn : 0 ≤ i

theorem CurStep.refl (b : Nat) (w : World) : CurStep b w w := ⟨rfl, rfl, rfl, rfl, fun _ _ => rfl⟩
theorem CurStep.trans {b : Nat} {w w1 w2 : World} (h : CurStep b w w1) (k : CurStep b w1 w2) : CurStep b w w2 :=
  ⟨k.os.trans h.os, k.tape.trans h.tape, k.output.trans h.output, k.size.trans h.size, fun b' hb => (k.other b' hb).trans (h.other b' hb)⟩
theorem CurStep.drewN (b : Nat) (w : World) (k : Nat) : CurStep b w (w.drewN k) := ⟨rfl, rfl, rfl, rfl, fun _ _ => rfl⟩
theorem CurStep.setCell (b q : Nat) (w : World) (v : Value) : CurStep b w (w.setCell ⟨b, q, none⟩ v) := ⟨rfl, rfl, rfl, by simp [World.setCell], fun b' hb => Below.heap_setCell _ _ _ _ hb⟩
theorem Cur.drewN {w : World} {b o : Nat} {v : Value} {i h : Int} (hc : Cur w b o v i h) (k : Nat) : Cur (w.drewN k) b o v i h := ⟨hc.c0, hc.c1, hc.c2, hc.fz, hc.nn⟩
theorem fz_set {w : World} {b : Nat} (h : ∃ cs t, w.heap[b]? = some (.cells cs t (0, 0))) (a : Addr) (u : Value) : ∃ cs t, (w.setCell a u).heap[b]? = some (.cells cs t (0, 0)) := by
  obtain ⟨cs, t, e⟩ := h
  by_cases hb : b = a.block
  · subst hb
    simp [World.setCell, Array.getElem?_modify, e]
  · exact ⟨cs, t, by rw [Below.heap_setCell _ _ _ _ hb]; exact e⟩
theorem Cur.set2 {w : World} {b o : Nat} {v : Value} {i h : Int} (hc : Cur w b o v i h) (h' : Int) : Cur (w.setCell ⟨b, o + 2, none⟩ (.int .i64 h')) b o v i h' :=
  ⟨by rw [World.cell?_setCell_other _ _ _ _ (by simp)]; exact hc.c0, by rw [World.cell?_setCell_other _ _ _ _ (by simp)]; exact hc.c1, World.cell?_setCell_same _ _ _ hc.c2, fz_set hc.fz _ _, hc.nn⟩
theorem Cur.set1 {w : World} {b o : Nat} {v : Value} {i h : Int} (hc : Cur w b o v i h) {i' : Int} (hi : 0 ≤ i') : Cur (w.setCell ⟨b, o + 1, none⟩ (.int .i64 i')) b o v i' h :=
  ⟨by rw [World.cell?_setCell_other _ _ _ _ (by simp)]; exact hc.c0, World.cell?_setCell_same _ _ _ hc.c1, by rw [World.cell?_setCell_other _ _ _ _ (by simp)]; exact hc.c2, fz_set hc.fz _ _, hi⟩
theorem Bytes.step {w w' : World} {b : Nat} {ad : Option Addr} {n : Nat} (hb : Bytes w ad n) (hs : CurStep b w w') (hne : ∀ b2 off, 0 < n → ad = some ⟨b2, off, none⟩ → b2 ≠ b) : Bytes w' ad n := fun k hk => by
  obtain ⟨b2, off, e, z, hz, hc⟩ := hb k hk
  refine ⟨b2, off, e, z, hz, ?_⟩
  rw [← hc]
  exact World.cell?_of_block (w := w) (hs.other b2 (hne b2 off (by omega) e))

theorem and255 (n : Int) : 0 ≤ bits .and .i64 n 255 ∧ bits .and .i64 n 255 < 256 := by
  have h255 : (BitVec.ofInt 64 255).toNat = 2 ^ 8 - 1 := by decide
  have key : (BitVec.ofInt 64 n &&& BitVec.ofInt 64 255).toNat = (n % ((2 ^ 64 : Nat) : Int)).toNat % 2 ^ 8 := by
    rw [BitVec.toNat_and, BitVec.toNat_ofInt, h255, Nat.and_two_pow_sub_one_eq_mod]
  have : bits .and .i64 n 255 = n % 256 := by
    show IntKind.i64.wrap ((BitVec.ofInt 64 n &&& BitVec.ofInt 64 255).toNat : Nat) = n % 256
    rw [key, IntKind.wrap_i64]
    omega
  rw [this]
  omega
theorem Cur.frozen {w : World} {b o : Nat} {v : Value} {i h : Int} (hc : Cur w b o v i h) (q : Nat) : w.frozen? ⟨b, q, none⟩ = false := by
  obtain ⟨cs, t, e⟩ := hc.fz
  simp [World.frozen?, e]

theorem byteC (b o : Nat) (ad : Option Addr) (n c : Nat) (i h : Int) (hn : n ≤ 1048576) (w : World) (hc : Cur w b o (.slice ad n c) i h) (hb : Bytes w ad n) (hne : ∀ b2 off, 0 < n → ad = some ⟨b2, off, none⟩ → b2 ≠ b) :
    Calls Tryd.prog 16 #[.pointer (some ⟨b, o, none⟩)] w fun e w' => ∃ x i' h', e = .returned (.int .i64 x) ∧ 0 ≤ x ∧ x < 256 ∧ CurStep b w w' ∧ Cur w' b o (.slice ad n c) i' h' := by
  obtain ⟨m, rfl⟩ := Int.eq_ofNat_of_zero_le hc.nn
  by_cases hin : m < n
  · obtain ⟨b2, off, rfl, z, hz, hzc⟩ := hb m hin
    have hne2 := hne b2 off (by omega) rfl
    clear hb hne
    have h0 := hc.c0
    have h1 := hc.c1
    have h2 := hc.c2
    have hfz := hc.frozen (o + 2)
    go_enter Tryd.func16, Tryd.ntmps16
    go_wp2
    generalize hw1 : w.setCell ⟨b, o + 2, none⟩ _ = w1
    have hs1 : CurStep b w w1 := hw1 ▸ CurStep.setCell b (o + 2) w _
    have hc1 : ∃ hh, Cur w1 b o (.slice (some ⟨b2, off, none⟩) n c) m hh := ⟨_, hw1 ▸ hc.set2 _⟩
    clear hw1 h0 h1 h2 hfz
    obtain ⟨h1, hc1⟩ := hc1
    have hz1 : w1.cell? ⟨b2, off + m, none⟩ = some (.int .u8 z) := (World.cell?_of_block (w := w) (hs1.other b2 hne2)).trans hzc
    have k0 := hc1.c0
    have k1 := hc1.c1
    have k2 := hc1.c2
    go_quiet (fail)
    have hx0 := and255 (bits BinOp.xor IntKind.i64 (h1 / 8589934592) (h1 / 35184372088832))
    generalize bits BinOp.and IntKind.i64 _ 255 = x0 at hx0 ⊢
    generalize hw2 : w1.drewN _ = w2
    have hs2 : CurStep b w1 w2 := hw2 ▸ CurStep.drewN b w1 _
    have hc2 : Cur w2 b o (.slice (some ⟨b2, off, none⟩) n c) m h1 := hw2 ▸ hc1.drewN _
    have hz2 : w2.cell? ⟨b2, off + m, none⟩ = some (.int .u8 z) := (World.cell?_of_block (w := w1) (hs2.other b2 hne2)).trans hz1
    clear hw2 k0 k1 k2 hz1
    have k0 := hc2.c0
    have k1 := hc2.c1
    go_wp2
    go_quiet (fail)
    generalize hw3 : w2.drewN _ = w3
    have hs3 : CurStep b w2 w3 := hw3 ▸ CurStep.drewN b w2 _
    have hc3 : Cur w3 b o (.slice (some ⟨b2, off, none⟩) n c) m h1 := hw3 ▸ hc2.drewN _
    have hz3 : w3.cell? ⟨b2, off + m, none⟩ = some (.int .u8 z) := (World.cell?_of_block (w := w2) (hs3.other b2 hne2)).trans hz2
    clear hw3 k0 k1 hz2
    have k0 := hc3.c0
    have k1 := hc3.c1
    go_wp2
    go_quiet (fail)
    generalize hg1 : bits BinOp.and IntKind.i64 _ 255 = x1
    have hx1 : 0 ≤ x1 ∧ x1 < 256 := hg1 ▸ and255 _
    clear hg1
    generalize hw4 : w3.drewN _ = w4
    have hs4 : CurStep b w3 w4 := hw4 ▸ CurStep.drewN b w3 _
    have hc4 : Cur w4 b o (.slice (some ⟨b2, off, none⟩) n c) m h1 := hw4 ▸ hc3.drewN _
    clear hw4 k0 k1 hz3
    have k0 := hc4.c0
    have k1 := hc4.c1
    have kf := hc4.frozen (o + 1)
    go_wp2
    go_ret
    exact ⟨_, _, _, rfl, hx1.1, hx1.2, (((hs1.trans hs2).trans hs3).trans hs4).trans (CurStep.setCell b (o + 1) w4 _), hc4.set1 (by omega)⟩
  · have h0 := hc.c0
    have h1 := hc.c1
    have h2 := hc.c2
    have hfz := hc.frozen (o + 2)
    clear hb hne
    go_enter Tryd.func16, Tryd.ntmps16
    go_wp2
    generalize hw1 : w.setCell ⟨b, o + 2, none⟩ _ = w1
    have hs1 : CurStep b w w1 := hw1 ▸ CurStep.setCell b (o + 2) w _
    have hc1 : ∃ hh, Cur w1 b o (.slice ad n c) m hh := ⟨_, hw1 ▸ hc.set2 _⟩
    clear hw1 h0 h1 h2 hfz
    obtain ⟨h1, hc1⟩ := hc1
    have k0 := hc1.c0
    have k1 := hc1.c1
    have k2 := hc1.c2
    go_quiet (fail)
    have hx0 := and255 (bits BinOp.xor IntKind.i64 (h1 / 8589934592) (h1 / 35184372088832))
    generalize bits BinOp.and IntKind.i64 _ 255 = x0 at hx0 ⊢
    generalize hw2 : w1.drewN _ = w2
    have hs2 : CurStep b w1 w2 := hw2 ▸ CurStep.drewN b w1 _
    have hc2 : Cur w2 b o (.slice ad n c) m h1 := hw2 ▸ hc1.drewN _
    clear hw2 k0 k1 k2
    have k0 := hc2.c0
    have k1 := hc2.c1
    go_wp2
    go_quiet (fail)
    generalize hw3 : w2.drewN _ = w3
    have hs3 : CurStep b w2 w3 := hw3 ▸ CurStep.drewN b w2 _
    have hc3 : Cur w3 b o (.slice ad n c) m h1 := hw3 ▸ hc2.drewN _
    clear hw3 k0 k1
    go_wp2
    go_ret
    exact ⟨_, _, _, rfl, hx0.1, hx0.2, (hs1.trans hs2).trans hs3, hc3⟩

theorem belowC (b o : Nat) (ad : Option Addr) (n c : Nat) (i h : Int) (hn : n ≤ 1048576) (w : World) (hc : Cur w b o (.slice ad n c) i h) (hb : Bytes w ad n) (hne : ∀ b2 off, 0 < n → ad = some ⟨b2, off, none⟩ → b2 ≠ b) :
    Calls Tryd.prog 10 #[.pointer (some ⟨b, o, none⟩), .int .i64 10000] w fun e w' => ∃ x i' h', e = .returned (.int .i64 x) ∧ 0 ≤ x ∧ x < 10000 ∧ CurStep b w w' ∧ Cur w' b o (.slice ad n c) i' h' := by
  go_enter Tryd.func10, Tryd.ntmps10
  go_wp2_with (go_at_call 16; refine (byteC b o ad n c i h hn _ hc hb hne).mono ?_)
  rintro e w1 ⟨x1, i1, h1, rfl, hx1, hy1, hs1, hc1⟩
  have hb1 := hb.step hs1 hne
  go_wp2_with (go_at_call 16; refine (byteC b o ad n c i1 h1 hn _ hc1 hb1 hne).mono ?_)
  rintro e w2 ⟨x2, i2, h2, rfl, hx2, hy2, hs2, hc2⟩
  have hb2 := hb1.step hs2 hne
  go_wp2_with (go_at_call 16; refine (byteC b o ad n c i2 h2 hn _ hc2 hb2 hne).mono ?_)
  rintro e w3 ⟨x3, i3, h3, rfl, hx3, hy3, hs3, hc3⟩
  have hb3 := hb2.step hs3 hne
  go_wp2_with (go_at_call 16; refine (byteC b o ad n c i3 h3 hn _ hc3 hb3 hne).mono ?_)
  rintro e w4 ⟨x4, i4, h4, rfl, hx4, hy4, hs4, hc4⟩
  go_wp2
  go_ret
  exact ⟨_, _, _, rfl, by omega, by omega, ((hs1.trans hs2).trans hs3).trans hs4, hc4⟩
end Go.Proofs.YtfiakjbnfaaamaaDoor.T
