/- impl.ReadDecimal by the shelf's contracts of strconv.Atoi and strconv.Itoa. Condition: the table of powers of ten and the two error variables lie as the row lists them. -/
import Derived.Test.YtdlpmcjpbcbbjaaDoorBase
import Derived.Test.YtdlpmcjpbcbbjaaDoorWl
import Derived.Shelf.Strconv.AtoiAll
import Derived.Lib.AtoiErrMem
import Derived.Lib.AppendIntMem
import Derived.Lib.Hide
namespace Go.Proofs.YtdlpmcjpbcbbjaaDoor.T
open Go Go.ChangeShapes Go.WideShapes Go.ChangeAt Go.RowKit
set_option linter.unusedVariables false
set_option linter.unusedSimpArgs false
set_option maxRecDepth 100000
set_option maxHeartbeats 1000000

/-- The table, and the two errors of strconv's. -/
def TabE (w : World) : Prop := Tab w ∧ (∃ t p, w.cell? ⟨1, 0, none⟩ = some (.iface t p)) ∧ ∃ t p, w.cell? ⟨2, 0, none⟩ = some (.iface t p)
theorem cell_keep {w w' : World} {a : Addr} {v : Value} (h : w.cell? a = some v) (hb : ∀ b, b < w.heap.size → w'.heap[b]? = w.heap[b]?) : w'.cell? a = some v := by
  have hlt : a.block < w.heap.size := by
    rcases Nat.lt_or_ge a.block w.heap.size with h1 | h1
    · exact h1
    · unfold World.cell? at h
      rw [Array.getElem?_eq_none h1] at h
      cases h
  rw [World.cell?_of_block (w := w) (hb a.block hlt)]
  exact h
theorem TabE.keep (w w' : World) (h : TabE w) (hs : w.heap.size ≤ w'.heap.size) (hb : ∀ b, b < w.heap.size → w'.heap[b]? = w.heap[b]?) : TabE w' := by
  obtain ⟨h1, ⟨t, p, h2⟩, t', p', h3⟩ := h
  exact ⟨Tab.keep w w' h1 hs hb, ⟨t, p, cell_keep h2 hb⟩, t', p', cell_keep h3 hb⟩
theorem TabE.tab {w : World} (h : TabE w) : Tab w := h.1

/-- A contract of the shelf's: plain arguments, plain results; what is new is nobody's. -/
theorem FunAt.below2 {P : Program} {f : FuncId} {vs : List Value} {x y : Value} {w : World} (hp : plain x = true) (hq : plain y = true)
    (h : Calls P f vs.toArray w fun e w' => e = .returned (.tuple #[x, y]) ∧ Below w.heap.size w w') : FunAt P f (vs.map V) (fun r => r = ⟨[], fun _ => .tup [.c (.ro (.v x)), .c (.ro (.v y))]⟩) w := by
  intro g args k hg hsz hargs
  have ha : args = vs.toArray := by
    apply Array.ext
    · simpa using hsz
    · intro i h1 h2
      have h3 : i < vs.length := by simpa using h2
      have := V_inv (hargs i (V vs[i]) args[i] (by simp [h3]) (Array.getElem?_eq_getElem h1))
      simpa using this
  subst ha
  refine h.mono fun e w' ⟨he, hB⟩ => ?_
  subst he
  refine ⟨_, _, { g with o := allRo w' }, rfl, rfl, hB.os, hB.tape, hB.output, hB.size, hB.block, fun b hb1 hb => .inl ?_, fun b hb => ?_, fun q d hq => ?_, ?_⟩
  · show (if b < w'.heap.size then Tag.ro else Tag.outer) = .ro
    rw [if_pos hb]
  · have : (if b < w'.heap.size then Tag.ro else Tag.outer).root? = some k := hb
    split at this <;> cases this
  · simp at hq
  · refine .tup _ _ rfl fun j t u h1 h2 => ?_
    match j with
    | 0 => cases h1; cases h2; exact .c _ _ (Ro.v _ hp)
    | 1 => cases h1; cases h2; exact .c _ _ (Ro.v _ hq)
    | j + 2 => simp at h1

theorem atoiAll_range {l : List UInt8} {v : Int} (h : Lib.atoiAll l = .ok v) : -9223372036854775808 ≤ v ∧ v ≤ 9223372036854775807 := by
  unfold Lib.atoiAll at h
  split at h
  · cases h
  · simp only at h
    split at h
    · cases h
    · cases h
    · split at h
      · cases h
      · split at h
        · cases h
        · injection h with h
          subst h
          split <;> omega

theorem itoa_below (v : Int) (h0 : -9223372036854775808 ≤ v) (h1 : v ≤ 9223372036854775807) (w : World) (hw : Tab w) :
    Calls Tryd.prog 95 #[.int .i64 v] w fun e w' => e = .returned (.string (dec v)) ∧ Below w.heap.size w w' :=
  (Any.strconv_Itoa laysItoa v h0 h1 w hw).mono fun e w' ⟨he, k, os, hw⟩ => ⟨he, hw ▸ Lib.below_grow _ _ (Nat.le_refl _) k os⟩
theorem atoi_ok (s : ByteArray) (hs : s.size ≤ 10) (v : Int) (h : Lib.atoiAll s.data.toList = .ok v) (w : World) :
    Calls Tryd.prog 96 #[.string s] w fun e w' => e = .returned (.tuple #[.int .i64 v, .nilIface]) ∧ Below w.heap.size w w' :=
  (Any.strconv_Atoi_ok laysAtoi s (by omega) v h w).mono fun e w' ⟨he, hw⟩ => ⟨he, by
    rcases hw with rfl | ⟨t, rfl⟩
    · exact Below.refl _ _
    · exact Lib.bytesWorld_below _ _ _⟩
theorem atoi_bad (s : ByteArray) (hs : s.size ≤ 10) (h : ∀ v, Lib.atoiAll s.data.toList ≠ .ok v) (w : World) (hW : TabE w) :
    Calls Tryd.prog 96 #[.string s] w fun e w' => ∃ n t N, e = .returned (.tuple #[.int .i64 n, .iface t (.pointer (some ⟨N, 0, none⟩))]) ∧ Below w.heap.size w w' := by
  obtain ⟨_, ⟨t, p, h2⟩, t', p', h3⟩ := hW
  cases hc : Lib.atoiAll s.data.toList with
  | ok v => exact absurd hc (h v)
  | range => exact (Any.strconv_Atoi_range laysAtoi s (by omega) hc _ w h3 (.inr ⟨_, _, rfl⟩)).mono fun e w' ⟨N, he, _, _, hb⟩ => ⟨_, _, N, he, hb⟩
  | _ => exact (Any.strconv_Atoi_syntax laysAtoi s (by omega) hc _ w h2 (.inr ⟨_, _, rfl⟩)).mono fun e w' ⟨N, he, _, _, hb⟩ => ⟨_, _, N, he, hb⟩

theorem within_c (n a b : Int) (r : Bool) (hr : inR n a b = r) (w : World) : Calls Tryd.prog 44 #[.int .i64 n, .int .i64 a, .int .i64 b] w fun e w' => e = .returned (.bool r) ∧ w = w' := by
  subst hr
  unfold inR
  rcases Decidable.em (a ≤ n) with h1 | h1
  · by_cases h2 : n ≤ b
    · go_enter Tryd.func44, Tryd.ntmps44
      go_wp2
      go_ret
      exact ⟨by simp [h1, h2], rfl⟩
    · go_enter Tryd.func44, Tryd.ntmps44
      go_wp2
      go_ret
      exact ⟨by simp [h1, h2], rfl⟩
  · go_enter Tryd.func44, Tryd.ntmps44
    go_wp2
    go_ret
    exact ⟨by
      simp [h1]
      intro h2
      omega, rfl⟩

theorem readDec_calls (s : ByteArray) (w : World) (hW : TabE w) :
    Calls Tryd.prog 49 #[.string s] w fun e w' => e = .returned (.tuple #[.int .i64 ((readDec s).getD 0 : Nat), .bool (readDec s).isSome]) ∧ Below w.heap.size w w' := by
  by_cases hs0 : s.size < 1
  · have hr : readDec s = none := readDec_none fun n hn e => by have := dec_small hn; rw [e] at this; omega
    rw [hr]
    go_enter Tryd.func49, Tryd.ntmps49
    go_wp2
    go_ret2
    exact ⟨rfl, Below.refl _ _⟩
  by_cases hs1 : 10 < s.size
  · have hr : readDec s = none := readDec_long hs1
    rw [hr]
    go_enter Tryd.func49, Tryd.ntmps49
    go_wp2
    go_ret2
    exact ⟨rfl, Below.refl _ _⟩
  by_cases hok : ∃ v, Lib.atoiAll s.data.toList = .ok v
  · obtain ⟨v, hv⟩ := hok
    have hvr := atoiAll_range hv
    have hvh := Lib.hid hv
    by_cases hd : dec v = s
    · by_cases hin : 0 ≤ v ∧ v ≤ 1000000000
      · obtain ⟨n, rfl⟩ := Int.eq_ofNat_of_zero_le hin.1
        have hr : readDec s = some n := by rw [← hd]; exact readDec_dec (by omega)
        have hR : inR (n : Int) 0 1000000000 = true := by simp only [inR, Bool.and_eq_true, decide_eq_true_eq]; exact hin
        rw [hr]
        clear hv
        go_enter Tryd.func49, Tryd.ntmps49
        go_wp2_with (first | (go_at_call 96; refine (atoi_ok s (by omega) n hvh.out _).mono ?_; rintro e w1 ⟨rfl, hb1⟩) | (go_at_call 95; refine (itoa_below n hvr.1 hvr.2 _ (TabE.keep _ _ hW hb1.size hb1.block).tab).mono ?_; rintro e w2 ⟨rfl, hb2⟩) | (go_at_call 44; refine (within_c _ _ _ true hR _).mono ?_; rintro e w3 ⟨rfl, rfl⟩))
        go_ret2
        exact ⟨rfl, hb1.trans (hb2.mono hb1.size)⟩
      · have hr : readDec s = none := readDec_none fun m hm e => hin (by
          rw [← e, atoiAll_dec hm] at hv
          injection hv with hv
          omega)
        have hR : inR v 0 1000000000 = false := by simp only [inR, Bool.and_eq_false_iff, decide_eq_false_iff_not]; omega
        have hin' := Lib.hid hin
        rw [hr]
        clear hv hin
        go_enter Tryd.func49, Tryd.ntmps49
        go_wp2_with (first | (go_at_call 96; refine (atoi_ok s (by omega) v hvh.out _).mono ?_; rintro e w1 ⟨rfl, hb1⟩) | (go_at_call 95; refine (itoa_below v hvr.1 hvr.2 _ (TabE.keep _ _ hW hb1.size hb1.block).tab).mono ?_; rintro e w2 ⟨rfl, hb2⟩) | (go_at_call 44; refine (within_c _ _ _ false hR _).mono ?_; rintro e w3 ⟨rfl, rfl⟩))
        go_ret2
        exact ⟨rfl, hb1.trans (hb2.mono hb1.size)⟩
    · have hr : readDec s = none := readDec_none fun m hm e => hd (by
        rw [← e, atoiAll_dec hm] at hv
        injection hv with hv
        rw [← hv, e])
      have hdl : ¬ (dec v).toList = s.toList := fun e => hd (by
        have := ba_beq (dec v) s
        rw [e] at this
        simpa using this)
      rw [hr]
      clear hv
      go_enter Tryd.func49, Tryd.ntmps49
      go_wp2_with (first | (go_at_call 96; refine (atoi_ok s (by omega) v hvh.out _).mono ?_; rintro e w1 ⟨rfl, hb1⟩) | (go_at_call 95; refine (itoa_below v hvr.1 hvr.2 _ (TabE.keep _ _ hW hb1.size hb1.block).tab).mono ?_; rintro e w2 ⟨rfl, hb2⟩))
      go_ret2
      exact ⟨rfl, hb1.trans (hb2.mono hb1.size)⟩
  · have hr : readDec s = none := readDec_none fun m hm e => hok ⟨m, by rw [← e]; exact atoiAll_dec hm⟩
    have hb := fun v h => hok ⟨v, h⟩
    clear hok
    have hb := Lib.hid hb
    rw [hr]
    go_enter Tryd.func49, Tryd.ntmps49
    go_wp2_with (go_at_call 96; refine (atoi_bad s (by omega) hb.out _ hW).mono ?_)
    rintro e w1 ⟨n, t, N, rfl, hb1⟩
    go_wp2
    go_ret2
    exact ⟨rfl, hb1⟩
theorem impl_ReadDecimal_f (s : ByteArray) : FunW TabE Tryd.prog 49 [S s] (RDec (readDec s)) := fun w hW =>
  FunAt.below2 (vs := [.string s]) rfl rfl (readDec_calls s w hW)
end Go.Proofs.YtdlpmcjpbcbbjaaDoor.T
