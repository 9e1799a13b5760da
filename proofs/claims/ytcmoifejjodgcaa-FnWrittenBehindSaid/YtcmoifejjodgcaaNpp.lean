
import Derived.Test.YtcmoifejjodgcaaNjp
import Derived.Test.YtcmoifejjodgcaaProg
import Derived.Shelf.Lays
import Derived.Shelf.Bits.Mul64
namespace Go.Proofs.Ytcmoifejjodgcaa.T
open Go
set_option linter.unusedVariables false
set_option linter.unusedSimpArgs false
set_option maxRecDepth 100000
set_option maxHeartbeats 8000000
theorem impl_copyMon_f (x : VMon) [Q (SmMon x)] : Fun Try.prog 39 [A (rMon x)] (RG [.a (rMon x)]) := by
 refine Fun.w 44 Try.func39 fun w g0 hM => ?_
 have hl0 := hM.1.2.2.2.2.2.2.2.1.map
 refine callL (impl_copyTable_f _).k ?_
 refine callL (impl_copyMem_f _).k ?_
 first | refine appPq ?_ | refine appP ?_
 refine callL (impl_copyGuests_f _).k ?_
 refine callL (impl_copyInts_f _).k ?_
 refine len ?_
 refine loopA [1, 2, 3, 29, 30] [3] [3] (fun (i : Nat) => [.set 31 (I i)]) (fun (i : Nat) => [(3, ⟨false, [.own (.sl 2 ((x.Tables.take i).map dKept))]⟩)]) (fun (i : Nat) => i ≤ x.Tables.length) (fun (i : Nat) => x.Tables.length - i) (0) (Nat.zero_le _) ?_
 refine ⟨hda, fun i hyp N1 hN1 => ?_⟩
 have hyp : i ≤ x.Tables.length := hyp
 refine cnd (fun hb => ?_) (fun hb => ?_)
 ·first | refine ixm (by assumption) ?_ | refine bnd ?_ | refine bndi ?_ | refine ixkq (fun y33 hy33 qy33 ly33 => ?_) | refine ixiq (fun y33 hy33 qy33 ly33 => ?_)
  first | refine ixs ?_ | refine ixo (by assumption) ?_ | refine ixoq (fun z1 hz1 qz1 lz1 => ?_) | skip
  refine callG (impl_copyKept_f _).k ?_
  first | refine appOq ?_ | refine appO ?_
  refine rng ?_
  refine hN1 _ _ _ ?_
  refine nxa (i + 1) (by omega)
 ·refine hN1 _ _ _ ?_
  exact (by rw [List.take_of_length_le (by omega)]; rfl)
theorem impl_copyHost_f (h : VHost) [Q (SmHost h)] : Fun Try.prog 20 [A (rHost h)] (RG [.a (rHost h)]) := by
 refine Fun.w 34 Try.func20 fun w g0 hM => ?_
 have hl0 := hM.1.2.1.map
 refine regTJ [6, 10, 13] [6, 10] [1] (.quiet 0 0 (.quiet 1 0 (.quiet 4 0 (.quiet 5 0 (.quiet 8 1 (.quiet 9 1 (.fork (.alt 2 (.fork (.alt 3 (.fork (.alt 6 (.fork (.alt 7 (.fork (.alt 10 (.fork (.alt 11 (.fork (.alt 12 (.fork (.alt 13 .done .stop)) .stop)) (.alt 12 (.fork (.alt 11 (.fork (.alt 13 .done .stop)) .stop)) .stop))) (.alt 12 (.fork (.alt 10 (.fork (.alt 11 (.fork (.alt 13 .done .stop)) .stop)) .stop)) .stop))) (.alt 12 (.fork (.alt 7 (.fork (.alt 10 (.fork (.alt 11 (.fork (.alt 13 .done .stop)) .stop)) .stop)) .stop)) .stop))) (.alt 7 (.fork (.alt 6 (.fork (.alt 10 (.fork (.alt 11 (.fork (.alt 12 (.fork (.alt 13 .done .stop)) .stop)) (.alt 12 (.fork (.alt 11 (.fork (.alt 13 .done .stop)) .stop)) .stop))) (.alt 12 (.fork (.alt 10 (.fork (.alt 11 (.fork (.alt 13 .done .stop)) .stop)) .stop)) .stop))) (.alt 12 (.fork (.alt 6 (.fork (.alt 10 (.fork (.alt 11 (.fork (.alt 13 .done .stop)) .stop)) .stop)) .stop)) .stop))) (.alt 12 (.fork (.alt 6 (.fork (.alt 7 (.fork (.alt 10 (.fork (.alt 11 (.fork (.alt 13 .done .stop)) .stop)) .stop)) .stop)) (.alt 7 (.fork (.alt 6 (.fork (.alt 10 (.fork (.alt 11 (.fork (.alt 13 .done .stop)) .stop)) .stop)) .stop)) .stop))) .stop)))) (.alt 7 (.fork (.alt 3 (.fork (.alt 6 (.fork (.alt 10 (.fork (.alt 11 (.fork (.alt 12 (.fork (.alt 13 .done .stop)) .stop)) (.alt 12 (.fork (.alt 11 (.fork (.alt 13 .done .stop)) .stop)) .stop))) (.alt 12 (.fork (.alt 10 (.fork (.alt 11 (.fork (.alt 13 .done .stop)) .stop)) .stop)) .stop))) (.alt 12 (.fork (.alt 6 (.fork (.alt 10 (.fork (.alt 11 (.fork (.alt 13 .done .stop)) .stop)) .stop)) .stop)) .stop))) (.alt 12 (.fork (.alt 3 (.fork (.alt 6 (.fork (.alt 10 (.fork (.alt 11 (.fork (.alt 13 .done .stop)) .stop)) .stop)) .stop)) .stop)) .stop))) (.alt 12 (.fork (.alt 3 (.fork (.alt 6 (.fork (.alt 7 (.fork (.alt 10 (.fork (.alt 11 (.fork (.alt 13 .done .stop)) .stop)) .stop)) .stop)) (.alt 7 (.fork (.alt 6 (.fork (.alt 10 (.fork (.alt 11 (.fork (.alt 13 .done .stop)) .stop)) .stop)) .stop)) .stop))) (.alt 7 (.fork (.alt 3 (.fork (.alt 6 (.fork (.alt 10 (.fork (.alt 11 (.fork (.alt 13 .done .stop)) .stop)) .stop)) .stop)) .stop)) .stop))) .stop)))) (.alt 3 (.fork (.alt 2 (.fork (.alt 6 (.fork (.alt 7 (.fork (.alt 10 (.fork (.alt 11 (.fork (.alt 12 (.fork (.alt 13 .done .stop)) .stop)) (.alt 12 (.fork (.alt 11 (.fork (.alt 13 .done .stop)) .stop)) .stop))) (.alt 12 (.fork (.alt 10 (.fork (.alt 11 (.fork (.alt 13 .done .stop)) .stop)) .stop)) .stop))) (.alt 12 (.fork (.alt 7 (.fork (.alt 10 (.fork (.alt 11 (.fork (.alt 13 .done .stop)) .stop)) .stop)) .stop)) .stop))) (.alt 7 (.fork (.alt 6 (.fork (.alt 10 (.fork (.alt 11 (.fork (.alt 12 (.fork (.alt 13 .done .stop)) .stop)) (.alt 12 (.fork (.alt 11 (.fork (.alt 13 .done .stop)) .stop)) .stop))) (.alt 12 (.fork (.alt 10 (.fork (.alt 11 (.fork (.alt 13 .done .stop)) .stop)) .stop)) .stop))) (.alt 12 (.fork (.alt 6 (.fork (.alt 10 (.fork (.alt 11 (.fork (.alt 13 .done .stop)) .stop)) .stop)) .stop)) .stop))) (.alt 12 (.fork (.alt 6 (.fork (.alt 7 (.fork (.alt 10 (.fork (.alt 11 (.fork (.alt 13 .done .stop)) .stop)) .stop)) .stop)) (.alt 7 (.fork (.alt 6 (.fork (.alt 10 (.fork (.alt 11 (.fork (.alt 13 .done .stop)) .stop)) .stop)) .stop)) .stop))) .stop)))) (.alt 7 (.fork (.alt 2 (.fork (.alt 6 (.fork (.alt 10 (.fork (.alt 11 (.fork (.alt 12 (.fork (.alt 13 .done .stop)) .stop)) (.alt 12 (.fork (.alt 11 (.fork (.alt 13 .done .stop)) .stop)) .stop))) (.alt 12 (.fork (.alt 10 (.fork (.alt 11 (.fork (.alt 13 .done .stop)) .stop)) .stop)) .stop))) (.alt 12 (.fork (.alt 6 (.fork (.alt 10 (.fork (.alt 11 (.fork (.alt 13 .done .stop)) .stop)) .stop)) .stop)) .stop))) (.alt 12 (.fork (.alt 2 (.fork (.alt 6 (.fork (.alt 10 (.fork (.alt 11 (.fork (.alt 13 .done .stop)) .stop)) .stop)) .stop)) .stop)) .stop))) (.alt 12 (.fork (.alt 2 (.fork (.alt 6 (.fork (.alt 7 (.fork (.alt 10 (.fork (.alt 11 (.fork (.alt 13 .done .stop)) .stop)) .stop)) .stop)) (.alt 7 (.fork (.alt 6 (.fork (.alt 10 (.fork (.alt 11 (.fork (.alt 13 .done .stop)) .stop)) .stop)) .stop)) .stop))) (.alt 7 (.fork (.alt 2 (.fork (.alt 6 (.fork (.alt 10 (.fork (.alt 11 (.fork (.alt 13 .done .stop)) .stop)) .stop)) .stop)) .stop)) .stop))) .stop)))) (.alt 7 (.fork (.alt 2 (.fork (.alt 3 (.fork (.alt 6 (.fork (.alt 10 (.fork (.alt 11 (.fork (.alt 12 (.fork (.alt 13 .done .stop)) .stop)) (.alt 12 (.fork (.alt 11 (.fork (.alt 13 .done .stop)) .stop)) .stop))) (.alt 12 (.fork (.alt 10 (.fork (.alt 11 (.fork (.alt 13 .done .stop)) .stop)) .stop)) .stop))) (.alt 12 (.fork (.alt 6 (.fork (.alt 10 (.fork (.alt 11 (.fork (.alt 13 .done .stop)) .stop)) .stop)) .stop)) .stop))) (.alt 12 (.fork (.alt 3 (.fork (.alt 6 (.fork (.alt 10 (.fork (.alt 11 (.fork (.alt 13 .done .stop)) .stop)) .stop)) .stop)) .stop)) .stop))) (.alt 3 (.fork (.alt 2 (.fork (.alt 6 (.fork (.alt 10 (.fork (.alt 11 (.fork (.alt 12 (.fork (.alt 13 .done .stop)) .stop)) (.alt 12 (.fork (.alt 11 (.fork (.alt 13 .done .stop)) .stop)) .stop))) (.alt 12 (.fork (.alt 10 (.fork (.alt 11 (.fork (.alt 13 .done .stop)) .stop)) .stop)) .stop))) (.alt 12 (.fork (.alt 6 (.fork (.alt 10 (.fork (.alt 11 (.fork (.alt 13 .done .stop)) .stop)) .stop)) .stop)) .stop))) (.alt 12 (.fork (.alt 2 (.fork (.alt 6 (.fork (.alt 10 (.fork (.alt 11 (.fork (.alt 13 .done .stop)) .stop)) .stop)) .stop)) .stop)) .stop))) (.alt 12 (.fork (.alt 2 (.fork (.alt 3 (.fork (.alt 6 (.fork (.alt 10 (.fork (.alt 11 (.fork (.alt 13 .done .stop)) .stop)) .stop)) .stop)) .stop)) (.alt 3 (.fork (.alt 2 (.fork (.alt 6 (.fork (.alt 10 (.fork (.alt 11 (.fork (.alt 13 .done .stop)) .stop)) .stop)) .stop)) .stop)) .stop))) .stop)))) (.alt 12 (.fork (.alt 2 (.fork (.alt 3 (.fork (.alt 6 (.fork (.alt 7 (.fork (.alt 10 (.fork (.alt 11 (.fork (.alt 13 .done .stop)) .stop)) .stop)) .stop)) (.alt 7 (.fork (.alt 6 (.fork (.alt 10 (.fork (.alt 11 (.fork (.alt 13 .done .stop)) .stop)) .stop)) .stop)) .stop))) (.alt 7 (.fork (.alt 3 (.fork (.alt 6 (.fork (.alt 10 (.fork (.alt 11 (.fork (.alt 13 .done .stop)) .stop)) .stop)) .stop)) .stop)) .stop))) (.alt 3 (.fork (.alt 2 (.fork (.alt 6 (.fork (.alt 7 (.fork (.alt 10 (.fork (.alt 11 (.fork (.alt 13 .done .stop)) .stop)) .stop)) .stop)) (.alt 7 (.fork (.alt 6 (.fork (.alt 10 (.fork (.alt 11 (.fork (.alt 13 .done .stop)) .stop)) .stop)) .stop)) .stop))) (.alt 7 (.fork (.alt 2 (.fork (.alt 6 (.fork (.alt 10 (.fork (.alt 11 (.fork (.alt 13 .done .stop)) .stop)) .stop)) .stop)) .stop)) .stop))) (.alt 7 (.fork (.alt 2 (.fork (.alt 3 (.fork (.alt 6 (.fork (.alt 10 (.fork (.alt 11 (.fork (.alt 13 .done .stop)) .stop)) .stop)) .stop)) .stop)) (.alt 3 (.fork (.alt 2 (.fork (.alt 6 (.fork (.alt 10 (.fork (.alt 11 (.fork (.alt 13 .done .stop)) .stop)) .stop)) .stop)) .stop)) .stop))) .stop)))) .stop))))))))))) [1, 2] [] [3] [.set 3 (.one (.ptr ⟨3, [], 0⟩))] [(3, ⟨true, [.own (.sl 1 (h.Memory.map dIntS)), .own (.sl 9 ([])), .own (.sl 4 (h.Buffer.map dEntry)), .own (.sl 4 (h.IoBuffer.map dEntry))]⟩)] ?_
 refine ⟨?_, ?_⟩
 ·repeat' first | exact True.intro | refine And.intro ?_ ?_ | (intro _ _) | refine callL (impl_copyMem_f _).k ?_ | refine appPq ?_ | refine appP ?_ | exact rfl | (refine eqS ?_; simp [*]; done)
 refine len ?_
 refine loopA [2, 3, 19, 20] [] [3] (fun (i : Nat) => [.set 21 (I i)]) (fun (i : Nat) => [(3, ⟨true, [.own (.sl 1 (h.Memory.map dIntS)), .own (.sl 9 ((h.Mons.take i).map dMon)), .own (.sl 4 (h.Buffer.map dEntry)), .own (.sl 4 (h.IoBuffer.map dEntry))]⟩)]) (fun (i : Nat) => i ≤ h.Mons.length) (fun (i : Nat) => h.Mons.length - i) (0) (Nat.zero_le _) ?_
 refine ⟨hda, fun i hyp N1 hN1 => ?_⟩
 have hyp : i ≤ h.Mons.length := hyp
 refine cnd (fun hb => ?_) (fun hb => ?_)
 ·first | refine ixm (by assumption) ?_ | refine bnd ?_ | refine bndi ?_ | refine ixkq (fun y23 hy23 qy23 ly23 => ?_) | refine ixiq (fun y23 hy23 qy23 ly23 => ?_)
  first | refine ixs ?_ | refine ixo (by assumption) ?_ | refine ixoq (fun z1 hz1 qz1 lz1 => ?_) | skip
  refine regU [5, 7] [(0, 0), (1, 0), (2, 0), (3, 1), (4, 1), (5, 1), (6, 0), (7, 1)] ?_
  refine callG (impl_copyMon_f _).k ?_
  first | refine appOq ?_ | refine appO ?_
  refine rng ?_
  refine hN1 _ _ _ ?_
  refine nxa (i + 1) (by omega)
 ·refine hN1 _ _ _ ?_
  exact (by rw [List.take_of_length_le (by omega)]; rfl)
end Go.Proofs.Ytcmoifejjodgcaa.T

namespace Go.Proofs.Ytcmoifejjodgcaa.T
open Go
set_option linter.unusedVariables false
set_option linter.unusedSimpArgs false
set_option maxRecDepth 100000
set_option maxHeartbeats 8000000
instance wlMon (xs : List VMon) : WL (xs.map dMon) := ⟨fun d hd => by obtain ⟨x, _, rfl⟩ := List.mem_map.1 hd; exact inferInstanceAs (WR (dMon x))⟩
end Go.Proofs.Ytcmoifejjodgcaa.T

namespace Go.Proofs.Ytcmoifejjodgcaa
open Go.Shelf
set_option maxRecDepth 100000
def laysMul_ren : Go.Shelf.Ren := ⟨fun | 212 => 71 | 263 => 84 | 264 => 85 | n => n, fun | 46 => 110 | 51 => 140 | 146 => 141 | 53 => 143 | 148 => 144 | n => n, fun | n => n⟩
theorem laysMul : Go.Proofs.Lays.n212 Try.prog laysMul_ren := {
 mixed := by kernel_rfl
 f212 := Try.func71.trans (congrArg some (by kernel_rfl))
 f263 := Try.func84.trans (congrArg some (by kernel_rfl))
 f264 := Try.func85.trans (congrArg some (by kernel_rfl))
 t46 := Try.underlying110
 a46 := Try.isAgg110
 z46 := Try.sizeOf110
 v46 := Try.zeroValue110
 t51 := Try.underlying140
 a51 := Try.isAgg140
 z51 := Try.sizeOf140
 v51 := Try.zeroValue140
 t53 := Try.underlying143
 a53 := Try.isAgg143
 z53 := Try.sizeOf143
 v53 := Try.zeroValue143
 t146 := Try.underlying141
 a146 := Try.isAgg141
 z146 := Try.sizeOf141
 v146 := Try.zeroValue141
 t148 := Try.underlying144
 a148 := Try.isAgg144
 z148 := Try.sizeOf144
 v148 := Try.zeroValue144 }
end Go.Proofs.Ytcmoifejjodgcaa

namespace Go.Proofs.Ytcmoifejjodgcaa.T
open Go
set_option linter.unusedVariables false
set_option linter.unusedSimpArgs false
set_option maxRecDepth 100000
set_option maxHeartbeats 8000000
theorem FunAt.still {P : Program} {f : FuncId} {vs : List Value} {t : TS} {x : Value} {w : World} (hp : freeS t = some x) (h : Calls P f vs.toArray w fun e w' => e = .returned x ∧ w' = w) : FunAt P f (vs.map V) (RP t) w := by
 intro g args k hg hsz hargs
 have ha : args = vs.toArray := by
  apply Array.ext
  ·simpa using hsz
  ·intro i h1 h2
   have h3 : i < vs.length := by simpa using h2
   have := V_inv (hargs i (V vs[i]) args[i] (by simp [h3]) (Array.getElem?_eq_getElem h1))
   simpa using this
 subst ha
 refine h.mono fun e w' ⟨he, hw⟩ => ?_
 subst he
 subst hw
 refine ⟨x, ⟨[], fun _ => t⟩, g, rfl, rfl, ⟨rfl, rfl, rfl, Nat.le_refl _, fun b hb => rfl, fun b h1 h2 => by omega, fun b hb => ?_, fun q d hq => ?_, (freeS_inv hp).2 rfl⟩⟩
 ·rw [hg] at hb
  simp only [allRo] at hb
  split at hb <;> cases hb
 ·simp at hq
theorem bits_Mul_f (n : Nat) (hn : n ≤ 24) : Fun Try.prog 71 [V (.int .u64 1), V (.int .u64 n)] (RP (.tup [.c (.ro (.v (.int .u64 0))), .c (.ro (.v (.int .u64 n)))])) := fun w => by
 have h := Go.Proofs.Any.bits_Mul laysMul 1 n (by omega) (by omega) w
 have e1 : ((1 * n / 18446744073709551616 : Nat) : Int) = 0 := by omega
 have e2 : ((1 * n % 18446744073709551616 : Nat) : Int) = n := by omega
 rw [e1, e2] at h
 exact FunAt.still (vs := [.int .u64 1, .int .u64 n]) rfl h
abbrev dz : D := .st [.v (.int .i64 0), .v (.int .i64 0)]
abbrev repL (s : VSlot) (n k : Nat) : List D := List.replicate k (dSlot s) ++ List.replicate (n - k) dz
theorem repL_one {s : VSlot} {n : Nat} : repL s n 1 = (List.replicate n dz).take 0 ++ [dSlot s].take 1 ++ (List.replicate n dz).drop (0 + 1) := by simp [repL]
theorem repL_next {s : VSlot} {n k m : Nat} (hk : k ≤ n) (hm : m ≤ n - k) (hm2 : m ≤ k) : repL s n (k + m) = (repL s n k).take k ++ (((repL s n k).take k).drop 0).take m ++ (repL s n k).drop (k + m) := by
 have e1 : (repL s n k).take k = List.replicate k (dSlot s) := by simp [repL]
 have e2 : (repL s n k).drop (k + m) = List.replicate (n - (k + m)) dz := by
  simp only [repL, List.drop_append, List.length_replicate]
  rw [List.drop_eq_nil_of_le (by simp), List.nil_append, List.drop_replicate]
  congr 1
  omega
 rw [e1, e2, List.drop_zero, List.take_replicate, Nat.min_eq_left hm2, List.replicate_append_replicate]
theorem repL_end {s : VSlot} {n : Nat} : repL s n n = (List.replicate n s).map dSlot := by simp [repL]
theorem slices_RepeatSlot_f (s : VSlot) (n : Nat) (hn : 1 ≤ n ∧ n ≤ 24) : Fun Try.prog 51 [.one (.c (.ro (.sl 2 [dSlot s]))), I n] (RL 2 ((List.replicate n s).map dSlot)) := by
 refine Fun.w 48 Try.func51 fun w g0 _ => ?_
 refine lenq 1 ?_ rfl
 refine cvu ?_
 refine cvu ?_
 refine callP (bits_Mul_f n (by omega)).k ?_
 refine cnd (fun hb => ?_) (fun hb => ?_)
 ·omega
 ·refine cvs ?_
  refine mkn ?_
  refine cpy 1 (repL s n 1) ?_ (by show 1 = min _ _; simp; omega) (by decide) repL_one
  refine loopA [4, 7, 30] [30] [30] (fun (k : Nat) => [.set 8 (I k)]) (fun (k : Nat) => [(30, ⟨false, [.own (.sl 2 (repL s n k))]⟩)]) (fun (k : Nat) => 1 ≤ k ∧ k ≤ n) (fun (k : Nat) => n - k) (1) (⟨Nat.le_refl _, by omega⟩) ?_
  refine ⟨hda, fun k hypk N1 hN1 => ?_⟩
  have hypk : 1 ≤ k ∧ k ≤ n := hypk
  refine len ?_
  refine cnd (fun hb2 => ?_) (fun hb2 => ?_)
  ·refine regT [7] [7] [] (.quiet 1 0 (.quiet 2 0 (.quiet 3 0 (.quiet 4 0 (.quiet 5 0 (.quiet 6 0 (.quiet 0 1 (.fork (.alt 7 (.quiet 8 0 (.quiet 9 0 .done)) .stop))))))))) ?_
   repeat' first | exact True.intro | refine And.intro ?_ ?_ | (intro _ _) | refine cutO k n ?_ (by omega) (by simp <;> omega) (by omega) (by simp <;> omega) | refine cutO 0 k ?_ (by omega) (by omega) (by omega) (by simp <;> omega) | refine cpy (min k (n - k)) (repL s n (k + min k (n - k))) ?_ (by show _ = min _ _; simp [repL] <;> omega) (by omega) (repL_next (by omega) (by omega) (by omega)) | refine rng ?_
   refine hN1 _ _ _ ?_
   refine nxa (k + min k (n - k)) (by omega)
  ·refine hN1 _ _ _ ?_
   exact (by have hkn : k = n := (by omega); subst hkn; rw [repL_end]; rfl)
end Go.Proofs.Ytcmoifejjodgcaa.T

namespace Go.Proofs.Ytcmoifejjodgcaa.T
open Go
set_option linter.unusedVariables false
set_option linter.unusedSimpArgs false
set_option maxRecDepth 100000
set_option maxHeartbeats 8000000
theorem impl_TableNew_f (n : Nat) (hn : 1 ≤ n ∧ n ≤ 24 := by omega) : Fun Try.prog 29 [I n] (RL 2 ((tableNew n).map dSlot)) := by
 refine Fun.w 8 Try.func29 fun w g0 _ => ?_
 refine callP (impl_NoSlot_f).k ?_
 refine callP (impl_Brought_n hn.2).k ?_
 refine callL (slices_RepeatSlot_f noSlot n hn).k ?_
 exact rfl
theorem spec_KeptNew_f  : Fun Try.prog 37 [I 4] (RG [.a (rKept keptNew)]) := by
 refine Fun.w 11 Try.func37 fun w g0 _ => ?_
 refine callL (spec_TableNew_f 4 (by omega)).k ?_
 refine lenq 4 ?_ rfl
 refine mkn ?_
 exact rfl
theorem impl_KeptNew_f  : Fun Try.prog 31 [I 4] (RG [.a (rKept keptNew)]) := by
 refine Fun.w 9 Try.func31 fun w g0 _ => ?_
 refine regT [6] [] [] (.quiet 0 0 (.quiet 3 0 (.fork (.alt 1 (.fork (.alt 2 (.fork (.alt 4 (.quiet 5 0 (.fork (.alt 6 .done .stop))) .stop)) (.alt 4 (.fork (.alt 2 (.quiet 5 0 (.fork (.alt 6 .done .stop))) .stop)) .stop))) .stop)))) ?_
 repeat' first | exact True.intro | refine And.intro ?_ ?_ | (intro _ _) | refine callP (impl_Brought_n (n := 4) (by omega)).k ?_ | refine mkn ?_ | refine callL (impl_TableNew_f 4 (by omega)).k ?_
 all_goals exact rfl
theorem spec_GuestNew_f (p : List VIns) [Q (SmInsS p)] : Fun Try.prog 36 [L 2 (p.map dIns)] (RG [.a (rGuest (guestNew p))]) := by
 refine Fun.w 9 Try.func36 fun w g0 _ => ?_
 first | refine appPq ?_ | refine appP ?_
 refine callL (spec_TableNew_f 4 (by omega)).k ?_
 refine callL (spec_TableNew_f 4 (by omega)).k ?_
 exact rfl
theorem impl_BareOk_f (b : VBare) : Fun Try.prog 47 [A (rBare b)] (RV (.bool (bareOk b))) := by
 refine Fun.w 36 Try.func47 fun w g0 hM => ?_
 have hl0 := hM.1.2.1.map
 have hl1 := hM.1.2.2.1.map
 refine len ?_
 refine loopA [1, 6, 7] [] [] (fun (i : Nat) => [.set 8 (I i)]) (fun (i : Nat) => []) (fun (i : Nat) => (i ≤ b.Guests.length) ∧ ((b.Guests.take i).all guestOk = true)) (fun (i : Nat) => b.Guests.length - i) (0) (⟨Nat.zero_le _, rfl⟩) ?_
 refine ⟨hda, fun i hyp N1 hN1 => ?_⟩
 have hyp : (i ≤ b.Guests.length) ∧ ((b.Guests.take i).all guestOk = true) := hyp
 have ha := all_dec hyp.2
 refine cnd (fun hb => ?_) (fun hb => ?_)
 ·first | refine ixm (by assumption) ?_ | refine bnd ?_ | refine bndi ?_ | refine ixkq (fun y10 hy10 qy10 ly10 => ?_) | refine ixiq (fun y10 hy10 qy10 ly10 => ?_)
  first | refine ixs ?_ | refine ixo (by assumption) ?_ | refine ixoq (fun z1 hz1 qz1 lz1 => ?_) | skip
  refine callP (impl_GuestOk_f _).k ?_
  refine cnd (fun hb2 => ?_) (fun hb2 => ?_)
  ·refine hN1 _ _ _ ?_
   exact resV (by first | (unfold bareOk; rw [ha.1 _ (by assumption) (by assumption)]; rfl) | (unfold bareOk; rw [ha.2 (by omega)]; simp [*]; done) | (unfold bareOk; rw [ha.2 (by omega)]; refine congrArg Value.bool ?_; rw [Bool.eq_iff_iff]; simp [*]; omega) | (unfold bareOk; rw [ha.2 (by omega)]; refine congrArg Value.bool ?_; symm; rw [Bool.eq_false_iff]; intro e; simp only [Bool.and_eq_true, decide_eq_true_eq] at e; omega))
  ·refine rng ?_
   refine hN1 _ _ _ ?_
   refine nxa (i + 1) (⟨by omega, all_next hyp.2 (by assumption) (by first | assumption | exact decide_eq_false (by omega) | exact decide_eq_true (by omega))⟩)
 ·refine hN1 _ _ _ ?_
  refine callP (impl_MemOk_f _ _).k ?_
  refine cnd (fun hg3 => ?_) (fun hg3 => ?_)
  ·refine len ?_
   refine callP (impl_within_f _ _ _).k ?_
   refine cnd (fun hg9 => ?_) (fun hg9 => ?_)
   ·refine len ?_
    refine cnd (fun hg15 => ?_) (fun hg15 => ?_)
    ·refine callP (impl_PendOk_f _).k ?_
     exact resV (by first | (unfold bareOk; rw [ha.1 _ (by assumption) (by assumption)]; rfl) | (unfold bareOk; rw [ha.2 (by omega)]; simp [*]; done) | (unfold bareOk; rw [ha.2 (by omega)]; refine congrArg Value.bool ?_; rw [Bool.eq_iff_iff]; simp [*]; omega) | (unfold bareOk; rw [ha.2 (by omega)]; refine congrArg Value.bool ?_; symm; rw [Bool.eq_false_iff]; intro e; simp only [Bool.and_eq_true, decide_eq_true_eq] at e; omega))
    ·exact resV (by first | (unfold bareOk; rw [ha.1 _ (by assumption) (by assumption)]; rfl) | (unfold bareOk; rw [ha.2 (by omega)]; simp [*]; done) | (unfold bareOk; rw [ha.2 (by omega)]; refine congrArg Value.bool ?_; rw [Bool.eq_iff_iff]; simp [*]; omega) | (unfold bareOk; rw [ha.2 (by omega)]; refine congrArg Value.bool ?_; symm; rw [Bool.eq_false_iff]; intro e; simp only [Bool.and_eq_true, decide_eq_true_eq] at e; omega))
   ·exact resV (by first | (unfold bareOk; rw [ha.1 _ (by assumption) (by assumption)]; rfl) | (unfold bareOk; rw [ha.2 (by omega)]; simp [*]; done) | (unfold bareOk; rw [ha.2 (by omega)]; refine congrArg Value.bool ?_; rw [Bool.eq_iff_iff]; simp [*]; omega) | (unfold bareOk; rw [ha.2 (by omega)]; refine congrArg Value.bool ?_; symm; rw [Bool.eq_false_iff]; intro e; simp only [Bool.and_eq_true, decide_eq_true_eq] at e; omega))
  ·exact resV (by first | (unfold bareOk; rw [ha.1 _ (by assumption) (by assumption)]; rfl) | (unfold bareOk; rw [ha.2 (by omega)]; simp [*]; done) | (unfold bareOk; rw [ha.2 (by omega)]; refine congrArg Value.bool ?_; rw [Bool.eq_iff_iff]; simp [*]; omega) | (unfold bareOk; rw [ha.2 (by omega)]; refine congrArg Value.bool ?_; symm; rw [Bool.eq_false_iff]; intro e; simp only [Bool.and_eq_true, decide_eq_true_eq] at e; omega))
end Go.Proofs.Ytcmoifejjodgcaa.T

namespace Go.Proofs.Ytcmoifejjodgcaa.T
open Go
set_option linter.unusedVariables false
set_option linter.unusedSimpArgs false
set_option maxRecDepth 100000
set_option maxHeartbeats 8000000
def monGo (ps : List (List VIns)) (i : Nat) : VMon := ⟨tableNew 8, memNew 8, List.replicate 8 false, (ps.take i).map guestNew, [], 0, 0, List.replicate i keptNew, 0⟩
theorem monGo_end {ps : List (List VIns)} {i : Nat} (h : i = min ps.length 2) : monGo ps i = monNew ps := by
 have e : ps.take i = ps.take 2 := by
  subst h
  rcases Nat.le_total ps.length 2 with h | h
  ·rw [Nat.min_eq_left h, List.take_of_length_le (Nat.le_refl _), List.take_of_length_le h]
  ·rw [Nat.min_eq_right h]
 unfold monGo monNew
 rw [e]
 congr 1
 rw [List.map_const', List.length_take, h, Nat.min_comm]
end Go.Proofs.Ytcmoifejjodgcaa.T

