
import Derived.Test.YteelmdpahpggkaaGreatOfp
import Derived.Test.YteelmdpahpggkaaGreatLbp
import Derived.Test.YteelmdpahpggkaaGreatOcp
namespace Go.Proofs.YteelmdpahpggkaaGreat.T
open Go
set_option linter.unusedVariables false
set_option linter.unusedSimpArgs false
set_option maxRecDepth 100000
set_option maxHeartbeats 8000000
theorem sm_land {h : VHost} {x : VMon} (hh : SmHost h) (hx : SmMon x) : SmHost ((land h x).getD h) := by
 unfold land
 split
 ·rename_i hc
  simp only [Bool.and_eq_true, decide_eq_true_eq] at hc
  refine ⟨hh.1, ⟨?_, ?_⟩, hh.2.2⟩
  ·simp only [Option.getD_some, List.length_append, List.length_cons, List.length_nil]; omega
  ·intro y hy
   rcases List.mem_append.1 hy with hy | hy
   ·exact hh.2.1.2 y hy
   ·rw [List.mem_singleton.1 hy]; exact hx
 ·exact hh
theorem cnt_land (h : VHost) (x : VMon) : cntVHost ((land h x).getD h) ≤ cntVHost h + cntVMon x + 3 := by
 have h0 := cntVMon_nn x
 unfold land
 split
 ·simp only [Option.getD_some, cntVHost, cntMonS, cntFold_app, cntFold]
  simp only [cntEMon, cntVMon] at *
  omega
 ·show cntVHost h ≤ _
  omega
instance (h : VHost) (x : VMon) [hh : Q (SmHost h)] [hx : Q (SmMon x)] : Q (SmHost ((land h x).getD h)) := ⟨sm_land hh.h hx.h⟩
theorem copy_cons {a : Int} {l : List Int} {h : VHost} {v : VMove} : copyAll h v (a :: l) = copyAll (mcH h v a) (mcV h v a) l := by
 rw [copyAll]
 unfold mcH mcV
 cases moveCopy h v a <;> rfl
theorem copy_snoc {p : Int} : ∀ {l : List Int} {h : VHost} {v : VMove}, copyAll h v (l ++ [p]) = (mcH (copyAll h v l).1 (copyAll h v l).2 p, mcV (copyAll h v l).1 (copyAll h v l).2 p)
 | [], h, v => by
  rw [List.nil_append, copy_cons]
  rfl
 | a :: l, h, v => by
  rw [List.cons_append, copy_cons, copy_cons]
  exact copy_snoc
abbrev cqTo (a : VHost) (m : Int) (l : List Int) (i : Nat) : VHost × VMove := copyAll a (moveNew m) (l.take i)
theorem cq_step {a : VHost} {m p : Int} {l : List Int} {i : Nat} (hp : l[i]? = some p) : cqTo a m l (i + 1) = (mcH (cqTo a m l i).1 (cqTo a m l i).2 p, mcV (cqTo a m l i).1 (cqTo a m l i).2 p) := by
 unfold cqTo
 rw [List.take_add_one, hp]
 exact copy_snoc
theorem sm_copyAll : ∀ {l : List Int} {h : VHost} {v : VMove}, SmHost h → SmMove v → SmHost (copyAll h v l).1 ∧ SmMove (copyAll h v l).2
 | [], h, v, hh, hv => ⟨hh, hv⟩
 | p :: l, h, v, hh, hv => by
  have h1 := sm_mcH (v := v) (p := p) hh
  have h2 := sm_mcV (p := p) hh hv
  unfold mcH at h1
  unfold mcV at h2
  rw [copyAll]
  cases e : moveCopy h v p with
  | none => exact sm_copyAll hh hv
  | some q =>
   rw [e] at h1 h2
   exact sm_copyAll h1 h2
theorem sm_moveNew (m : Int) : SmMove (moveNew m) := ⟨by simp [moveNew], fun x hx => by rw [List.eq_of_mem_replicate hx]; simp [SmIntS]⟩
instance (a : VHost) (m : Int) (l : List Int) (i : Nat) [hh : Q (SmHost a)] : Q (SmHost (cqTo a m l i).1) := ⟨(sm_copyAll hh.h (sm_moveNew m)).1⟩
instance (a : VHost) (m : Int) (l : List Int) (i : Nat) [hh : Q (SmHost a)] : Q (SmMove (cqTo a m l i).2) := ⟨(sm_copyAll hh.h (sm_moveNew m)).2⟩
theorem ma_no {a b : VHost} {m : Int} {l : List Int} {i : Nat} (hi : l.length ≤ i) (h : (moveImage (cqTo a m l i).1 (cqTo a m l i).2).isSome = false ∨ (land b ((moveImage (cqTo a m l i).1 (cqTo a m l i).2).getD noMon)).isSome = false) : moveAll a b m l = none := by
 unfold moveAll
 unfold cqTo at h
 rw [List.take_of_length_le hi] at h
 simp only
 cases e : moveImage (copyAll a (moveNew m) l).1 (copyAll a (moveNew m) l).2 with
 | none => rfl
 | some x =>
  rw [e] at h
  rcases h with h | h
  ·cases h
  ·have h : (land b x).isSome = false := h
   simp only
   cases e2 : land b x with
   | none => rfl
   | some t => rw [e2] at h; cases h
theorem ma_yes {a b : VHost} {m : Int} {l : List Int} {i : Nat} (hi : l.length ≤ i) (h1 : (moveImage (cqTo a m l i).1 (cqTo a m l i).2).isSome = true) (h2 : (land b ((moveImage (cqTo a m l i).1 (cqTo a m l i).2).getD noMon)).isSome = true) :
  moveAll a b m l = some ((fence (cqTo a m l i).1 m).getD (cqTo a m l i).1, (land b ((moveImage (cqTo a m l i).1 (cqTo a m l i).2).getD noMon)).getD b, (b.Mons.length : Int)) := by
 unfold moveAll
 unfold cqTo at h1 h2 ⊢
 rw [List.take_of_length_le hi] at h1 h2 ⊢
 simp only
 cases e : moveImage (copyAll a (moveNew m) l).1 (copyAll a (moveNew m) l).2 with
 | none => rw [e] at h1; cases h1
 | some x =>
  rw [e] at h2
  have h2 : (land b x).isSome = true := h2
  show (match land b x with | none => none | some t => some ((fence (copyAll a (moveNew m) l).1 m).getD (copyAll a (moveNew m) l).1, t, (b.Mons.length : Int))) = _
  show _ = some (_, (land b x).getD b, _)
  cases e2 : land b x with
  | none => rw [e2] at h2; cases h2
  | some t => rfl
theorem landN_yes {b : VHost} {x : VMon} (h : (land b x).isSome = true) : landN b x = b.Mons.length := by unfold landN; rw [if_pos h]
instance (h : VHost) (v : VMove) [hh : Q (SmHost h)] [hv : Q (SmMove v)] : Q (SmMon ((moveImage h v).getD noMon)) := ⟨sm_image hh.h hv.h⟩
theorem impl_MoveNew_f (m : Int) : Fun Tryz.prog 149 [I m] (RG [.a (rMove (moveNew m))]) := by
 refine Fun.w 6 Tryz.func149 fun w g0 _ => ?_
 refine mkw 8 ?_
 exact rfl
theorem spec_MoveNew_f (m : Int) : Fun Tryz.prog 148 [I m] (RG [.a (rMove (moveNew m))]) := by
 refine Fun.w 18 Tryz.func148 fun w g0 _ => ?_
 refine loopA [2, 3] [] [3, 6] (fun (i : Nat) => [.set 4 (I i)]) (fun (i : Nat) => [(3, ⟨true, [.own (.v (.int .i64 m)), .own (.sl 1 ((List.replicate i ([] : List Int)).map dIntS))]⟩)]) (fun (i : Nat) => i ≤ 8) (fun (i : Nat) => 8 - i) (0) (Nat.zero_le _) ?_
 refine ⟨hda, fun i hyp N1 hN1 => ?_⟩
 have hyp : i ≤ 8 := hyp
 refine cnd (fun hb => ?_) (fun hb => ?_)
 ·first | refine appOq ?_ | refine appO ?_
  refine rng ?_
  refine hN1 _ _ _ ?_
  refine nxa (i + 1) (by omega) (by repeat' first | exact rfl | refine And.intro ?_ ?_ | exact True.intro | (refine eqS ?_; rw [List.replicate_succ', List.map_append]; rfl))
 ·refine hN1 _ _ _ ?_
  exact (by obtain rfl : i = 8 := (by omega); rfl)
theorem impl_MoveAll_f (a : VHost) (b : VHost) (m : Int) (l : List Int) [Q (SmHost a)] [Q (SmHost b)] [Q (SmIntS l)] : Fun Tryz.prog 44 [A (rHost a), A (rHost b), I m, L 1 (l.map dInt)] (RG [.a (rHost (((moveAll a b m l).map fun q => q.1).getD a)), .a (rHost (((moveAll a b m l).map fun q => q.2.1).getD b)), .c (.v (.int .i64 (((moveAll a b m l).map fun q => q.2.2).getD (-1)))), .c (.v (.bool (moveAll a b m l).isSome))]) := by
 refine Fun.w 72 Tryz.func44 fun w g0 _ => ?_
 refine callG (impl_copyHost_f a).k ?_
 refine callG (impl_MoveNew_f m).k ?_
 refine len ?_
 refine loopA [2, 4, 5, 8, 9, 10, 11, 12, 13, 25, 26] [] [12, 13, 22, 24] (fun (i : Nat) => [.set 27 (I i)]) (fun (i : Nat) => [(12, ⟨true, [.own (.sl 1 ((cqTo a m l i).1.Memory.map dIntS)), .own (.sl 9 ((cqTo a m l i).1.Mons.map dMon)), .own (.sl 4 ((cqTo a m l i).1.Buffer.map dEntry)), .own (.sl 4 ((cqTo a m l i).1.IoBuffer.map dEntry))]⟩), (13, ⟨true, [.own (.v (.int .i64 (cqTo a m l i).2.M)), .own (.sl 1 ((cqTo a m l i).2.Have.map dIntS))]⟩)]) (fun (i : Nat) => i ≤ l.length) (fun (i : Nat) => l.length - i) (0) (Nat.zero_le _) ?_
 refine ⟨hda, fun i hyp N1 hN1 => ?_⟩
 have hyp : i ≤ l.length := hyp
 have hll := (inferInstance : LenX l 1048576).h
 refine cnd (fun hb => ?_) (fun hb => ?_)
 ·obtain ⟨p, hp⟩ : ∃ p, l[i]? = some p := ⟨_, List.getElem?_eq_getElem (by omega)⟩
  first | refine ixm (by assumption) ?_ | refine bnd ?_ | refine bndi ?_ | refine ixkq (fun y29 hy29 qy29 ly29 => ?_) | refine ixiq (fun y29 hy29 qy29 ly29 => ?_)
  first | refine ixs ?_ | refine ixo (by assumption) ?_ | refine ixoq (fun z1 hz1 qz1 lz1 => ?_) | skip
  refine callG (impl_MoveCopy_f (cqTo a m l i).1 (cqTo a m l i).2 p).k ?_
  refine rng ?_
  refine hN1 _ _ _ ?_
  refine nxa (i + 1) (by omega) (by repeat' first | exact rfl | refine And.intro ?_ ?_ | exact True.intro | (refine eqS ?_; rw [cq_step hp]; done) | (refine eqS ?_; rw [cq_step hp]; rfl))
 ·refine hN1 _ _ _ ?_
  refine callG (impl_MoveImage_f (cqTo a m l i).1 (cqTo a m l i).2).k ?_
  refine callG (impl_Land_f b ((moveImage (cqTo a m l i).1 (cqTo a m l i).2).getD noMon)).k ?_
  refine cnd (fun hg2 => ?_) (fun hg2 => ?_)
  ·refine regU [4, 5] [(0, 0), (2, 0), (1, 1), (3, 1), (4, 1), (5, 1), (6, 0), (7, 0)] ?_
   refine callG (impl_copyHost_f a).k ?_
   refine callG (impl_copyHost_f b).k ?_
   exact (by rw [ma_no (i := i) (by omega) (by first | (left; assumption) | (right; assumption))]; rfl)
  ·refine cnd (fun hb2 => ?_) (fun hb2 => ?_)
   ·refine regU [4, 5] [(0, 0), (2, 0), (1, 1), (3, 1), (4, 1), (5, 1), (6, 0), (7, 0)] ?_
    refine callG (impl_copyHost_f a).k ?_
    refine callG (impl_copyHost_f b).k ?_
    exact (by rw [ma_no (i := i) (by omega) (by first | (left; assumption) | (right; assumption))]; rfl)
   ·refine callG (impl_Fence_f (cqTo a m l i).1 m).k ?_
    refine regT [0, 1, 2, 3, 4] [] [] (.fork (.alt 0 (.fork (.alt 1 (.fork (.alt 2 (.fork (.alt 3 (.fork (.alt 4 (.quiet 5 0 (.quiet 6 0 .done)) .stop)) .stop)) (.alt 3 (.fork (.alt 2 (.fork (.alt 4 (.quiet 5 0 (.quiet 6 0 .done)) .stop)) (.alt 4 (.fork (.alt 2 (.quiet 5 0 (.quiet 6 0 .done)) .stop)) .stop))) .stop))) (.alt 2 (.fork (.alt 1 (.fork (.alt 3 (.fork (.alt 4 (.quiet 5 0 (.quiet 6 0 .done)) .stop)) .stop)) (.alt 3 (.fork (.alt 1 (.fork (.alt 4 (.quiet 5 0 (.quiet 6 0 .done)) .stop)) .stop)) .stop))) (.alt 3 (.fork (.alt 1 (.fork (.alt 2 (.fork (.alt 4 (.quiet 5 0 (.quiet 6 0 .done)) .stop)) (.alt 4 (.fork (.alt 2 (.quiet 5 0 (.quiet 6 0 .done)) .stop)) .stop))) (.alt 2 (.fork (.alt 1 (.fork (.alt 4 (.quiet 5 0 (.quiet 6 0 .done)) .stop)) .stop)) .stop))) .stop)))) (.alt 1 (.fork (.alt 0 (.fork (.alt 2 (.fork (.alt 3 (.fork (.alt 4 (.quiet 5 0 (.quiet 6 0 .done)) .stop)) .stop)) (.alt 3 (.fork (.alt 2 (.fork (.alt 4 (.quiet 5 0 (.quiet 6 0 .done)) .stop)) (.alt 4 (.fork (.alt 2 (.quiet 5 0 (.quiet 6 0 .done)) .stop)) .stop))) .stop))) (.alt 2 (.fork (.alt 0 (.fork (.alt 3 (.fork (.alt 4 (.quiet 5 0 (.quiet 6 0 .done)) .stop)) .stop)) .stop)) .stop))) (.alt 2 (.fork (.alt 0 (.fork (.alt 1 (.fork (.alt 3 (.fork (.alt 4 (.quiet 5 0 (.quiet 6 0 .done)) .stop)) .stop)) (.alt 3 (.fork (.alt 1 (.fork (.alt 4 (.quiet 5 0 (.quiet 6 0 .done)) .stop)) .stop)) .stop))) (.alt 1 (.fork (.alt 0 (.fork (.alt 3 (.fork (.alt 4 (.quiet 5 0 (.quiet 6 0 .done)) .stop)) .stop)) .stop)) .stop))) .stop)))) ?_
    repeat' first | exact True.intro | refine And.intro ?_ ?_ | (intro _ _)
    all_goals exact (by rw [ma_yes (i := i) (by omega) (by assumption) (by assumption)]; first | rfl | (rw [landN_yes (by assumption)]; rfl))
theorem spec_MoveAll_f (a : VHost) (b : VHost) (m : Int) (l : List Int) [Q (SmHost a)] [Q (SmHost b)] [Q (SmIntS l)] : Fun Tryz.prog 42 [A (rHost a), A (rHost b), I m, L 1 (l.map dInt)] (RG [.a (rHost (((moveAll a b m l).map fun q => q.1).getD a)), .a (rHost (((moveAll a b m l).map fun q => q.2.1).getD b)), .c (.v (.int .i64 (((moveAll a b m l).map fun q => q.2.2).getD (-1)))), .c (.v (.bool (moveAll a b m l).isSome))]) := by
 refine Fun.w 75 Tryz.func42 fun w g0 _ => ?_
 refine callG (spec_l21Copy_f a).k ?_
 refine callG (spec_l21Copy_f a).k ?_
 refine callG (spec_MoveNew_f m).k ?_
 refine loopA [2, 3, 4, 5, 8, 9, 10, 11, 12, 13] [] [4, 13, 23, 25] (fun (i : Nat) => [.set 14 (I i)]) (fun (i : Nat) => [(4, ⟨true, [.own (.sl 1 ((cqTo a m l i).1.Memory.map dIntS)), .own (.sl 9 ((cqTo a m l i).1.Mons.map dMon)), .own (.sl 4 ((cqTo a m l i).1.Buffer.map dEntry)), .own (.sl 4 ((cqTo a m l i).1.IoBuffer.map dEntry))]⟩), (13, ⟨true, [.own (.v (.int .i64 (cqTo a m l i).2.M)), .own (.sl 1 ((cqTo a m l i).2.Have.map dIntS))]⟩)]) (fun (i : Nat) => i ≤ l.length) (fun (i : Nat) => l.length - i) (0) (Nat.zero_le _) ?_
 refine ⟨hda, fun i hyp N1 hN1 => ?_⟩
 have hyp : i ≤ l.length := hyp
 have hll := (inferInstance : LenX l 1048576).h
 refine len ?_
 refine cnd (fun hb => ?_) (fun hb => ?_)
 ·obtain ⟨p, hp⟩ : ∃ p, l[i]? = some p := ⟨_, List.getElem?_eq_getElem (by omega)⟩
  refine regT [8, 9, 10, 11, 12] [] [] (.quiet 0 0 (.quiet 1 0 (.quiet 2 0 (.quiet 3 0 (.quiet 4 0 (.quiet 5 0 (.fork (.alt 6 (.quiet 7 0 (.fork (.alt 8 (.fork (.alt 9 (.fork (.alt 10 (.fork (.alt 11 (.fork (.alt 12 .done .stop)) .stop)) (.alt 11 (.fork (.alt 10 (.fork (.alt 12 .done .stop)) (.alt 12 (.fork (.alt 10 .done .stop)) .stop))) .stop))) (.alt 10 (.fork (.alt 9 (.fork (.alt 11 (.fork (.alt 12 .done .stop)) .stop)) (.alt 11 (.fork (.alt 9 (.fork (.alt 12 .done .stop)) .stop)) .stop))) (.alt 11 (.fork (.alt 9 (.fork (.alt 10 (.fork (.alt 12 .done .stop)) (.alt 12 (.fork (.alt 10 .done .stop)) .stop))) (.alt 10 (.fork (.alt 9 (.fork (.alt 12 .done .stop)) .stop)) .stop))) .stop)))) (.alt 9 (.fork (.alt 8 (.fork (.alt 10 (.fork (.alt 11 (.fork (.alt 12 .done .stop)) .stop)) (.alt 11 (.fork (.alt 10 (.fork (.alt 12 .done .stop)) (.alt 12 (.fork (.alt 10 .done .stop)) .stop))) .stop))) (.alt 10 (.fork (.alt 8 (.fork (.alt 11 (.fork (.alt 12 .done .stop)) .stop)) .stop)) .stop))) (.alt 10 (.fork (.alt 8 (.fork (.alt 9 (.fork (.alt 11 (.fork (.alt 12 .done .stop)) .stop)) (.alt 11 (.fork (.alt 9 (.fork (.alt 12 .done .stop)) .stop)) .stop))) (.alt 9 (.fork (.alt 8 (.fork (.alt 11 (.fork (.alt 12 .done .stop)) .stop)) .stop)) .stop))) .stop))))) .stop)))))))) ?_
  repeat' first | exact True.intro | refine And.intro ?_ ?_ | (intro _ _) | refine ixm (by assumption) ?_ | refine bnd ?_ | refine bndi ?_ | refine ixkq (fun y37 hy37 qy37 ly37 => ?_) | refine ixiq (fun y37 hy37 qy37 ly37 => ?_) | refine ixs ?_ | refine ixo (by assumption) ?_ | refine ixoq (fun z1 hz1 qz1 lz1 => ?_) | refine callG (spec_MoveCopy_f (cqTo a m l i).1 (cqTo a m l i).2 p).k ?_
  all_goals (
   refine rng ?_
   refine hN1 _ _ _ ?_
   refine nxa (i + 1) (by omega) (by repeat' first | exact rfl | refine And.intro ?_ ?_ | exact True.intro | (refine eqS ?_; rw [cq_step hp]; done) | (refine eqS ?_; rw [cq_step hp]; rfl)))
 ·refine hN1 _ _ _ ?_
  refine callG (spec_MoveImage_f (cqTo a m l i).1 (cqTo a m l i).2).k ?_
  refine cnd (fun hb2 => ?_) (fun hb2 => ?_)
  ·refine regU [3, 4] [(0, 0), (1, 0), (2, 1), (3, 1), (4, 1), (5, 0), (6, 0)] ?_
   refine callG (spec_l21Copy_f b).k ?_
   exact (by rw [ma_no (i := i) (by omega) (by first | (left; assumption) | (right; assumption))]; rfl)
  ·refine callG (spec_Land_f b ((moveImage (cqTo a m l i).1 (cqTo a m l i).2).getD noMon)).k ?_
   refine cnd (fun hb3 => ?_) (fun hb3 => ?_)
   ·refine regU [3, 4] [(0, 0), (1, 0), (2, 1), (3, 1), (4, 1), (5, 0), (6, 0)] ?_
    refine callG (spec_l21Copy_f b).k ?_
    exact (by rw [ma_no (i := i) (by omega) (by first | (left; assumption) | (right; assumption))]; rfl)
   ·refine callG (spec_Fence_f (cqTo a m l i).1 m).k ?_
    refine regT [0, 1, 2, 3, 4] [] [] (.fork (.alt 0 (.fork (.alt 1 (.fork (.alt 2 (.fork (.alt 3 (.fork (.alt 4 (.quiet 5 0 (.quiet 6 0 .done)) .stop)) .stop)) (.alt 3 (.fork (.alt 2 (.fork (.alt 4 (.quiet 5 0 (.quiet 6 0 .done)) .stop)) (.alt 4 (.fork (.alt 2 (.quiet 5 0 (.quiet 6 0 .done)) .stop)) .stop))) .stop))) (.alt 2 (.fork (.alt 1 (.fork (.alt 3 (.fork (.alt 4 (.quiet 5 0 (.quiet 6 0 .done)) .stop)) .stop)) (.alt 3 (.fork (.alt 1 (.fork (.alt 4 (.quiet 5 0 (.quiet 6 0 .done)) .stop)) .stop)) .stop))) (.alt 3 (.fork (.alt 1 (.fork (.alt 2 (.fork (.alt 4 (.quiet 5 0 (.quiet 6 0 .done)) .stop)) (.alt 4 (.fork (.alt 2 (.quiet 5 0 (.quiet 6 0 .done)) .stop)) .stop))) (.alt 2 (.fork (.alt 1 (.fork (.alt 4 (.quiet 5 0 (.quiet 6 0 .done)) .stop)) .stop)) .stop))) .stop)))) (.alt 1 (.fork (.alt 0 (.fork (.alt 2 (.fork (.alt 3 (.fork (.alt 4 (.quiet 5 0 (.quiet 6 0 .done)) .stop)) .stop)) (.alt 3 (.fork (.alt 2 (.fork (.alt 4 (.quiet 5 0 (.quiet 6 0 .done)) .stop)) (.alt 4 (.fork (.alt 2 (.quiet 5 0 (.quiet 6 0 .done)) .stop)) .stop))) .stop))) (.alt 2 (.fork (.alt 0 (.fork (.alt 3 (.fork (.alt 4 (.quiet 5 0 (.quiet 6 0 .done)) .stop)) .stop)) .stop)) .stop))) (.alt 2 (.fork (.alt 0 (.fork (.alt 1 (.fork (.alt 3 (.fork (.alt 4 (.quiet 5 0 (.quiet 6 0 .done)) .stop)) .stop)) (.alt 3 (.fork (.alt 1 (.fork (.alt 4 (.quiet 5 0 (.quiet 6 0 .done)) .stop)) .stop)) .stop))) (.alt 1 (.fork (.alt 0 (.fork (.alt 3 (.fork (.alt 4 (.quiet 5 0 (.quiet 6 0 .done)) .stop)) .stop)) .stop)) .stop))) .stop)))) ?_
    repeat' first | exact True.intro | refine And.intro ?_ ?_ | (intro _ _)
    all_goals exact (by rw [ma_yes (i := i) (by omega) (by assumption) (by assumption)]; first | rfl | (rw [landN_yes (by assumption)]; rfl))
end Go.Proofs.YteelmdpahpggkaaGreat.T

namespace Go.Proofs.YteelmdpahpggkaaGreat.T
open Go
set_option linter.unusedVariables false
set_option linter.unusedSimpArgs false
set_option maxRecDepth 100000
set_option maxHeartbeats 8000000
theorem cap_EntryS {xs : List VEntry} (h : SmEntryS xs) : cntEntryS xs ≤ 4194304 := by
 have := cntFold_cap (c := cntEEntry) (N := 4) (by decide) (fun x _ => by simp [cntEEntry]) h
 unfold cntEntryS
 omega
theorem cap_Host3 {r : VHost} (h : SmHost r) (h3 : r.Mons.length ≤ 3) : cntVHost r ≤ 400000000000000 := by
 have h1 := cap_IntSS h.1
 have h2 : cntMonS r.Mons ≤ 100000000000003 * r.Mons.length := cntFold_most (c := cntEMon) fun x hx => by
  have := cap_Mon (h.2.1.2 x hx)
  unfold cntVMon at this
  unfold cntEMon
  omega
 have h4 := cap_EntryS h.2.2.1
 have h5 := cap_EntryS h.2.2.2
 have h6 : (100000000000003 : Int) * r.Mons.length ≤ 100000000000003 * 3 := Int.mul_le_mul_of_nonneg_left (by omega) (by decide)
 unfold cntVHost
 omega
theorem host_three {h : VHost} (hh : hostOk h = true) : h.Mons.length ≤ 3 := by
 simp only [hostOk, Bool.and_eq_true, decide_eq_true_eq] at hh
 omega
theorem sm_haltAll {h : VHost} {m : Nat} (hh : SmHost h) : SmHost (haltAll h m) := by
 have hx : SmMon (mon h m) := by
  unfold mon
  cases h1 : h.Mons[m]? with
  | none => exact ⟨by simp [SmSlotS], ⟨by simp, fun x hx => by cases hx⟩, by simp [SmBoolS], ⟨by simp, fun x hx => by cases hx⟩, by simp [SmIntS], ⟨by simp, fun x hx => by cases hx⟩⟩
  | some x => exact hh.2.1.2 x (List.mem_of_getElem? h1)
 refine ⟨hh.1, ⟨by show (h.Mons.set _ _).length ≤ _; rw [List.length_set]; exact hh.2.1.1, fun y hy => ?_⟩, hh.2.2⟩
 rcases List.mem_or_eq_of_mem_set hy with hy | rfl
 ·exact hh.2.1.2 y hy
 ·refine ⟨hx.1, hx.2.1, hx.2.2.1, ⟨by simpa using hx.2.2.2.1.1, fun g hg => ?_⟩, hx.2.2.2.2⟩
  obtain ⟨g0, hg0, rfl⟩ := List.mem_map.1 hg
  exact hx.2.2.2.1.2 g0 hg0
abbrev fenR (h : VHost) (m : Int) : VHost := (fence h m).getD h
theorem sm_fence {h : VHost} {m : Int} (hh : SmHost h) : SmHost (fenR h m) := by
 cases hm : hasMon h m with
 | false => unfold fenR; rw [fence_no hm]; exact hh
 | true => unfold fenR; rw [fence_yes hm]; exact sm_haltAll (sm_outTo hh 8)
end Go.Proofs.YteelmdpahpggkaaGreat.T

