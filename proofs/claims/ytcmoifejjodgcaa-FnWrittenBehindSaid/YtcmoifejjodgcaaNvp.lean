
import Derived.Test.YtcmoifejjodgcaaNpp
namespace Go.Proofs.Ytcmoifejjodgcaa.T
open Go
set_option linter.unusedVariables false
set_option linter.unusedSimpArgs false
set_option maxRecDepth 100000
set_option maxHeartbeats 8000000
theorem monAt_out {h : VHost} {m : Int} (hm : ¬ (0 ≤ m ∧ m < h.Mons.length)) : monAt h m = none := at_out hm
theorem monAt_in {h : VHost} {m : Int} {x : VMon} (h0 : 0 ≤ m) (hx : h.Mons[m.toNat]? = some x) : monAt h m = some x := at_in h0 hx
theorem pageOf_off {h : VHost} {m n : Int} (hm : ¬ (0 ≤ m ∧ m < h.Mons.length) ∨ ¬ (0 ≤ n ∧ n ≤ 7)) : pageOf h m n = [0, 0, 0, 0] := by
 unfold pageOf
 by_cases h1 : 0 ≤ m ∧ m < h.Mons.length
 ·have h2 : ¬ (0 ≤ n ∧ n ≤ 7) := hm.resolve_left (fun h => h h1)
  cases monAt h m with
  | none => rfl
  | some x => simp only [if_neg h2]
 ·rw [monAt_out h1]
theorem pageOf_at {h : VHost} {m n : Int} {x : VMon} (h0 : 0 ≤ m) (hx : h.Mons[m.toNat]? = some x) (hn : 0 ≤ n ∧ n ≤ 7) : pageOf h m n = if (slotAt x.Outer n).Page ≠ -1 then pageAt h.Memory (slotAt x.Outer n).Page else pageAt x.Out n := by
 unfold pageOf
 rw [monAt_in h0 hx]
 simp only [if_pos hn]
theorem pageOf_in {h : VHost} {m n : Int} {x : VMon} (h0 : 0 ≤ m) (hx : h.Mons[m.toNat]? = some x) (hn : 0 ≤ n ∧ n ≤ 7) (hp : ¬ (slotAt x.Outer n).Page = -1) : pageOf h m n = pageAt h.Memory (slotAt x.Outer n).Page := by rw [pageOf_at h0 hx hn, if_pos hp]
theorem pageOf_out {h : VHost} {m n : Int} {x : VMon} (h0 : 0 ≤ m) (hx : h.Mons[m.toNat]? = some x) (hn : 0 ≤ n ∧ n ≤ 7) (hp : (slotAt x.Outer n).Page = -1) : pageOf h m n = pageAt x.Out n := by rw [pageOf_at h0 hx hn, if_neg (by simpa using hp)]
theorem left_none {h : VHost} {v : VMove} (hm : monAt h v.M = none ∨ ¬ v.Have.length = 8) : moveLeft h v = [] := by
 unfold moveLeft
 cases h1 : monAt h v.M with
 | none => rfl
 | some x => rw [h1] at hm; simp only [reduceCtorEq, false_or] at hm; simp only [if_neg hm]
theorem left_some {h : VHost} {v : VMove} {x : VMon} (hx : monAt h v.M = some x) (hv : v.Have.length = 8) : moveLeft h v = rangeF (leftAt x v) 8 := by
 unfold moveLeft
 rw [hx]
 simp only [if_pos hv]
abbrev monOr (h : VHost) (m : Int) : VMon := (monAt h m).getD noMon
theorem monOr_some {h : VHost} {m : Int} (hs : (monAt h m).isSome = true) : monAt h m = some (monOr h m) := by
 cases h1 : monAt h m with
 | none => rw [h1] at hs; cases hs
 | some x => simp [monOr, h1]
theorem left_at {x : VMon} {v : VMove} {i : Nat} {r : List Int} (hr : v.Have[i]? = some r) : leftAt x v i = (decide (r.length = 0) || x.Dirty[i]?.getD false) := by unfold leftAt; rw [hr]; rfl
theorem left_1 {x : VMon} {v : VMove} {i : Nat} {r : List Int} (hr : v.Have[i]? = some r) (h : r.length = 0) : leftAt x v i = true := by rw [left_at hr, decide_eq_true h]; rfl
theorem left_2 {x : VMon} {v : VMove} {i : Nat} {r : List Int} {d : Bool} (hr : v.Have[i]? = some r) (h : ¬ r.length = 0) (hd : x.Dirty[i]? = some d) : leftAt x v i = d := by rw [left_at hr, decide_eq_false h, hd]; rfl
theorem left_3 {x : VMon} {v : VMove} {i : Nat} {r : List Int} (hr : v.Have[i]? = some r) (h : ¬ r.length = 0) (hd : ¬ i < x.Dirty.length) : leftAt x v i = false := by rw [left_at hr, decide_eq_false h, List.getElem?_eq_none (by omega)]; rfl
theorem left_yes {x : VMon} {v : VMove} {i : Nat} (h : leftAt x v i = true) : (rangeF (leftAt x v) (i + 1)).map dInt = (rangeF (leftAt x v) i).map dInt ++ [dInt i] := by rw [rangeF_succ, h]; simp
theorem left_no {x : VMon} {v : VMove} {i : Nat} (h : leftAt x v i = false) : (rangeF (leftAt x v) (i + 1)).map dInt = (rangeF (leftAt x v) i).map dInt := by rw [rangeF_succ, h]; simp
theorem impl_MonAt_f (h : VHost) (m : Int) [Q (SmHost h)] : Fun Try.prog 28 [A (rHost h), I m] (RG [.a (rMon (monOr h m)), .c (.v (.bool (monAt h m).isSome))]) := by
 refine Fun.w 19 Try.func28 fun w g0 hM => ?_
 have hl0 := hM.1.2.1.map
 refine len ?_
 refine callP (impl_has_f _ _).k ?_
 refine cnd (fun hb => ?_) (fun hb => ?_)
 ·exact (by first | (rw [monOr, monAt_out (by omega)]; rfl) | (rw [monOr, monAt_in (by omega) (by assumption)]; rfl))
 ·first | refine ixm (by assumption) ?_ | refine bnd ?_ | refine bndi ?_ | refine ixkq (fun y16 hy16 qy16 ly16 => ?_) | refine ixiq (fun y16 hy16 qy16 ly16 => ?_)
  first | refine ixs ?_ | refine ixo (by assumption) ?_ | refine ixoq (fun z1 hz1 qz1 lz1 => ?_) | skip
  refine callG (impl_copyMon_f _).k ?_
  exact (by first | (rw [monOr, monAt_out (by omega)]; rfl) | (rw [monOr, monAt_in (by omega) (by assumption)]; rfl))
theorem impl_PageOf_f (h : VHost) (m : Int) (n : Int) [Q (SmHost h)] : Fun Try.prog 21 [A (rHost h), I m, I n] (RL 1 ((pageOf h m n).map dInt)) := by
 refine Fun.w 42 Try.func21 fun w g0 hM => ?_
 have hl0 := hM.1.2.1.map
 refine len ?_
 refine callP (impl_has_f _ _).k ?_
 refine cnd (fun hg6 => ?_) (fun hg6 => ?_)
 ·refine mkw 4 ?_
  exact (by first | (rw [pageOf_off (by first | (left; omega) | (right; omega))]; rfl) | (rw [pageOf_in (by omega) (by assumption) (by omega) (by assumption)]; rfl) | (rw [pageOf_out (by omega) (by assumption) (by omega) (by omega)]; rfl))
 ·refine callP (impl_has_f _ _).k ?_
  refine cnd (fun hb => ?_) (fun hb => ?_)
  ·refine mkw 4 ?_
   exact (by first | (rw [pageOf_off (by first | (left; omega) | (right; omega))]; rfl) | (rw [pageOf_in (by omega) (by assumption) (by omega) (by assumption)]; rfl) | (rw [pageOf_out (by omega) (by assumption) (by omega) (by omega)]; rfl))
  ·first | refine ixm (by assumption) ?_ | refine bnd ?_ | refine bndi ?_ | refine ixkq (fun y24 hy24 qy24 ly24 => ?_) | refine ixiq (fun y24 hy24 qy24 ly24 => ?_)
   first | refine ixs ?_ | refine ixo (by assumption) ?_ | refine ixoq (fun z1 hz1 qz1 lz1 => ?_) | skip
   refine callP (impl_SlotAt_f _ _).k ?_
   refine cnd (fun hb2 => ?_) (fun hb2 => ?_)
   ·refine callL (impl_PageAt_f _ _).k ?_
    exact (by first | (rw [pageOf_off (by first | (left; omega) | (right; omega))]; rfl) | (rw [pageOf_in (by omega) (by assumption) (by omega) (by assumption)]; rfl) | (rw [pageOf_out (by omega) (by assumption) (by omega) (by omega)]; rfl))
   ·refine callL (impl_PageAt_f _ _).k ?_
    exact (by first | (rw [pageOf_off (by first | (left; omega) | (right; omega))]; rfl) | (rw [pageOf_in (by omega) (by assumption) (by omega) (by assumption)]; rfl) | (rw [pageOf_out (by omega) (by assumption) (by omega) (by omega)]; rfl))
theorem impl_moves_f (h : VHost) (v : VMove) : Fun Try.prog 18 [A (rHost h), A (rMove v)] (RV (.bool (moves h v))) := by
 refine Fun.w 21 Try.func18 fun w g0 hM => ?_
 have hl0 := hM.1.2.1.map
 have hl1 := hM.2.1.2.1.map
 refine callP (impl_HostOk_f _).k ?_
 refine cnd (fun hg2 => ?_) (fun hg2 => ?_)
 ·refine len ?_
  refine callP (impl_has_f _ _).k ?_
  refine cnd (fun hg10 => ?_) (fun hg10 => ?_)
  ·refine len ?_
   exact resV (by first | (simp [moves, hasMon, *]; done) | (refine congrArg Value.bool ?_; rw [Bool.eq_iff_iff]; simp [moves, hasMon, *]; omega) | (refine congrArg Value.bool ?_; symm; rw [Bool.eq_false_iff]; intro e; simp only [moves, hasMon, Bool.and_eq_true, decide_eq_true_eq] at e; omega))
  ·exact resV (by first | (simp [moves, hasMon, *]; done) | (refine congrArg Value.bool ?_; rw [Bool.eq_iff_iff]; simp [moves, hasMon, *]; omega) | (refine congrArg Value.bool ?_; symm; rw [Bool.eq_false_iff]; intro e; simp only [moves, hasMon, Bool.and_eq_true, decide_eq_true_eq] at e; omega))
 ·exact resV (by first | (simp [moves, hasMon, *]; done) | (refine congrArg Value.bool ?_; rw [Bool.eq_iff_iff]; simp [moves, hasMon, *]; omega) | (refine congrArg Value.bool ?_; symm; rw [Bool.eq_false_iff]; intro e; simp only [moves, hasMon, Bool.and_eq_true, decide_eq_true_eq] at e; omega))
theorem impl_MoveLeft_f (h : VHost) (v : VMove) [Q (SmHost h)] [Q (SmMove v)] : Fun Try.prog 9 [A (rHost h), A (rMove v)] (RL 1 ((moveLeft h v).map dInt)) := by
 refine Fun.w 57 Try.func9 fun w g0 hM => ?_
 have hl0 := hM.1.2.1.map
 have hl1 := hM.2.1.2.1.map
 refine len ?_
 refine callP (impl_has_f _ _).k ?_
 refine cnd (fun hg7 => ?_) (fun hg7 => ?_)
 ·exact (by rw [left_none (by first | (left; exact monAt_out (by omega)) | (right; omega))]; rfl)
 ·refine len ?_
  refine cnd (fun hb => ?_) (fun hb => ?_)
  ·exact (by rw [left_none (by first | (left; exact monAt_out (by omega)) | (right; omega))]; rfl)
  ·obtain ⟨x, hx⟩ : ∃ x, h.Mons[v.M.toNat]? = some x := ⟨_, List.getElem?_eq_getElem (by omega)⟩
   have hma := monAt_in (h := h) (m := v.M) (by omega) hx
   have qx : Q (SmMon x) := ⟨ElS.h x (List.mem_of_getElem? hx)⟩
   refine ixm hx ?_
   first | refine ixs ?_ | refine ixo (by assumption) ?_ | refine ixoq (fun z1 hz1 qz1 lz1 => ?_) | skip
   refine loopA [3, 4, 5, 6] [5] [5] (fun (i : Nat) => [.set 7 (I i)]) (fun (i : Nat) => [(5, ⟨false, [.own (.sl 1 ((rangeF (leftAt x v) i).map dInt))]⟩)]) (fun (i : Nat) => i ≤ 8) (fun (i : Nat) => 8 - i) (0) (Nat.zero_le _) ?_
   refine ⟨hda, fun i hyp N1 hN1 => ?_⟩
   have hyp : i ≤ 8 := hyp
   have hr0 := @rangeF_len (leftAt x v) i
   refine cnd (fun hb2 => ?_) (fun hb2 => ?_)
   ·obtain ⟨r, hr⟩ : ∃ r, v.Have[i]? = some r := ⟨_, List.getElem?_eq_getElem (by omega)⟩
    refine ixm hr ?_
    first | refine ixs ?_ | refine ixo (by assumption) ?_ | refine ixoq (fun z2 hz2 qz2 lz2 => ?_) | skip
    first | refine ixs ?_ | refine ixo (by assumption) ?_ | refine ixoq (fun z3 hz3 qz3 lz3 => ?_) | skip
    refine len ?_
    refine cnd (fun hg7 => ?_) (fun hg7 => ?_)
    ·first | refine appPq ?_ | refine appP ?_
     refine rng ?_
     refine hN1 _ _ _ ?_
     refine nxa (i + 1) (by omega) (by repeat' first | exact rfl | refine And.intro ?_ ?_ | exact True.intro | (refine eqS ?_; rw [left_yes (left_1 hr (by omega))]; done) | (refine eqS ?_; rw [left_yes (by rw [left_2 hr (by omega) (by assumption)]; assumption)]; done) | (refine eqS ?_; rw [left_no (left_3 hr (by omega) (by omega))]; done) | (refine eqS ?_; rw [left_no (by rw [left_2 hr (by omega) (by assumption)]; assumption)]; done) | (refine eqS ?_; (simp; done)))
    ·first | refine ixs ?_ | refine ixo (by assumption) ?_ | refine ixoq (fun z4 hz4 qz4 lz4 => ?_) | skip
     refine len ?_
     refine callP (impl_has_f _ _).k ?_
     refine cnd (fun hg12 => ?_) (fun hg12 => ?_)
     ·obtain ⟨d, hd⟩ : ∃ d, x.Dirty[i]? = some d := ⟨_, List.getElem?_eq_getElem (by omega)⟩
      first | refine ixs ?_ | refine ixo (by assumption) ?_ | refine ixoq (fun z5 hz5 qz5 lz5 => ?_) | skip
      refine ixm hd ?_
      first | refine ixs ?_ | refine ixo (by assumption) ?_ | refine ixoq (fun z6 hz6 qz6 lz6 => ?_) | skip
      first | refine ixs ?_ | refine ixo (by assumption) ?_ | refine ixoq (fun z7 hz7 qz7 lz7 => ?_) | skip
      refine cnd (fun hb3 => ?_) (fun hb3 => ?_)
      ·first | refine appPq ?_ | refine appP ?_
       refine rng ?_
       refine hN1 _ _ _ ?_
       refine nxa (i + 1) (by omega) (by repeat' first | exact rfl | refine And.intro ?_ ?_ | exact True.intro | (refine eqS ?_; rw [left_yes (left_1 hr (by omega))]; done) | (refine eqS ?_; rw [left_yes (by rw [left_2 hr (by omega) (by assumption)]; assumption)]; done) | (refine eqS ?_; rw [left_no (left_3 hr (by omega) (by omega))]; done) | (refine eqS ?_; rw [left_no (by rw [left_2 hr (by omega) (by assumption)]; assumption)]; done) | (refine eqS ?_; (simp; done)))
      ·refine rng ?_
       refine hN1 _ _ _ ?_
       refine nxa (i + 1) (by omega) (by repeat' first | exact rfl | refine And.intro ?_ ?_ | exact True.intro | (refine eqS ?_; rw [left_yes (left_1 hr (by omega))]; done) | (refine eqS ?_; rw [left_yes (by rw [left_2 hr (by omega) (by assumption)]; assumption)]; done) | (refine eqS ?_; rw [left_no (left_3 hr (by omega) (by omega))]; done) | (refine eqS ?_; rw [left_no (by rw [left_2 hr (by omega) (by assumption)]; assumption)]; done) | (refine eqS ?_; (simp; done)))
     ·refine rng ?_
      refine hN1 _ _ _ ?_
      refine nxa (i + 1) (by omega) (by repeat' first | exact rfl | refine And.intro ?_ ?_ | exact True.intro | (refine eqS ?_; rw [left_yes (left_1 hr (by omega))]; done) | (refine eqS ?_; rw [left_yes (by rw [left_2 hr (by omega) (by assumption)]; assumption)]; done) | (refine eqS ?_; rw [left_no (left_3 hr (by omega) (by omega))]; done) | (refine eqS ?_; rw [left_no (by rw [left_2 hr (by omega) (by assumption)]; assumption)]; done) | (refine eqS ?_; (simp; done)))
   ·refine hN1 _ _ _ ?_
    exact (by have h8 : i = 8 := (by omega); subst h8; rw [left_some hma (by omega)]; rfl)
end Go.Proofs.Ytcmoifejjodgcaa.T

namespace Go.Proofs.Ytcmoifejjodgcaa.T
open Go
set_option linter.unusedVariables false
set_option linter.unusedSimpArgs false
set_option maxRecDepth 100000
set_option maxHeartbeats 8000000
theorem flush_step {b : List VEntry} {host : Int} {i : Nat} {y : VEntry} (hy : b[i]? = some y) : flushHost (b.take (i + 1)) host = flushHost (b.take i) host ++ if y.Host = host then [] else [y] := by
 unfold flushHost
 rw [List.take_add_one, hy, List.filter_append]
 by_cases h : y.Host = host <;> simp [h]
theorem flush_len {b : List VEntry} {host : Int} : (flushHost b host).length ≤ b.length := List.length_filter_le _ _
theorem flush_yes {b : List VEntry} {host : Int} {i : Nat} {y : VEntry} (hy : b[i]? = some y) (h : ¬ y.Host = host) : (flushHost (b.take (i + 1)) host).map dEntry = (flushHost (b.take i) host).map dEntry ++ [dEntry y] := by rw [flush_step hy, if_neg h, List.map_append]; rfl
theorem flush_no {b : List VEntry} {host : Int} {i : Nat} {y : VEntry} (hy : b[i]? = some y) (h : y.Host = host) : (flushHost (b.take (i + 1)) host).map dEntry = (flushHost (b.take i) host).map dEntry := by rw [flush_step hy, if_pos h, List.append_nil]
theorem forget_in {k : VKept} {page : Int} (h : 0 ≤ page ∧ page < k.Known.length ∧ page < k.Slots.length) : forget k page = ⟨k.Known.set page.toNat false, k.Slots.set page.toNat noSlot⟩ := by
 unfold forget keptHas put
 rw [decide_eq_true h, if_pos rfl, if_pos h.1, if_pos h.1]
theorem forget_out {k : VKept} {page : Int} (h : ¬ (0 ≤ page ∧ page < k.Known.length ∧ page < k.Slots.length)) : forget k page = k := by
 unfold forget keptHas
 rw [decide_eq_false h]
 rfl
theorem forget_sm {k : VKept} (page : Int) (h : SmKept k) : SmKept (forget k page) := by
 by_cases hh : 0 ≤ page ∧ page < k.Known.length ∧ page < k.Slots.length
 ·rw [forget_in hh]
  exact ⟨by show (k.Known.set _ _).length ≤ _; rw [List.length_set]; exact h.1, by show (k.Slots.set _ _).length ≤ _; rw [List.length_set]; exact h.2⟩
 ·rw [forget_out hh]; exact h
def lessBy (k : VKept) (l : List Int) : VKept := l.foldl forget k
theorem lessBy_sm : ∀ (l : List Int) {k : VKept}, SmKept k → SmKept (lessBy k l)
 | [], k, h => h
 | p :: l, k, h => lessBy_sm l (forget_sm p h)
instance (k : VKept) (l : List Int) [h : Q (SmKept k)] : Q (SmKept (lessBy k l)) := ⟨lessBy_sm l h.h⟩
theorem lessBy_step {k : VKept} {l : List Int} {i : Nat} {p : Int} (hp : l[i]? = some p) : lessBy k (l.take (i + 1)) = forget (lessBy k (l.take i)) p := by
 unfold lessBy
 rw [List.take_add_one, hp, List.foldl_append]
 rfl
theorem uses_len (t : List VSlot) (page : Int) : (usesOf t page).length ≤ t.length := rangeF_len
theorem hasPage_on {h : VHost} {m p : Int} : hasPage h m p = true ↔ hostOk h = true ∧ (0 ≤ m ∧ m < h.Mons.length) ∧ 0 ≤ p ∧ p ≤ 7 := by simp [hasPage, and_assoc]
theorem impl_FlushHost1_f (e : VEntry) (host : Int) : Fun Try.prog 77 [A (rEntry e), .one (.cptr [.v (.int .i64 host)])] (RV (.bool (decide (e.Host = host)))) := by
 refine Fun.w 8 Try.func77 fun w g0 _ => ?_
 exact resV (by first | rfl | (refine congrArg Value.bool ?_; rw [Bool.eq_iff_iff]; simp))
theorem impl_withoutHost_f (b : List VEntry) (host : Int) [Q (SmEntryS b)] : Fun Try.prog 76 [L 4 (b.map dEntry), .fn 77 [.cptr [.v (.int .i64 host)]]] (RL 4 ((flushHost b host).map dEntry)) := by
 refine Fun.w 25 Try.func76 fun w g0 hM => ?_
 have hl0 := hM.1.map
 refine len ?_
 refine loopA [1, 4, 5, 9, 10] [5] [5] (fun (i : Nat) => [.set 11 (I i)]) (fun (i : Nat) => [(5, ⟨false, [.own (.sl 4 ((flushHost (b.take i) host).map dEntry))]⟩)]) (fun (i : Nat) => i ≤ b.length) (fun (i : Nat) => b.length - i) (0) (Nat.zero_le _) ?_
 refine ⟨hda, fun i hyp N1 hN1 => ?_⟩
 have hyp : i ≤ b.length := hyp
 have hfl := @flush_len (b.take i) host
 have htl : (b.take i).length ≤ b.length := by rw [List.length_take]; omega
 have hbl := (inferInstance : LenX b 1048576).h
 refine cnd (fun hb => ?_) (fun hb => ?_)
 ·obtain ⟨y, hy⟩ : ∃ y, b[i]? = some y := ⟨_, List.getElem?_eq_getElem (by omega)⟩
  refine ixm hy ?_
  first | refine ixs ?_ | refine ixo (by assumption) ?_ | refine ixoq (fun z1 hz1 qz1 lz1 => ?_) | skip
  refine callCP (impl_FlushHost1_f y host).k ?_
  refine cnd (fun hb2 => ?_) (fun hb2 => ?_)
  ·first | refine appPq ?_ | refine appP ?_
   refine rng ?_
   refine hN1 _ _ _ ?_
   refine nxa (i + 1) (by omega) (by repeat' first | exact rfl | refine And.intro ?_ ?_ | exact True.intro | (refine eqS ?_; rw [flush_yes hy (by omega)]; done) | (refine eqS ?_; rw [flush_no hy (by omega)]; done))
  ·refine rng ?_
   refine hN1 _ _ _ ?_
   refine nxa (i + 1) (by omega) (by repeat' first | exact rfl | refine And.intro ?_ ?_ | exact True.intro | (refine eqS ?_; rw [flush_yes hy (by omega)]; done) | (refine eqS ?_; rw [flush_no hy (by omega)]; done))
 ·refine hN1 _ _ _ ?_
  exact (by rw [List.take_of_length_le (by omega)]; rfl)
theorem impl_FlushHost_f (b : List VEntry) (host : Int) [Q (SmEntryS b)] : Fun Try.prog 63 [L 4 (b.map dEntry), I host] (RL 4 ((flushHost b host).map dEntry)) := by
 refine Fun.w 8 Try.func63 fun w g0 _ => ?_
 refine callL (impl_withoutHost_f b host).k ?_
 exact rfl
theorem impl_Forget_f (k : VKept) (page : Int) [Q (SmKept k)] : Fun Try.prog 75 [A (rKept k), I page] (RG [.a (rKept (forget k page))]) := by
 refine Fun.w 30 Try.func75 fun w g0 hM => ?_
 have hl0 := hM.1.1.map
 have hl1 := hM.1.2.1.map
 refine callG (impl_copyKept_f _).k ?_
 refine len ?_
 refine callP (impl_has_f _ _).k ?_
 refine cnd (fun hg5 => ?_) (fun hg5 => ?_)
 ·refine len ?_
  refine callP (impl_has_f _ _).k ?_
  refine cnd (fun hb => ?_) (fun hb => ?_)
  ·obtain ⟨a, ha⟩ : ∃ a, k.Known[page.toNat]? = some a := ⟨_, List.getElem?_eq_getElem (by omega)⟩
   obtain ⟨z, hz⟩ : ∃ z, k.Slots[page.toNat]? = some z := ⟨_, List.getElem?_eq_getElem (by omega)⟩
   first | refine ixm (by assumption) ?_ | refine bnd ?_ | refine bndi ?_ | refine ixkq (fun y23 hy23 qy23 ly23 => ?_) | refine ixiq (fun y23 hy23 qy23 ly23 => ?_)
   first | refine ixs ?_ | refine ixo (by assumption) ?_ | refine ixoq (fun z1 hz1 qz1 lz1 => ?_) | skip
   refine regU [5] [(0, 0), (1, 0), (2, 0), (3, 1), (4, 0), (5, 1)] ?_
   refine callP (impl_NoSlot_f).k ?_
   first | refine ixm (by assumption) ?_ | refine bnd ?_ | refine bndi ?_ | refine ixkq (fun y28 hy28 qy28 ly28 => ?_) | refine ixiq (fun y28 hy28 qy28 ly28 => ?_)
   first | refine ixs ?_ | refine ixo (by assumption) ?_ | refine ixoq (fun z2 hz2 qz2 lz2 => ?_) | skip
   exact (by first | (rw [forget_out (by omega)]; rfl) | (rw [forget_in (by omega), show rKept ⟨k.Known.set page.toNat false, k.Slots.set page.toNat noSlot⟩ = [.sl 1 ((k.Known.map dBool).set page.toNat (dBool false)), .sl 2 ((k.Slots.map dSlot).set page.toNat (dSlot noSlot))] from by simp [rKept, List.map_set]]; rfl))
  ·exact (by first | (rw [forget_out (by omega)]; rfl) | (rw [forget_in (by omega), show rKept ⟨k.Known.set page.toNat false, k.Slots.set page.toNat noSlot⟩ = [.sl 1 ((k.Known.map dBool).set page.toNat (dBool false)), .sl 2 ((k.Slots.map dSlot).set page.toNat (dSlot noSlot))] from by simp [rKept, List.map_set]]; rfl))
 ·exact (by first | (rw [forget_out (by omega)]; rfl) | (rw [forget_in (by omega), show rKept ⟨k.Known.set page.toNat false, k.Slots.set page.toNat noSlot⟩ = [.sl 1 ((k.Known.map dBool).set page.toNat (dBool false)), .sl 2 ((k.Slots.map dSlot).set page.toNat (dSlot noSlot))] from by simp [rKept, List.map_set]]; rfl))
theorem impl_ForgetUses_f (k : VKept) (t : List VSlot) (page : Int) [Q (SmKept k)] [Q (SmSlotS t)] : Fun Try.prog 62 [A (rKept k), L 2 (t.map dSlot), I page] (RG [.a (rKept (forgetUses k t page))]) := by
 refine Fun.w 25 Try.func62 fun w g0 _ => ?_
 refine callG (impl_copyKept_f _).k ?_
 refine callL (impl_UsesOf_f t page).k ?_
 refine len ?_
 refine loopA [6, 7, 14, 15] [] [7, 11] (fun (i : Nat) => [.set 16 (I i)]) (fun (i : Nat) => [(7, ⟨true, [.own (.sl 1 ((lessBy k ((usesOf t page).take i)).Known.map dBool)), .own (.sl 2 ((lessBy k ((usesOf t page).take i)).Slots.map dSlot))]⟩)]) (fun (i : Nat) => i ≤ (usesOf t page).length) (fun (i : Nat) => (usesOf t page).length - i) (0) (Nat.zero_le _) ?_
 refine ⟨hda, fun i hyp N1 hN1 => ?_⟩
 have hyp : i ≤ (usesOf t page).length := hyp
 have hul := uses_len t page
 have htl := (inferInstance : LenX t 1048576).h
 refine cnd (fun hb => ?_) (fun hb => ?_)
 ·obtain ⟨p, hp⟩ : ∃ p, (usesOf t page)[i]? = some p := ⟨_, List.getElem?_eq_getElem (by omega)⟩
  first | refine ixm (by assumption) ?_ | refine bnd ?_ | refine bndi ?_ | refine ixkq (fun y18 hy18 qy18 ly18 => ?_) | refine ixiq (fun y18 hy18 qy18 ly18 => ?_)
  first | refine ixs ?_ | refine ixo (by assumption) ?_ | refine ixoq (fun z1 hz1 qz1 lz1 => ?_) | skip
  refine callG (impl_Forget_f (lessBy k ((usesOf t page).take i)) p).k ?_
  refine rng ?_
  refine hN1 _ _ _ ?_
  refine nxa (i + 1) (by omega) (by repeat' first | exact rfl | refine And.intro ?_ ?_ | exact True.intro | (refine eqS ?_; rw [lessBy_step hp]; done))
 ·refine hN1 _ _ _ ?_
  exact (by rw [show forgetUses k t page = (lessBy k ((usesOf t page).take i)) from by unfold forgetUses lessBy; rw [List.take_of_length_le (by omega)]]; rfl)
theorem impl_hasPage_f (h : VHost) (m : Int) (page : Int) : Fun Try.prog 42 [A (rHost h), I m, I page] (RV (.bool (hasPage h m page))) := by
 refine Fun.w 20 Try.func42 fun w g0 hM => ?_
 have hl0 := hM.1.2.1.map
 refine callP (impl_HostOk_f _).k ?_
 refine cnd (fun hg2 => ?_) (fun hg2 => ?_)
 ·refine len ?_
  refine callP (impl_has_f _ _).k ?_
  refine cnd (fun hg9 => ?_) (fun hg9 => ?_)
  ·refine callP (impl_has_f _ _).k ?_
   exact resV (by first | (refine congrArg Value.bool ?_; rw [Bool.eq_iff_iff, hasPage_on]; simp [*]; done) | (refine congrArg Value.bool ?_; rw [Bool.eq_iff_iff, hasPage_on]; simp [*]; omega) | (refine congrArg Value.bool ?_; symm; rw [Bool.eq_false_iff]; intro e; have := hasPage_on.1 e; omega) | (refine congrArg Value.bool ?_; symm; rw [Bool.eq_false_iff]; intro e; have := hasPage_on.1 e; simp_all))
  ·exact resV (by first | (refine congrArg Value.bool ?_; rw [Bool.eq_iff_iff, hasPage_on]; simp [*]; done) | (refine congrArg Value.bool ?_; rw [Bool.eq_iff_iff, hasPage_on]; simp [*]; omega) | (refine congrArg Value.bool ?_; symm; rw [Bool.eq_false_iff]; intro e; have := hasPage_on.1 e; omega) | (refine congrArg Value.bool ?_; symm; rw [Bool.eq_false_iff]; intro e; have := hasPage_on.1 e; simp_all))
 ·exact resV (by first | (refine congrArg Value.bool ?_; rw [Bool.eq_iff_iff, hasPage_on]; simp [*]; done) | (refine congrArg Value.bool ?_; rw [Bool.eq_iff_iff, hasPage_on]; simp [*]; omega) | (refine congrArg Value.bool ?_; symm; rw [Bool.eq_false_iff]; intro e; have := hasPage_on.1 e; omega) | (refine congrArg Value.bool ?_; symm; rw [Bool.eq_false_iff]; intro e; have := hasPage_on.1 e; simp_all))
end Go.Proofs.Ytcmoifejjodgcaa.T

