
import Derived.Test.YteelmdpahpggkaaGreatPfp
import Derived.Test.YteelmdpahpggkaaGreatRpp
namespace Go.Proofs.YteelmdpahpggkaaGreat.T
open Go
set_option linter.unusedVariables false
set_option linter.unusedSimpArgs false
set_option maxRecDepth 100000
set_option maxHeartbeats 8000000
instance wlBares (xs : List VBare) : WL (xs.map dBare) := ⟨fun d hd => by obtain ⟨x, _, rfl⟩ := List.mem_map.1 hd; exact ⟨wh_Bare x⟩⟩
theorem take_end {α : Type} {l : List α} {i n : Nat} (h : i ≤ l.length ∧ i ≤ n) (h2 : ¬ i < l.length ∨ ¬ i < n) : l.take i = l.take n := by
 by_cases h3 : i < n
 ·rw [List.take_of_length_le (by omega), List.take_of_length_le (by omega)]
 ·rw [show i = n by omega]
theorem take_min {α : Type} {l : List α} {i n : Nat} (h : l.length.min n ≤ i) (h2 : i ≤ l.length.min n) : l.take i = l.take n := by
 have h3 : l.length.min n = min l.length n := rfl
 rw [h3] at h h2
 exact take_end (by omega) (by omega)
section
variable {σ : Type} {f : σ → VAct → σ × VTold}
theorem lifeOf_snoc {l : List VAct} {a : VAct} {s : σ} : lifeOf f (l ++ [a]) s = (f (lifeOf f l s) a).1 := by unfold lifeOf; rw [List.foldl_append]; rfl
theorem toldOf_snoc {a : VAct} : ∀ {l : List VAct} {s : σ}, toldOf f (l ++ [a]) s = toldOf f l s ++ [(f (lifeOf f l s) a).2]
 | [], s => rfl
 | b :: l, s => by
  show (f s b).2 :: toldOf f (l ++ [a]) (f s b).1 = _
  rw [toldOf_snoc]
  rfl
theorem life_step {l : List VAct} {i : Nat} {a : VAct} {s : σ} (h : l[i]? = some a) : lifeOf f (l.take (i + 1)) s = (f (lifeOf f (l.take i) s) a).1 := by rw [List.take_add_one, h]; exact lifeOf_snoc
theorem told_step {l : List VAct} {i : Nat} {a : VAct} {s : σ} (h : l[i]? = some a) : toldOf f (l.take (i + 1)) s = toldOf f (l.take i) s ++ [(f (lifeOf f (l.take i) s) a).2] := by rw [List.take_add_one, h]; exact toldOf_snoc
theorem told_len : ∀ {l : List VAct} {s : σ}, (toldOf f l s).length = l.length
 | [], s => rfl
 | a :: l, s => by show (toldOf f l _).length + 1 = _; rw [told_len]; rfl
instance (l : List VAct) (s : σ) (n : Nat) [h : LenX l n] : LenX (toldOf f l s) n := ⟨by rw [told_len]; exact h.h⟩
end
theorem sm_bareNew {ps : List (List VIns)} (h : SmInsSS ps) : SmBare (bareNew ps) := by
 refine ⟨⟨by simp [bareNew, memNew], fun x hx => ?_⟩, ⟨by simp [bareNew]; omega, fun x hx => ?_⟩, by simp [bareNew, SmIntS]⟩
 ·rw [List.eq_of_mem_replicate (show x ∈ List.replicate 8 [0, 0, 0, 0] from hx)]; simp [SmIntS]
 ·obtain ⟨p, hp, rfl⟩ := List.mem_map.1 (show x ∈ (ps.take 2).map guestNew from hx)
  have : Q (SmInsS p) := ⟨h.2 p (List.mem_of_mem_take hp)⟩
  exact (inferInstance : Q (SmGuest (guestNew p))).h
theorem sm_bares {all : List (List (List VIns))} {n : Nat} (h : SmInsSSS all) : SmBareS ((all.take n).map bareNew) := by
 refine ⟨by rw [List.length_map, List.length_take]; exact Nat.le_trans (Nat.min_le_right _ _) h.1, fun x hx => ?_⟩
 obtain ⟨p, hp, rfl⟩ := List.mem_map.1 hx
 exact sm_bareNew (h.2 p (List.mem_of_mem_take hp))
theorem sm_life : ∀ {l : List VAct} {s : List VBare}, SmBareS s → SmBareS (lifeOf bareAct l s)
 | [], s, h => h
 | a :: l, s, h => sm_life (l := l) (sm_bareAct h)
instance (all : List (List (List VIns))) (n : Nat) [h : Q (SmInsSSS all)] : Q (SmBareS ((all.take n).map bareNew)) := ⟨sm_bares h.h⟩
theorem sm_bareLife {all : List (List (List VIns))} {acts : List VAct} (h : SmInsSSS all) : SmBareS (bareLife all acts).1 := sm_life (sm_bares h)
instance (all : List (List (List VIns))) (acts : List VAct) [h : Q (SmInsSSS all)] : Q (SmBareS (bareLife all acts).1) := ⟨sm_bareLife h.h⟩
instance (all : List (List (List VIns))) (acts : List VAct) : LenX (bareLife all acts).2 80 := ⟨by show (toldOf _ _ _).length ≤ _; rw [told_len, List.length_take]; exact Nat.min_le_left _ _⟩
instance (l : List VAct) (s : List VBare) [h : Q (SmBareS s)] : Q (SmBareS (lifeOf bareAct l s)) := ⟨sm_life h.h⟩
theorem bareLife_at {all : List (List (List VIns))} {acts : List VAct} {j : Nat} (h : (acts.take 80).length ≤ j) : bareLife all acts = (lifeOf bareAct ((acts.take 80).take j) ((all.take 3).map bareNew), toldOf bareAct ((acts.take 80).take j) ((all.take 3).map bareNew)) := by
 unfold bareLife
 rw [List.take_of_length_le h]
theorem stayedLife_at {all : List (List (List VIns))} {first thn : List VAct} {i : Nat} (h : (ofZero thn).length ≤ i) : stayedLife all first thn = (lifeOf bareAct ((ofZero thn).take i) (bareLife all first).1, (bareLife all first).2 ++ toldOf bareAct ((ofZero thn).take i) (bareLife all first).1) := by
 rw [List.take_of_length_le h]
 rfl
theorem stayed_told {s : List VBare} {ts : List VTold} {l : List VAct} {i : Nat} {a : VAct} (h : l[i]? = some a) : (ts ++ toldOf bareAct (l.take (i + 1)) s).map dTold = (ts ++ toldOf bareAct (l.take i) s).map dTold ++ [dTold (bareAct (lifeOf bareAct (l.take i) s) a).2] := by
 rw [told_step h, ← List.append_assoc, List.map_append (l₁ := ts ++ _)]
 rfl
theorem zero_yes {l : List VAct} {i : Nat} {a : VAct} (h : l[i]? = some a) (h0 : a.M = 0) : (ofZero (l.take (i + 1))).map dAct = (ofZero (l.take i)).map dAct ++ [dAct a] := by
 unfold ofZero
 rw [List.take_add_one, h, List.filter_append, List.map_append]
 simp [h0]
theorem zero_no {l : List VAct} {i : Nat} {a : VAct} (h : l[i]? = some a) (h0 : ¬ a.M = 0) : (ofZero (l.take (i + 1))).map dAct = (ofZero (l.take i)).map dAct := by
 unfold ofZero
 rw [List.take_add_one, h, List.filter_append, List.map_append]
 simp [h0]
instance (l : List VAct) (n : Nat) [h : LenX l n] : LenX (ofZero l) n := ⟨Nat.le_trans (List.length_filter_le ..) h.h⟩
theorem spec_OfZero_f (l : List VAct) [Q (SmActS l)] : Fun Tryz.prog 152 [L 6 (l.map dAct)] (RL 6 ((ofZero l).map dAct)) := by
 refine Fun.w 26 Tryz.func152 fun w g0 hM => ?_
 have hl0 := hM.1.map
 refine loopA [0, 2, 3] [3] [3] (fun (i : Nat) => [.set 4 (I i)]) (fun (i : Nat) => [(3, ⟨false, [.own (.sl 6 ((ofZero (l.take i)).map dAct))]⟩)]) (fun (i : Nat) => i ≤ l.length) (fun (i : Nat) => l.length - i) (0) (Nat.zero_le _) ?_
 refine ⟨hda, fun i hyp N1 hN1 => ?_⟩
 have hyp : i ≤ l.length := hyp
 have hll := (inferInstance : LenX l 1048576).h
 refine len ?_
 refine cnd (fun hb => ?_) (fun hb => ?_)
 ·obtain ⟨a, ha⟩ : ∃ a, l[i]? = some a := ⟨_, List.getElem?_eq_getElem (by omega)⟩
  refine ixm ha ?_
  first | refine ixs ?_ | refine ixo (by assumption) ?_ | refine ixoq (fun z1 hz1 qz1 lz1 => ?_) | skip
  refine cnd (fun hb2 => ?_) (fun hb2 => ?_)
  ·refine ixm ha ?_
   first | refine ixs ?_ | refine ixo (by assumption) ?_ | refine ixoq (fun z2 hz2 qz2 lz2 => ?_) | skip
   first | refine appPq ?_ | refine appP ?_
   refine rng ?_
   refine hN1 _ _ _ ?_
   refine nxa (i + 1) (by omega) (by repeat' first | exact rfl | refine And.intro ?_ ?_ | exact True.intro | (refine eqS ?_; rw [zero_yes ha (by assumption)]; done) | (refine eqS ?_; rw [zero_no ha (by assumption)]; done))
  ·refine rng ?_
   refine hN1 _ _ _ ?_
   refine nxa (i + 1) (by omega) (by repeat' first | exact rfl | refine And.intro ?_ ?_ | exact True.intro | (refine eqS ?_; rw [zero_yes ha (by assumption)]; done) | (refine eqS ?_; rw [zero_no ha (by assumption)]; done))
 ·refine hN1 _ _ _ ?_
  exact (by rw [List.take_of_length_le (by omega)]; rfl)
theorem impl_OfZero_f (l : List VAct) [Q (SmActS l)] : Fun Tryz.prog 157 [L 6 (l.map dAct)] (RL 6 ((ofZero l).map dAct)) := by
 refine Fun.w 22 Tryz.func157 fun w g0 hM => ?_
 have hl0 := hM.1.map
 refine len ?_
 refine loopA [2, 3, 7, 8] [3] [3] (fun (i : Nat) => [.set 9 (I i)]) (fun (i : Nat) => [(3, ⟨false, [.own (.sl 6 ((ofZero (l.take i)).map dAct))]⟩)]) (fun (i : Nat) => i ≤ l.length) (fun (i : Nat) => l.length - i) (0) (Nat.zero_le _) ?_
 refine ⟨hda, fun i hyp N1 hN1 => ?_⟩
 have hyp : i ≤ l.length := hyp
 have hll := (inferInstance : LenX l 1048576).h
 refine cnd (fun hb => ?_) (fun hb => ?_)
 ·obtain ⟨a, ha⟩ : ∃ a, l[i]? = some a := ⟨_, List.getElem?_eq_getElem (by omega)⟩
  refine ixm ha ?_
  first | refine ixs ?_ | refine ixo (by assumption) ?_ | refine ixoq (fun z1 hz1 qz1 lz1 => ?_) | skip
  refine cnd (fun hb2 => ?_) (fun hb2 => ?_)
  ·first | refine appPq ?_ | refine appP ?_
   refine rng ?_
   refine hN1 _ _ _ ?_
   refine nxa (i + 1) (by omega) (by repeat' first | exact rfl | refine And.intro ?_ ?_ | exact True.intro | (refine eqS ?_; rw [zero_yes ha (by assumption)]; done) | (refine eqS ?_; rw [zero_no ha (by assumption)]; done))
  ·refine rng ?_
   refine hN1 _ _ _ ?_
   refine nxa (i + 1) (by omega) (by repeat' first | exact rfl | refine And.intro ?_ ?_ | exact True.intro | (refine eqS ?_; rw [zero_yes ha (by assumption)]; done) | (refine eqS ?_; rw [zero_no ha (by assumption)]; done))
 ·refine hN1 _ _ _ ?_
  exact (by rw [List.take_of_length_le (by omega)]; rfl)
theorem spec_BareLife_f (all : List (List (List VIns))) (acts : List VAct) [Q (SmInsSSS all)] [Q (SmActS acts)] : Fun Tryz.prog 151 [L 1 (all.map dInsSS), L 6 (acts.map dAct)] (RG [.c (.sl 4 ((bareLife all acts).1.map dBare)), .c (.sl 2 ((bareLife all acts).2.map dTold))]) := by
 refine Fun.w 57 Tryz.func151 fun w g0 _ => ?_
 refine loopA [0, 1, 4, 5, 6] [6] [6] (fun (i : Nat) => [.set 7 (I i)]) (fun (i : Nat) => [(6, ⟨false, [.own (.sl 4 (((all.take i).map bareNew).map dBare))]⟩)]) (fun (i : Nat) => i ≤ all.length ∧ i ≤ 3) (fun (i : Nat) => 3 - i) (0) (by simp) ?_
 refine ⟨hda, fun i hyp N1 hN1 => ?_⟩
 have hyp : i ≤ all.length ∧ i ≤ 3 := hyp
 have hal := (inferInstance : LenX all 1048576).h
 refine len ?_
 refine cnd (fun hg4 => ?_) (fun hg4 => ?_)
 ·refine cnd (fun hb => ?_) (fun hb => ?_)
  ·obtain ⟨p, hp⟩ : ∃ p, all[i]? = some p := ⟨_, List.getElem?_eq_getElem (by omega)⟩
   have qp : Q (SmInsSS p) := ⟨ElS.h p (List.mem_of_getElem? hp)⟩
   refine ixm hp ?_
   first | refine ixs ?_ | refine ixo (by assumption) ?_ | refine ixoq (fun z1 hz1 qz1 lz1 => ?_) | skip
   refine callG (spec_BareNew_f p).k ?_
   first | refine appOq ?_ | refine appO ?_
   refine rng ?_
   refine hN1 _ _ _ ?_
   refine nxa (i + 1) (by omega) (by repeat' first | exact rfl | refine And.intro ?_ ?_ | exact True.intro | (refine eqS ?_; (rw [List.take_add_one, hp, List.map_append, List.map_append]; rfl)) | (refine eqS ?_; (rw [List.take_add_one, hp, List.map_append, List.map_append]; done)))
  ·refine hN1 _ _ _ ?_
   refine loopA [1, 4, 5, 6, 8] [6, 8] [6, 8] (fun (j : Nat) => [.set 9 (I j)]) (fun (j : Nat) => [(6, ⟨false, [.own (.sl 4 ((lifeOf bareAct (acts.take j) ((all.take 3).map bareNew)).map dBare))]⟩), (8, ⟨false, [.own (.sl 2 ((toldOf bareAct (acts.take j) ((all.take 3).map bareNew)).map dTold))]⟩)]) (fun (j : Nat) => j ≤ acts.length ∧ j ≤ 80) (fun (j : Nat) => 80 - j) (0) (by simp) ?_
   refine ⟨(hda (by repeat' first | exact rfl | refine And.intro ?_ ?_ | exact True.intro | (refine eqS ?_; rw [take_end hyp (by first | (left; omega) | (right; omega))]; rfl))), fun j hypj N2 hN2 => ?_⟩
   have hypj : j ≤ acts.length ∧ j ≤ 80 := hypj
   have hcl := (inferInstance : LenX acts 1048576).h
   refine len ?_
   refine cnd (fun hg4 => ?_) (fun hg4 => ?_)
   ·refine cnd (fun hb2 => ?_) (fun hb2 => ?_)
    ·obtain ⟨a, ha⟩ : ∃ a, acts[j]? = some a := ⟨_, List.getElem?_eq_getElem (by omega)⟩
     refine ixm ha ?_
     first | refine ixs ?_ | refine ixo (by assumption) ?_ | refine ixoq (fun z2 hz2 qz2 lz2 => ?_) | skip
     refine callG (spec_BareAct_f (lifeOf bareAct (acts.take j) ((all.take 3).map bareNew)) a).k ?_
     first | refine appPq ?_ | refine appP ?_
     refine rng ?_
     refine hN2 _ _ _ ?_
     refine nxa (j + 1) (by omega) (by repeat' first | exact rfl | refine And.intro ?_ ?_ | exact True.intro | (refine eqS ?_; rw [life_step ha]; done) | (refine eqS ?_; rw [told_step ha, List.map_append]; done) | (refine eqS ?_; rw [told_step ha, List.map_append]; rfl))
    ·refine hN2 _ _ _ ?_
     exact (by unfold bareLife; rw [← take_end hypj (by first | (left; omega) | (right; omega))]; rfl)
   ·refine hN2 _ _ _ ?_
    exact (by unfold bareLife; rw [← take_end hypj (by first | (left; omega) | (right; omega))]; rfl)
 ·refine hN1 _ _ _ ?_
  refine loopA [1, 4, 5, 6, 8] [6, 8] [6, 8] (fun (j : Nat) => [.set 9 (I j)]) (fun (j : Nat) => [(6, ⟨false, [.own (.sl 4 ((lifeOf bareAct (acts.take j) ((all.take 3).map bareNew)).map dBare))]⟩), (8, ⟨false, [.own (.sl 2 ((toldOf bareAct (acts.take j) ((all.take 3).map bareNew)).map dTold))]⟩)]) (fun (j : Nat) => j ≤ acts.length ∧ j ≤ 80) (fun (j : Nat) => 80 - j) (0) (by simp) ?_
  refine ⟨(hda (by repeat' first | exact rfl | refine And.intro ?_ ?_ | exact True.intro | (refine eqS ?_; rw [take_end hyp (by first | (left; omega) | (right; omega))]; rfl))), fun j hypj N3 hN3 => ?_⟩
  have hypj : j ≤ acts.length ∧ j ≤ 80 := hypj
  have hcl := (inferInstance : LenX acts 1048576).h
  refine len ?_
  refine cnd (fun hg4 => ?_) (fun hg4 => ?_)
  ·refine cnd (fun hb3 => ?_) (fun hb3 => ?_)
   ·obtain ⟨a, ha⟩ : ∃ a, acts[j]? = some a := ⟨_, List.getElem?_eq_getElem (by omega)⟩
    refine ixm ha ?_
    first | refine ixs ?_ | refine ixo (by assumption) ?_ | refine ixoq (fun z3 hz3 qz3 lz3 => ?_) | skip
    refine callG (spec_BareAct_f (lifeOf bareAct (acts.take j) ((all.take 3).map bareNew)) a).k ?_
    first | refine appPq ?_ | refine appP ?_
    refine rng ?_
    refine hN3 _ _ _ ?_
    refine nxa (j + 1) (by omega) (by repeat' first | exact rfl | refine And.intro ?_ ?_ | exact True.intro | (refine eqS ?_; rw [life_step ha]; done) | (refine eqS ?_; rw [told_step ha, List.map_append]; done) | (refine eqS ?_; rw [told_step ha, List.map_append]; rfl))
   ·refine hN3 _ _ _ ?_
    exact (by unfold bareLife; rw [← take_end hypj (by first | (left; omega) | (right; omega))]; rfl)
  ·refine hN3 _ _ _ ?_
   exact (by unfold bareLife; rw [← take_end hypj (by first | (left; omega) | (right; omega))]; rfl)
theorem impl_BareLife_f (all : List (List (List VIns))) (acts : List VAct) [Q (SmInsSSS all)] [Q (SmActS acts)] : Fun Tryz.prog 156 [L 1 (all.map dInsSS), L 6 (acts.map dAct)] (RG [.c (.sl 4 ((bareLife all acts).1.map dBare)), .c (.sl 2 ((bareLife all acts).2.map dTold))]) := by
 refine Fun.w 53 Tryz.func156 fun w g0 _ => ?_
 refine len ?_
 refine cut 0 (all.length.min 3) ?_ rfl (by show _ = ((min all.length 3 : Nat) : Int); split <;> omega) (Nat.zero_le _) (by rw [List.length_map]; exact Nat.min_le_left _ _)
 refine lenq (all.length.min 3) ?_ (by show ((all.map dInsSS).take (min all.length 3)).length = min all.length 3; rw [List.length_take, List.length_map]; omega)
 refine loopA [1, 4, 5, 6, 7, 20, 21] [6] [6] (fun (i : Nat) => [.set 22 (I i)]) (fun (i : Nat) => [(6, ⟨false, [.own (.sl 4 (((all.take i).map bareNew).map dBare))]⟩)]) (fun (i : Nat) => i ≤ all.length.min 3) (fun (i : Nat) => all.length.min 3 - i) (0) (Nat.zero_le _) ?_
 refine ⟨hda, fun i hyp N1 hN1 => ?_⟩
 have hyp : i ≤ all.length.min 3 := hyp
 have hal := (inferInstance : LenX all 1048576).h
 refine cnd (fun hb => ?_) (fun hb => ?_)
 ·have hlt : i < all.length.min 3 := by omega
  have hlt2 : i < all.length := Nat.lt_of_lt_of_le hlt (Nat.min_le_left _ _)
  obtain ⟨p, hp⟩ : ∃ p, all[i]? = some p := ⟨_, List.getElem?_eq_getElem (by omega)⟩
  have qp : Q (SmInsSS p) := ⟨ElS.h p (List.mem_of_getElem? hp)⟩
  refine ixd (m := i) (d := dInsSS p) (by show ((all.map dInsSS).take (min all.length 3))[i]? = _; have hi2 : i < min all.length 3 := hlt; rw [List.getElem?_take, if_pos hi2, List.getElem?_map, hp]; rfl) ?_
  first | refine ixs ?_ | refine ixo (by assumption) ?_ | refine ixoq (fun z1 hz1 qz1 lz1 => ?_) | skip
  refine callG (impl_BareNew_f p).k ?_
  first | refine appOq ?_ | refine appO ?_
  refine rng ?_
  refine hN1 _ _ _ ?_
  refine nxa (i + 1) (by omega) (by repeat' first | exact rfl | refine And.intro ?_ ?_ | exact True.intro | (refine eqS ?_; (rw [List.take_add_one, hp, List.map_append, List.map_append]; rfl)) | (refine eqS ?_; (rw [List.take_add_one, hp, List.map_append, List.map_append]; done)))
 ·refine hN1 _ _ _ ?_
  refine callA (impl_firstActs_f acts) ?_
  refine len ?_
  refine loopA [4, 5, 6, 7, 33, 34] [6, 7] [6, 7] (fun (j : Nat) => [.set 35 (I j)]) (fun (j : Nat) => [(6, ⟨false, [.own (.sl 4 ((lifeOf bareAct ((acts.take 80).take j) ((all.take 3).map bareNew)).map dBare))]⟩), (7, ⟨false, [.own (.sl 2 ((toldOf bareAct ((acts.take 80).take j) ((all.take 3).map bareNew)).map dTold))]⟩)]) (fun (j : Nat) => j ≤ (acts.take 80).length) (fun (j : Nat) => (acts.take 80).length - j) (0) (Nat.zero_le _) ?_
  refine ⟨(hda (by repeat' first | exact rfl | refine And.intro ?_ ?_ | exact True.intro | (refine eqS ?_; rw [take_min (by omega) hyp]; rfl))), fun j hypj N2 hN2 => ?_⟩
  have hypj : j ≤ (acts.take 80).length := hypj
  have hcl := (inferInstance : LenX (acts.take 80) 1048576).h
  refine cnd (fun hb2 => ?_) (fun hb2 => ?_)
  ·obtain ⟨a, ha⟩ : ∃ a, (acts.take 80)[j]? = some a := ⟨_, List.getElem?_eq_getElem (by omega)⟩
   refine ixm ha ?_
   first | refine ixs ?_ | refine ixo (by assumption) ?_ | refine ixoq (fun z2 hz2 qz2 lz2 => ?_) | skip
   refine callG (impl_BareAct_f (lifeOf bareAct ((acts.take 80).take j) ((all.take 3).map bareNew)) a).k ?_
   first | refine appPq ?_ | refine appP ?_
   refine rng ?_
   refine hN2 _ _ _ ?_
   refine nxa (j + 1) (by omega) (by repeat' first | exact rfl | refine And.intro ?_ ?_ | exact True.intro | (refine eqS ?_; rw [life_step ha]; done) | (refine eqS ?_; rw [told_step ha, List.map_append]; done) | (refine eqS ?_; rw [told_step ha, List.map_append]; rfl))
  ·refine hN2 _ _ _ ?_
   exact (by rw [bareLife_at (j := j) (by omega)]; rfl)
theorem spec_StayedLife_f (all : List (List (List VIns))) (first : List VAct) (thn : List VAct) [Q (SmInsSSS all)] [Q (SmActS first)] [Q (SmActS thn)] : Fun Tryz.prog 49 [L 1 (all.map dInsSS), L 6 (first.map dAct), L 6 (thn.map dAct)] (RG [.c (.sl 4 ((stayedLife all first thn).1.map dBare)), .c (.sl 2 ((stayedLife all first thn).2.map dTold))]) := by
 refine Fun.w 43 Tryz.func49 fun w g0 _ => ?_
 refine callG (spec_BareLife_f all first).k ?_
 refine callL (spec_OfZero_f thn).k ?_
 refine loopA [6, 7, 8, 9, 10] [8, 9] [8, 9] (fun (i : Nat) => [.set 11 (I i)]) (fun (i : Nat) => [(8, ⟨false, [.own (.sl 4 ((lifeOf bareAct ((ofZero thn).take i) (bareLife all first).1).map dBare))]⟩), (9, ⟨false, [.own (.sl 2 (((bareLife all first).2 ++ toldOf bareAct ((ofZero thn).take i) (bareLife all first).1).map dTold))]⟩)]) (fun (i : Nat) => i ≤ (ofZero thn).length) (fun (i : Nat) => (ofZero thn).length - i) (0) (Nat.zero_le _) ?_
 refine ⟨(hda (by repeat' first | exact rfl | refine And.intro ?_ ?_ | exact True.intro | (refine eqS ?_; first | (rw [List.take_zero, show toldOf bareAct [] _ = [] from rfl, List.append_nil]; done) | rfl))), fun i hyp N1 hN1 => ?_⟩
 have hyp : i ≤ (ofZero thn).length := hyp
 have hzl := (inferInstance : LenX (ofZero thn) 1048576).h
 refine len ?_
 refine cnd (fun hb => ?_) (fun hb => ?_)
 ·obtain ⟨a, ha⟩ : ∃ a, (ofZero thn)[i]? = some a := ⟨_, List.getElem?_eq_getElem (by omega)⟩
  first | refine ixm (by assumption) ?_ | refine bnd ?_ | refine bndi ?_ | refine ixkq (fun y32 hy32 qy32 ly32 => ?_) | refine ixiq (fun y32 hy32 qy32 ly32 => ?_)
  first | refine ixs ?_ | refine ixo (by assumption) ?_ | refine ixoq (fun z1 hz1 qz1 lz1 => ?_) | skip
  refine callG (spec_BareAct_f (lifeOf bareAct ((ofZero thn).take i) (bareLife all first).1) a).k ?_
  first | refine appPq ?_ | refine appP ?_
  refine rng ?_
  refine hN1 _ _ _ ?_
  refine nxa (i + 1) (by omega) (by repeat' first | exact rfl | refine And.intro ?_ ?_ | exact True.intro | (refine eqS ?_; rw [stayed_told ha]; done) | (refine eqS ?_; rw [stayed_told ha]; rfl) | (refine eqS ?_; rw [life_step ha]; done))
 ·refine hN1 _ _ _ ?_
  exact (by rw [stayedLife_at (i := i) (by omega)]; rfl)
theorem impl_StayedLife_f (all : List (List (List VIns))) (first : List VAct) (thn : List VAct) [Q (SmInsSSS all)] [Q (SmActS first)] [Q (SmActS thn)] : Fun Tryz.prog 52 [L 1 (all.map dInsSS), L 6 (first.map dAct), L 6 (thn.map dAct)] (RG [.c (.sl 4 ((stayedLife all first thn).1.map dBare)), .c (.sl 2 ((stayedLife all first thn).2.map dTold))]) := by
 refine Fun.w 41 Tryz.func52 fun w g0 _ => ?_
 refine callG (impl_BareLife_f all first).k ?_
 refine callL (impl_OfZero_f thn).k ?_
 refine len ?_
 refine loopA [6, 7, 8, 9, 21, 22] [8, 9] [8, 9] (fun (i : Nat) => [.set 23 (I i)]) (fun (i : Nat) => [(8, ⟨false, [.own (.sl 4 ((lifeOf bareAct ((ofZero thn).take i) (bareLife all first).1).map dBare))]⟩), (9, ⟨false, [.own (.sl 2 (((bareLife all first).2 ++ toldOf bareAct ((ofZero thn).take i) (bareLife all first).1).map dTold))]⟩)]) (fun (i : Nat) => i ≤ (ofZero thn).length) (fun (i : Nat) => (ofZero thn).length - i) (0) (Nat.zero_le _) ?_
 refine ⟨(hda (by repeat' first | exact rfl | refine And.intro ?_ ?_ | exact True.intro | (refine eqS ?_; first | (rw [List.take_zero, show toldOf bareAct [] _ = [] from rfl, List.append_nil]; done) | rfl))), fun i hyp N1 hN1 => ?_⟩
 have hyp : i ≤ (ofZero thn).length := hyp
 have hzl := (inferInstance : LenX (ofZero thn) 1048576).h
 refine cnd (fun hb => ?_) (fun hb => ?_)
 ·obtain ⟨a, ha⟩ : ∃ a, (ofZero thn)[i]? = some a := ⟨_, List.getElem?_eq_getElem (by omega)⟩
  first | refine ixm (by assumption) ?_ | refine bnd ?_ | refine bndi ?_ | refine ixkq (fun y25 hy25 qy25 ly25 => ?_) | refine ixiq (fun y25 hy25 qy25 ly25 => ?_)
  first | refine ixs ?_ | refine ixo (by assumption) ?_ | refine ixoq (fun z1 hz1 qz1 lz1 => ?_) | skip
  refine callG (impl_BareAct_f (lifeOf bareAct ((ofZero thn).take i) (bareLife all first).1) a).k ?_
  first | refine appPq ?_ | refine appP ?_
  refine rng ?_
  refine hN1 _ _ _ ?_
  refine nxa (i + 1) (by omega) (by repeat' first | exact rfl | refine And.intro ?_ ?_ | exact True.intro | (refine eqS ?_; rw [stayed_told ha]; done) | (refine eqS ?_; rw [stayed_told ha]; rfl) | (refine eqS ?_; rw [life_step ha]; done))
 ·refine hN1 _ _ _ ?_
  exact (by rw [stayedLife_at (i := i) (by omega)]; rfl)
end Go.Proofs.YteelmdpahpggkaaGreat.T

namespace Go.Proofs.YteelmdpahpggkaaGreat.T
open Go
set_option linter.unusedVariables false
set_option linter.unusedSimpArgs false
set_option maxRecDepth 100000
set_option maxHeartbeats 8000000
end Go.Proofs.YteelmdpahpggkaaGreat.T

namespace Go.Proofs.YteelmdpahpggkaaGreat.T
open Go
set_option linter.unusedVariables false
set_option linter.unusedSimpArgs false
set_option maxRecDepth 100000
set_option maxHeartbeats 8000000
abbrev monOr (h : VHost) (m : Int) : VMon := (monAt h m).getD noMon
end Go.Proofs.YteelmdpahpggkaaGreat.T

namespace Go.Proofs.YteelmdpahpggkaaGreat.T
open Go
set_option linter.unusedVariables false
set_option linter.unusedSimpArgs false
set_option maxRecDepth 100000
set_option maxHeartbeats 8000000
theorem left_len (h : VHost) (v : VMove) : (moveLeft h v).length ≤ 8 := by
 unfold moveLeft
 split
 ·simp
 ·split
  ·exact rangeF_len
  ·simp
instance (h : VHost) (v : VMove) : LenX (moveLeft h v) 8 := ⟨left_len h v⟩
theorem sm_monOr {h : VHost} {m : Int} (hh : SmHost h) : SmMon (monOr h m) := by
 unfold monOr
 cases h1 : monAt h m with
 | none => exact ⟨by simp [SmSlotS], ⟨by simp, fun x hx => by cases hx⟩, by simp [SmBoolS], ⟨by simp, fun x hx => by cases hx⟩, by simp [SmIntS], ⟨by simp, fun x hx => by cases hx⟩⟩
 | some x =>
  unfold monAt at? at h1
  split at h1
  ·exact hh.2.1.2 x (List.mem_of_getElem? h1)
  ·cases h1
instance (h : VHost) (m : Int) [hh : Q (SmHost h)] : Q (SmMon (monOr h m)) := ⟨sm_monOr hh.h⟩
end Go.Proofs.YteelmdpahpggkaaGreat.T

