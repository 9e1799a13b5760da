
import Derived.Test.YteelmdpahpggkaaGreatPdp
import Derived.Test.YteelmdpahpggkaaGreatRpp
namespace Go.Proofs.YteelmdpahpggkaaGreat.T
open Go
set_option linter.unusedVariables false
set_option linter.unusedSimpArgs false
set_option maxRecDepth 100000
set_option maxHeartbeats 8000000
theorem ack_pair {b : VBare} : yieldsN b (-1) (bareAck b) = (ackB b, ⟨(bareAck b).isSome, ackN b⟩) := by
 unfold ackB ackN
 cases bareAck b <;> rfl
theorem read_pair {b : VBare} {g a : Int} : yieldsN b 0 ((bareRead b g a).map fun n => (b, n)) = (b, ⟨(bareRead b g a).isSome, (bareRead b g a).getD 0⟩) := by cases bareRead b g a <;> rfl
theorem ba_1 {b : VBare} {a : VAct} (h : a.Kind = 1) : bareAct1 b a = yields b (bareStep b a.G) := by unfold bareAct1; rw [if_pos h]
theorem ba_2 {b : VBare} {a : VAct} (h : a.Kind = 2) : bareAct1 b a = yields b (bareSet b a.G a.X ⟨a.Y, a.Z⟩) := by unfold bareAct1; rw [if_neg (by omega), if_pos h]
theorem ba_3 {b : VBare} {a : VAct} (h : a.Kind = 3) : bareAct1 b a = yields b (bareFlush b a.G a.X) := by unfold bareAct1; rw [if_neg (by omega), if_neg (by omega), if_pos h]
theorem ba_4 {b : VBare} {a : VAct} (h : a.Kind = 4) : bareAct1 b a = yields b (bareAnswer b a.G a.X) := by unfold bareAct1; rw [if_neg (by omega), if_neg (by omega), if_neg (by omega), if_pos h]
theorem ba_5 {b : VBare} {a : VAct} (h : a.Kind = 5) : bareAct1 b a = yields b (bareResume b a.G) := by unfold bareAct1; rw [if_neg (by omega), if_neg (by omega), if_neg (by omega), if_neg (by omega), if_pos h]
theorem ba_6 {b : VBare} {a : VAct} (h : a.Kind = 6) : bareAct1 b a = yields b (bareInject b a.G a.X) := by unfold bareAct1; rw [if_neg (by omega), if_neg (by omega), if_neg (by omega), if_neg (by omega), if_neg (by omega), if_pos h]
theorem ba_7 {b : VBare} {a : VAct} (h : a.Kind = 7) : bareAct1 b a = yields b (bareCtl b a.G (ctlOf a)) := by unfold bareAct1; rw [if_neg (by omega), if_neg (by omega), if_neg (by omega), if_neg (by omega), if_neg (by omega), if_neg (by omega), if_pos h]
theorem ba_8 {b : VBare} {a : VAct} (h : a.Kind = 8) : bareAct1 b a = yields b (barePoke b a.X a.Y a.Z) := by unfold bareAct1; rw [if_neg (by omega), if_neg (by omega), if_neg (by omega), if_neg (by omega), if_neg (by omega), if_neg (by omega), if_neg (by omega), if_pos h]
theorem ba_9 {b : VBare} {a : VAct} (h : a.Kind = 9) : bareAct1 b a = yields b (barePost b a.X) := by unfold bareAct1; rw [if_neg (by omega), if_neg (by omega), if_neg (by omega), if_neg (by omega), if_neg (by omega), if_neg (by omega), if_neg (by omega), if_neg (by omega), if_pos h]
theorem ba_10 {b : VBare} {a : VAct} (h : a.Kind = 10) : bareAct1 b a = (ackB b, ⟨(bareAck b).isSome, ackN b⟩) := by unfold bareAct1; rw [if_neg (by omega), if_neg (by omega), if_neg (by omega), if_neg (by omega), if_neg (by omega), if_neg (by omega), if_neg (by omega), if_neg (by omega), if_neg (by omega), if_pos h, ack_pair]
theorem ba_11 {b : VBare} {a : VAct} (h : a.Kind = 11) : bareAct1 b a = yields b (bareDma b a.G a.X a.Y) := by unfold bareAct1; rw [if_neg (by omega), if_neg (by omega), if_neg (by omega), if_neg (by omega), if_neg (by omega), if_neg (by omega), if_neg (by omega), if_neg (by omega), if_neg (by omega), if_neg (by omega), if_pos h]
theorem ba_12 {b : VBare} {a : VAct} (h : a.Kind = 12) : bareAct1 b a = (b, ⟨(bareRead b a.G a.X).isSome, (bareRead b a.G a.X).getD 0⟩) := by unfold bareAct1; rw [if_neg (by omega), if_neg (by omega), if_neg (by omega), if_neg (by omega), if_neg (by omega), if_neg (by omega), if_neg (by omega), if_neg (by omega), if_neg (by omega), if_neg (by omega), if_neg (by omega), if_pos h, read_pair]
theorem bact_no {l : List VBare} {a : VAct} (h : actOk a = false ∨ isOuter a.Kind = true) : bareAct l a = (l, ⟨false, 0⟩) := by
 unfold bareAct
 rw [if_neg]
 intro e
 rw [Bool.and_eq_true] at e
 rcases h with h | h
 ·rw [h] at e; exact absurd e.1 (by decide)
 ·rw [h] at e; exact absurd e.2 (by decide)
theorem bact_off {l : List VBare} {a : VAct} (h1 : actOk a = true) (h2 : isOuter a.Kind = false) (h : ¬ (0 ≤ a.M ∧ a.M < l.length)) : bareAct l a = (l, ⟨false, if a.Kind = 10 then -1 else 0⟩) := by
 unfold bareAct
 rw [if_pos (by rw [h1, h2]; rfl), at_out h]
theorem bact_in {l : List VBare} {a : VAct} {b : VBare} (h1 : actOk a = true) (h2 : isOuter a.Kind = false) (h0 : 0 ≤ a.M) (hb : l[a.M.toNat]? = some b) : bareAct l a = (l.set a.M.toNat (bareAct1 b a).1, (bareAct1 b a).2) := by
 unfold bareAct
 rw [if_pos (by rw [h1, h2]; rfl), at_in h0 hb]
 simp only
 rw [put_in h0]
theorem act_kind {a : VAct} (h1 : actOk a = true) (h2 : isOuter a.Kind = false) : 1 ≤ a.Kind ∧ a.Kind ≤ 12 := by
 unfold actOk inR at h1
 unfold isOuter inR at h2
 have h1 := of_decide_eq_true h1
 have h2 := of_decide_eq_false h2
 omega
theorem new_end {ps : List (List VIns)} {i : Nat} (h : i ≤ ps.length ∧ i ≤ 2) (h2 : ¬ i < ps.length ∨ ¬ i < 2) : ps.take i = ps.take 2 := by
 by_cases h3 : i < 2
 ·rw [List.take_of_length_le (by omega), List.take_of_length_le (by omega)]
 ·rw [show i = 2 by omega]
theorem new_min {ps : List (List VIns)} {i : Nat} (h : ps.length.min 2 ≤ i) (h2 : i ≤ ps.length.min 2) : ps.take i = ps.take 2 := by
 have : i = ps.length.min 2 := Nat.le_antisymm h2 h
 subst this
 have h3 : ps.length.min 2 = min ps.length 2 := rfl
 rw [h3]
 by_cases h4 : ps.length ≤ 2
 ·rw [Nat.min_eq_left h4, List.take_of_length_le (Nat.le_refl _), List.take_of_length_le h4]
 ·rw [Nat.min_eq_right (by omega)]
theorem act_take {acts : List VAct} : (acts.map dAct).take (min acts.length 80) = (acts.take 80).map dAct := by
 rw [← List.map_take]
 congr 1
 by_cases h : acts.length ≤ 80
 ·rw [Nat.min_eq_left h, List.take_of_length_le (Nat.le_refl _), List.take_of_length_le h]
 ·rw [Nat.min_eq_right (by omega)]
theorem sm_yields {b : VBare} {q : Option VBare} (hb : SmBare b) (h : ∀ x, q = some x → SmBare x) : SmBare (yields b q).1 := by
 cases q with
 | none => exact hb
 | some x => exact h x rfl
theorem spec_ActOk_f (a : VAct) : Fun Tryz.prog 232 [A (rAct a)] (RV (.bool (actOk a))) := by
 refine Fun.w 6 Tryz.func232 fun w g0 _ => ?_
 refine callP (spec_l01In_f _ _ _).k ?_
 exact rfl
theorem impl_ActOk_f (a : VAct) : Fun Tryz.prog 250 [A (rAct a)] (RV (.bool (actOk a))) := by
 refine Fun.w 6 Tryz.func250 fun w g0 _ => ?_
 refine callP (impl_within_f _ _ _).k ?_
 exact rfl
theorem spec_IsOuter_f (k : Int) : Fun Tryz.prog 233 [I k] (RV (.bool (isOuter k))) := by
 refine Fun.w 5 Tryz.func233 fun w g0 _ => ?_
 refine callP (spec_l01In_f _ _ _).k ?_
 exact rfl
theorem impl_IsOuter_f (k : Int) : Fun Tryz.prog 251 [I k] (RV (.bool (isOuter k))) := by
 refine Fun.w 5 Tryz.func251 fun w g0 _ => ?_
 refine callP (impl_within_f _ _ _).k ?_
 exact rfl
theorem spec_CtlOf_f (a : VAct) : Fun Tryz.prog 241 [A (rAct a)] (RP (A (rCtl (ctlOf a)))) := by
 refine Fun.w 11 Tryz.func241 fun w g0 _ => ?_
 exact rfl
theorem impl_CtlOf_f (a : VAct) : Fun Tryz.prog 275 [A (rAct a)] (RP (A (rCtl (ctlOf a)))) := by
 refine Fun.w 11 Tryz.func275 fun w g0 _ => ?_
 exact rfl
theorem spec_BareNew_f (ps : List (List VIns)) [Q (SmInsSS ps)] : Fun Tryz.prog 230 [L 1 (ps.map dInsS)] (RG [.a (rBare (bareNew ps))]) := by
 refine Fun.w 28 Tryz.func230 fun w g0 _ => ?_
 refine callL (spec_MemNew_f 8 (by omega)).k ?_
 refine loopA [0, 2, 3] [] [3, 6] (fun (i : Nat) => [.set 4 (I i)]) (fun (i : Nat) => [(3, ⟨true, [.own (.sl 1 ((memNew 8).map dIntS)), .own (.sl 15 (((ps.take i).map guestNew).map dGuest)), .own (.sl 1 []), .own (.v (.int .i64 0))]⟩)]) (fun (i : Nat) => i ≤ ps.length ∧ i ≤ 2) (fun (i : Nat) => 2 - i) (0) (by simp) ?_
 refine ⟨hda, fun i hyp N1 hN1 => ?_⟩
 have hyp : i ≤ ps.length ∧ i ≤ 2 := hyp
 have hpl := (inferInstance : LenX ps 1048576).h
 refine len ?_
 refine cnd (fun hg4 => ?_) (fun hg4 => ?_)
 ·refine cnd (fun hb => ?_) (fun hb => ?_)
  ·obtain ⟨p, hp⟩ : ∃ p, ps[i]? = some p := ⟨_, List.getElem?_eq_getElem (by omega)⟩
   have qp : Q (SmInsS p) := ⟨ElS.h p (List.mem_of_getElem? hp)⟩
   refine regU [8, 10] [(0, 0), (1, 0), (2, 0), (3, 0), (4, 0), (5, 0), (6, 1), (7, 1), (8, 1), (9, 0), (10, 1)] ?_
   refine ixm hp ?_
   first | refine ixs ?_ | refine ixo (by assumption) ?_ | refine ixoq (fun z1 hz1 qz1 lz1 => ?_) | skip
   refine callG (spec_GuestNew_f p).k ?_
   first | refine appOq ?_ | refine appO ?_
   refine rng ?_
   refine hN1 _ _ _ ?_
   refine nxa (i + 1) (by omega) (by repeat' first | exact rfl | refine And.intro ?_ ?_ | exact True.intro | (refine eqS ?_; (rw [List.take_add_one, hp, List.map_append, List.map_append]; rfl)))
  ·refine hN1 _ _ _ ?_
   exact (by unfold bareNew; rw [← new_end hyp (by first | (left; omega) | (right; omega))]; rfl)
 ·refine hN1 _ _ _ ?_
  exact (by unfold bareNew; rw [← new_end hyp (by first | (left; omega) | (right; omega))]; rfl)
theorem impl_BareNew_f (ps : List (List VIns)) [Q (SmInsSS ps)] : Fun Tryz.prog 248 [L 1 (ps.map dInsS)] (RG [.a (rBare (bareNew ps))]) := by
 refine Fun.w 27 Tryz.func248 fun w g0 _ => ?_
 refine callL (impl_MemNew_f 8 (by omega)).k ?_
 refine len ?_
 refine cut 0 (ps.length.min 2) ?_ rfl (by show _ = ((min ps.length 2 : Nat) : Int); split <;> omega) (Nat.zero_le _) (by rw [List.length_map]; exact Nat.min_le_left _ _)
 refine lenq (ps.length.min 2) ?_ (by show ((ps.map dInsS).take (min ps.length 2)).length = min ps.length 2; rw [List.length_take, List.length_map]; omega)
 refine loopA [2, 3, 12, 13] [] [3, 7] (fun (i : Nat) => [.set 14 (I i)]) (fun (i : Nat) => [(3, ⟨true, [.own (.sl 1 ((memNew 8).map dIntS)), .own (.sl 15 (((ps.take i).map guestNew).map dGuest)), .own (.sl 1 []), .own (.v (.int .i64 0))]⟩)]) (fun (i : Nat) => i ≤ ps.length.min 2) (fun (i : Nat) => ps.length.min 2 - i) (0) (Nat.zero_le _) ?_
 refine ⟨hda, fun i hyp N1 hN1 => ?_⟩
 have hyp : i ≤ ps.length.min 2 := hyp
 have hpl := (inferInstance : LenX ps 1048576).h
 refine cnd (fun hb => ?_) (fun hb => ?_)
 ·have hlt : i < ps.length.min 2 := by omega
  have hlt2 : i < ps.length := Nat.lt_of_lt_of_le hlt (Nat.min_le_left _ _)
  obtain ⟨p, hp⟩ : ∃ p, ps[i]? = some p := ⟨_, List.getElem?_eq_getElem (by omega)⟩
  have qp : Q (SmInsS p) := ⟨ElS.h p (List.mem_of_getElem? hp)⟩
  refine ixd (m := i) (d := dInsS p) (by show ((ps.map dInsS).take (min ps.length 2))[i]? = _; have hi2 : i < min ps.length 2 := hlt; rw [List.getElem?_take, if_pos hi2, List.getElem?_map, hp]; rfl) ?_
  first | refine ixs ?_ | refine ixo (by assumption) ?_ | refine ixoq (fun z1 hz1 qz1 lz1 => ?_) | skip
  refine regU [5, 7] [(0, 0), (1, 0), (2, 0), (3, 1), (4, 1), (5, 1), (6, 0), (7, 1)] ?_
  refine callG (impl_GuestNew_f p).k ?_
  first | refine appOq ?_ | refine appO ?_
  refine rng ?_
  refine hN1 _ _ _ ?_
  refine nxa (i + 1) (by omega) (by repeat' first | exact rfl | refine And.intro ?_ ?_ | exact True.intro | (refine eqS ?_; (rw [List.take_add_one, hp, List.map_append, List.map_append]; rfl)))
 ·refine hN1 _ _ _ ?_
  exact (by unfold bareNew; rw [← new_min (by omega) hyp]; rfl)
theorem spec_l28Bares_f (l : List VBare) [Q (SmBareS l)] : Fun Tryz.prog 231 [L 4 (l.map dBare)] (RL 4 (l.map dBare)) := by
 refine Fun.w 21 Tryz.func231 fun w g0 hM => ?_
 have hl0 := hM.1.map
 refine loopA [0, 2, 3] [3] [3] (fun (i : Nat) => [.set 4 (I i)]) (fun (i : Nat) => [(3, ⟨false, [.own (.sl 4 ((l.take i).map dBare))]⟩)]) (fun (i : Nat) => i ≤ l.length) (fun (i : Nat) => l.length - i) (0) (Nat.zero_le _) ?_
 refine ⟨hda, fun i hyp N1 hN1 => ?_⟩
 have hyp : i ≤ l.length := hyp
 refine len ?_
 refine cnd (fun hb => ?_) (fun hb => ?_)
 ·first | refine ixm (by assumption) ?_ | refine bnd ?_ | refine bndi ?_ | refine ixkq (fun y15 hy15 qy15 ly15 => ?_) | refine ixiq (fun y15 hy15 qy15 ly15 => ?_)
  first | refine ixs ?_ | refine ixo (by assumption) ?_ | refine ixoq (fun z1 hz1 qz1 lz1 => ?_) | skip
  refine callG (spec_l17Copy_f _).k ?_
  first | refine appOq ?_ | refine appO ?_
  refine rng ?_
  refine hN1 _ _ _ ?_
  refine nxa (i + 1) (by omega)
 ·refine hN1 _ _ _ ?_
  exact (by rw [List.take_of_length_le (by omega)]; rfl)
theorem impl_copyBares_f (l : List VBare) [Q (SmBareS l)] : Fun Tryz.prog 249 [L 4 (l.map dBare)] (RL 4 (l.map dBare)) := by
 refine Fun.w 20 Tryz.func249 fun w g0 hM => ?_
 have hl0 := hM.1.map
 refine len ?_
 refine loopA [2, 3, 7, 8] [3] [3] (fun (i : Nat) => [.set 9 (I i)]) (fun (i : Nat) => [(3, ⟨false, [.own (.sl 4 ((l.take i).map dBare))]⟩)]) (fun (i : Nat) => i ≤ l.length) (fun (i : Nat) => l.length - i) (0) (Nat.zero_le _) ?_
 refine ⟨hda, fun i hyp N1 hN1 => ?_⟩
 have hyp : i ≤ l.length := hyp
 refine cnd (fun hb => ?_) (fun hb => ?_)
 ·first | refine ixm (by assumption) ?_ | refine bnd ?_ | refine bndi ?_ | refine ixkq (fun y11 hy11 qy11 ly11 => ?_) | refine ixiq (fun y11 hy11 qy11 ly11 => ?_)
  first | refine ixs ?_ | refine ixo (by assumption) ?_ | refine ixoq (fun z1 hz1 qz1 lz1 => ?_) | skip
  refine callG (impl_copyBare_f _).k ?_
  first | refine appOq ?_ | refine appO ?_
  refine rng ?_
  refine hN1 _ _ _ ?_
  refine nxa (i + 1) (by omega)
 ·refine hN1 _ _ _ ?_
  exact (by rw [List.take_of_length_le (by omega)]; rfl)
theorem impl_bareAct_f (b : VBare) (a : VAct) [Q (SmBare b)] (hk : 1 ≤ a.Kind ∧ a.Kind ≤ 11) : Fun Tryz.prog 252 [A (rBare b), A (rAct a)] (RG [.a (rBare (bareAct1 b a).1), .a (rTold (bareAct1 b a).2)]) := by
 refine Fun.w 148 Tryz.func252 fun w g0 _ => ?_
 refine cnd (fun hb => ?_) (fun hb => ?_)
 ·refine callG (impl_BareStep_f b a.G).k ?_
  exact (by rw [ba_1 (by assumption)]; rfl)
 ·refine cnd (fun hb2 => ?_) (fun hb2 => ?_)
  ·refine callG (impl_BareSet_f b a.G a.X ⟨a.Y, a.Z⟩).k ?_
   exact (by rw [ba_2 (by assumption)]; rfl)
  ·refine cnd (fun hb3 => ?_) (fun hb3 => ?_)
   ·refine callG (impl_BareFlush_f b a.G a.X).k ?_
    exact (by rw [ba_3 (by assumption)]; rfl)
   ·refine cnd (fun hb4 => ?_) (fun hb4 => ?_)
    ·refine callG (impl_BareAnswer_f b a.G a.X).k ?_
     exact (by rw [ba_4 (by assumption)]; rfl)
    ·refine cnd (fun hb5 => ?_) (fun hb5 => ?_)
     ·refine callG (impl_BareResume_f b a.G).k ?_
      exact (by rw [ba_5 (by assumption)]; rfl)
     ·refine cnd (fun hb6 => ?_) (fun hb6 => ?_)
      ·refine callG (impl_BareInject_f b a.G a.X).k ?_
       exact (by rw [ba_6 (by assumption)]; rfl)
      ·refine cnd (fun hb7 => ?_) (fun hb7 => ?_)
       ·refine regT [7, 8, 9] [] [] (.quiet 0 0 (.quiet 1 0 (.quiet 2 0 (.quiet 3 0 (.fork (.alt 4 (.fork (.alt 5 (.quiet 6 0 (.fork (.alt 7 (.fork (.alt 8 (.fork (.alt 9 (.quiet 10 0 .done) .stop)) (.alt 9 (.fork (.alt 8 (.quiet 10 0 .done) .stop)) .stop))) (.alt 8 (.fork (.alt 7 (.fork (.alt 9 (.quiet 10 0 .done) .stop)) .stop)) .stop)))) .stop)) .stop)))))) ?_
        repeat' first | exact True.intro | refine And.intro ?_ ?_ | (intro _ _) | refine callP (impl_CtlOf_f a).k ?_ | refine callG (impl_BareCtl_f b a.G (ctlOf a)).k ?_
        all_goals exact (by rw [ba_7 (by assumption)]; rfl)
       ·refine cnd (fun hb8 => ?_) (fun hb8 => ?_)
        ·refine callG (impl_BarePoke_f b a.X a.Y a.Z).k ?_
         exact (by rw [ba_8 (by assumption)]; rfl)
        ·refine cnd (fun hb9 => ?_) (fun hb9 => ?_)
         ·refine callG (impl_BarePost_f b a.X).k ?_
          exact (by rw [ba_9 (by assumption)]; rfl)
         ·refine cnd (fun hb10 => ?_) (fun hb10 => ?_)
          ·refine callG (impl_BareAck_f b).k ?_
           exact (by rw [ba_10 (by assumption)]; rfl)
          ·refine cnd (fun hb11 => ?_) (fun hb11 => ?_)
           ·refine callG (impl_BareDma_f b a.G a.X a.Y).k ?_
            exact (by rw [ba_11 (by assumption)]; rfl)
           ·refine cnd (fun hb12 => ?_) (fun hb12 => ?_)
            ·omega
            ·exact (by exfalso; omega)
theorem impl_bareAct_r (b : VBare) (a : VAct) [Q (SmBare b)] (hk : a.Kind = 12) : FunA Tryz.prog 252 [A (rBare b), A (rAct a)] (.tup [.agg ((rBare b).map C.ro), .agg [.ro (.v (.bool (bareRead b a.G a.X).isSome)), .ro (.v (.int .i64 ((bareRead b a.G a.X).getD 0)))]]) := by
 refine FunA.w 148 Tryz.func252 fun w g0 _ => ?_
 refine cnd (fun hb => ?_) (fun hb => ?_)
 ·omega
 ·refine cnd (fun hb2 => ?_) (fun hb2 => ?_)
  ·omega
  ·refine cnd (fun hb3 => ?_) (fun hb3 => ?_)
   ·omega
   ·refine cnd (fun hb4 => ?_) (fun hb4 => ?_)
    ·omega
    ·refine cnd (fun hb5 => ?_) (fun hb5 => ?_)
     ·omega
     ·refine cnd (fun hb6 => ?_) (fun hb6 => ?_)
      ·omega
      ·refine cnd (fun hb7 => ?_) (fun hb7 => ?_)
       ·omega
       ·refine cnd (fun hb8 => ?_) (fun hb8 => ?_)
        ·omega
        ·refine cnd (fun hb9 => ?_) (fun hb9 => ?_)
         ·omega
         ·refine cnd (fun hb10 => ?_) (fun hb10 => ?_)
          ·omega
          ·refine cnd (fun hb11 => ?_) (fun hb11 => ?_)
           ·omega
           ·refine cnd (fun hb12 => ?_) (fun hb12 => ?_)
            ·refine callG (impl_BareRead_f b a.G a.X).k ?_
             exact rfl
            ·exact (by exfalso; omega)
theorem impl_firstActs_f (acts : List VAct) : FunA Tryz.prog 173 [L 6 (acts.map dAct)] (L 6 ((acts.take 80).map dAct)) := by
 refine FunA.w 8 Tryz.func173 fun w g0 _ => ?_
 refine len ?_
 refine cut 0 (min acts.length 80) ?_ rfl (by split <;> omega) (Nat.zero_le _) (by rw [List.length_map]; exact Nat.min_le_left _ _)
 exact (by rw [← act_take]; rfl)
end Go.Proofs.YteelmdpahpggkaaGreat.T

