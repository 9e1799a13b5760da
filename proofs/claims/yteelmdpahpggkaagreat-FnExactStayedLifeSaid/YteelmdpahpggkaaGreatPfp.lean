
import Derived.Test.YteelmdpahpggkaaGreatPep
namespace Go.Proofs.YteelmdpahpggkaaGreat.T
open Go
set_option linter.unusedVariables false
set_option linter.unusedSimpArgs false
set_option maxRecDepth 100000
set_option maxHeartbeats 8000000
theorem sm_onGuest {b : VBare} {g : Int} {f : VGuest → Option VGuest} (hb : SmBare b) (hf : ∀ x y, SmGuest x → f x = some y → SmGuest y) : ∀ c, onGuest b g f = some c → SmBare c := by
 intro c hc
 unfold onGuest at hc
 split at hc
 ·cases hx : at? b.Guests g with
  | none => rw [hx] at hc; cases hc
  | some x =>
   rw [hx] at hc
   have hc : (f x).map (withGuest b g) = some c := hc
   cases hy : f x with
   | none => rw [hy] at hc; cases hc
   | some y =>
    rw [hy] at hc
    simp only [Option.map_some, Option.some.injEq] at hc
    subst hc
    refine sm_with hb (hf x y ?_ hy)
    have := sm_guestOr (g := g) hb
    rwa [guestOr_eq hx] at this
 ·cases hc
theorem sm_loaded {x : VGuest} {v : Int} (h : SmGuest x) : SmGuest (loaded x v) :=
 have : Q (SmGuest x) := ⟨h⟩
 (inferInstance : Q (SmGuest (loaded x v))).h
theorem sm_stepOf {b : VBare} {g : Int} {x : VGuest} (hb : SmBare b) (hx : SmGuest x) : SmBare (stepOf b g x) := by
 have hq : Q (SmGuest x) := ⟨hx⟩
 have ht : ∀ w, SmBare (touched b g x w) := fun w => by
  unfold touched
  split
  ·exact sm_with hb hx
  ·split
   ·exact sm_with ⟨sm_cell hb.1, hb.2⟩ hx
   ·exact sm_with hb (sm_loaded hx)
 unfold stepOf
 split
 ·exact sm_with hb (inferInstance : Q (SmGuest (interrupted x))).h
 ·split
  ·exact sm_with hb (inferInstance : Q (SmGuest (plainly x))).h
  ·split
   ·exact ht _
   ·split
    ·exact ht _
    ·split
     ·exact sm_with hb hx
     ·split
      ·refine sm_with hb ?_
       unfold trapped
       split <;> exact hx
      ·split
       ·exact sm_with (sm_putOut hb) hx
       ·exact sm_with hb hx
theorem sm_step {b : VBare} {g : Int} (hb : SmBare b) : ∀ c, bareStep b g = some c → SmBare c := by
 intro c hc
 unfold bareStep at hc
 split at hc
 ·cases hx : at? b.Guests g with
  | none => rw [hx] at hc; cases hc
  | some x =>
   rw [hx] at hc
   have hc : (if wantOf x = 0 then none else some (stepOf b g x)) = some c := hc
   split at hc
   ·cases hc
   ·cases hc
    have := sm_guestOr (g := g) hb
    rw [guestOr_eq hx] at this
    exact sm_stepOf hb this
 ·cases hc
theorem if_some {p : Prop} {_ : Decidable p} {α : Type} {x y : α} (h : (if p then some x else none) = some y) : x = y := by
 split at h
 ·cases h; rfl
 ·cases h
theorem sm_set {b : VBare} {g p : Int} {s : VSlot} (hb : SmBare b) : ∀ c, bareSet b g p s = some c → SmBare c := sm_onGuest hb fun x y hx h => by rw [← if_some h]; exact sm_fSet hx
theorem sm_bflush {b : VBare} {g p : Int} (hb : SmBare b) : ∀ c, bareFlush b g p = some c → SmBare c := sm_onGuest hb fun x y hx h => by rw [← if_some h]; exact sm_fFlush hx
theorem sm_answer {b : VBare} {g v : Int} (hb : SmBare b) : ∀ c, bareAnswer b g v = some c → SmBare c := sm_onGuest hb fun x y hx h => by
 rw [← if_some h]
 split <;> exact hx
theorem sm_resume {b : VBare} {g : Int} (hb : SmBare b) : ∀ c, bareResume b g = some c → SmBare c := sm_onGuest hb fun x y hx h => by
 split at h
 ·cases h; exact hx
 ·rw [← if_some h]; exact hx
theorem sm_inject {b : VBare} {g n : Int} (hb : SmBare b) : ∀ c, bareInject b g n = some c → SmBare c := sm_onGuest hb fun x y hx h => by
 cases e : postIrq x.Pending n with
 | none => rw [e] at h; cases h
 | some p => rw [e] at h; cases h; exact hx
theorem sm_ctl {b : VBare} {g : Int} {x : VCtl} (hb : SmBare b) : ∀ c, bareCtl b g x = some c → SmBare c := sm_onGuest hb fun x y hx h => by rw [← if_some h]; exact hx
theorem sm_poke {b : VBare} {p c v : Int} (hb : SmBare b) : ∀ d, barePoke b p c v = some d → SmBare d := fun d h => by unfold barePoke at h; rw [← if_some h]; exact ⟨sm_cell hb.1, hb.2⟩
theorem sm_post {b : VBare} {n : Int} (hb : SmBare b) : ∀ d, barePost b n = some d → SmBare d := fun d h => by
 unfold barePost at h
 rw [← if_some h]
 split
 ·refine ⟨hb.1, ⟨by show (b.Guests.map _).length ≤ _; rw [List.length_map]; exact hb.2.1.1, fun y hy => ?_⟩, hb.2.2⟩
  obtain ⟨x, hx, rfl⟩ := List.mem_map.1 (show y ∈ b.Guests.map (postedG n) from hy)
  unfold postedG
  split <;> exact hb.2.1.2 x hx
 ·exact hb
theorem sm_dma {b : VBare} {g a v : Int} (hb : SmBare b) : ∀ d, bareDma b g a v = some d → SmBare d := fun d h => by
 unfold bareDma at h
 split at h
 ·cases e : reach b g a 2 with
  | none => rw [e] at h; cases h
  | some p => rw [e] at h; cases h; exact ⟨sm_cell hb.1, hb.2⟩
 ·cases h
theorem sm_ack {b : VBare} (hb : SmBare b) : SmBare (ackB b) := by
 unfold ackB bareAck
 split
 ·cases takeIrq b.Pending <;> exact hb
 ·exact hb
theorem ba_0 {b : VBare} {a : VAct} (h : ¬ (1 ≤ a.Kind ∧ a.Kind ≤ 12)) : bareAct1 b a = (b, ⟨false, 0⟩) := by unfold bareAct1; rw [if_neg (by omega), if_neg (by omega), if_neg (by omega), if_neg (by omega), if_neg (by omega), if_neg (by omega), if_neg (by omega), if_neg (by omega), if_neg (by omega), if_neg (by omega), if_neg (by omega), if_neg (by omega)]
theorem sm_bareAct1 {b : VBare} {a : VAct} (hb : SmBare b) : SmBare (bareAct1 b a).1 := by
 by_cases h : 1 ≤ a.Kind ∧ a.Kind ≤ 12
 ·have h1 : a.Kind = 1 ∨ a.Kind = 2 ∨ a.Kind = 3 ∨ a.Kind = 4 ∨ a.Kind = 5 ∨ a.Kind = 6 ∨ a.Kind = 7 ∨ a.Kind = 8 ∨ a.Kind = 9 ∨ a.Kind = 10 ∨ a.Kind = 11 ∨ a.Kind = 12 := by omega
  rcases h1 with h1 | h1 | h1 | h1 | h1 | h1 | h1 | h1 | h1 | h1 | h1 | h1
  ·rw [ba_1 h1]; exact sm_yields hb (sm_step hb)
  ·rw [ba_2 h1]; exact sm_yields hb (sm_set hb)
  ·rw [ba_3 h1]; exact sm_yields hb (sm_bflush hb)
  ·rw [ba_4 h1]; exact sm_yields hb (sm_answer hb)
  ·rw [ba_5 h1]; exact sm_yields hb (sm_resume hb)
  ·rw [ba_6 h1]; exact sm_yields hb (sm_inject hb)
  ·rw [ba_7 h1]; exact sm_yields hb (sm_ctl hb)
  ·rw [ba_8 h1]; exact sm_yields hb (sm_poke hb)
  ·rw [ba_9 h1]; exact sm_yields hb (sm_post hb)
  ·rw [ba_10 h1]; exact sm_ack hb
  ·rw [ba_11 h1]; exact sm_yields hb (sm_dma hb)
  ·rw [ba_12 h1]; exact hb
 ·rw [ba_0 h]; exact hb
theorem sm_bareAct {l : List VBare} {a : VAct} (hl : SmBareS l) : SmBareS (bareAct l a).1 := by
 unfold bareAct
 split
 ·cases hx : at? l a.M with
  | none => exact hl
  | some b =>
   have hb : SmBare b := by
    unfold at? at hx
    split at hx
    ·exact hl.2 b (List.mem_of_getElem? hx)
    ·cases hx
   refine ⟨by show (put l a.M _).length ≤ _; rw [put_len]; exact hl.1, fun y hy => ?_⟩
   have hy : y ∈ put l a.M (bareAct1 b a).1 := hy
   unfold put at hy
   split at hy
   ·rcases List.mem_or_eq_of_mem_set hy with hy | rfl
    ·exact hl.2 y hy
    ·exact sm_bareAct1 hb
   ·exact hl.2 y hy
 ·exact hl
theorem len_bareAct {l : List VBare} {a : VAct} : (bareAct l a).1.length = l.length := by
 unfold bareAct
 split
 ·cases at? l a.M with
  | none => rfl
  | some b => exact put_len
 ·rfl
instance (l : List VBare) (a : VAct) [h : Q (SmBareS l)] : Q (SmBareS (bareAct l a).1) := ⟨sm_bareAct h.h⟩
theorem spec_BareAct_f (l : List VBare) (a : VAct) [Q (SmBareS l)] : Fun Tryz.prog 153 [L 4 (l.map dBare), A (rAct a)] (RG [.c (.sl 4 ((bareAct l a).1.map dBare)), .a (rTold (bareAct l a).2)]) := by
 refine Fun.w 192 Tryz.func153 fun w g0 hM => ?_
 have hl0 := hM.1.map
 refine callL (spec_l28Bares_f l).k ?_
 refine callP (spec_ActOk_f _).k ?_
 refine cnd (fun hg3 => ?_) (fun hg3 => ?_)
 ·refine regT [3] [3] [] (.quiet 0 1 (.quiet 2 1 (.quiet 1 0 (.fork (.alt 3 .done .stop))))) ?_
  repeat' first | exact True.intro | refine And.intro ?_ ?_ | (intro _ _)
  exact (by rw [bact_no (by first | (left; assumption) | (right; assumption))]; rfl)
 ·refine callP (spec_IsOuter_f _).k ?_
  refine cnd (fun hb => ?_) (fun hb => ?_)
  ·refine regT [3] [3] [] (.quiet 0 1 (.quiet 2 1 (.quiet 1 0 (.fork (.alt 3 .done .stop))))) ?_
   repeat' first | exact True.intro | refine And.intro ?_ ?_ | (intro _ _)
   exact (by rw [bact_no (by first | (left; assumption) | (right; assumption))]; rfl)
  ·refine len ?_
   refine rng ?_
   refine callP (spec_l01In_f _ _ _).k ?_
   refine cnd (fun hb2 => ?_) (fun hb2 => ?_)
   ·refine cnd (fun hb3 => ?_) (fun hb3 => ?_)
    ·refine regT [3] [3] [] (.quiet 0 1 (.quiet 2 1 (.quiet 1 0 (.fork (.alt 3 .done .stop))))) ?_
     repeat' first | exact True.intro | refine And.intro ?_ ?_ | (intro _ _)
     exact (by first | (rw [bact_off (by assumption) (by assumption) (by omega), if_pos (by assumption)]; rfl) | (rw [bact_off (by assumption) (by assumption) (by omega), if_neg (by omega)]; rfl))
    ·refine regT [3] [3] [] (.quiet 0 1 (.quiet 2 1 (.quiet 1 0 (.fork (.alt 3 .done .stop))))) ?_
     repeat' first | exact True.intro | refine And.intro ?_ ?_ | (intro _ _)
     exact (by first | (rw [bact_off (by assumption) (by assumption) (by omega), if_pos (by assumption)]; rfl) | (rw [bact_off (by assumption) (by assumption) (by omega), if_neg (by omega)]; rfl))
   ·have hk := act_kind (a := a) (by assumption) (by assumption)
    obtain ⟨b, hb0⟩ : ∃ b, l[a.M.toNat]? = some b := ⟨_, List.getElem?_eq_getElem (by omega)⟩
    have qb : Q (SmBare b) := ⟨ElS.h b (List.mem_of_getElem? hb0)⟩
    first | refine ixm (by assumption) ?_ | refine bnd ?_ | refine bndi ?_ | refine ixkq (fun y37 hy37 qy37 ly37 => ?_) | refine ixiq (fun y37 hy37 qy37 ly37 => ?_)
    first | refine ixs ?_ | refine ixo (by assumption) ?_ | refine ixoq (fun z1 hz1 qz1 lz1 => ?_) | skip
    refine cnd (fun hb4 => ?_) (fun hb4 => ?_)
    ·refine callG (spec_BareStep_f b a.G).k ?_
     first | refine ixm (by assumption) ?_ | refine bnd ?_ | refine bndi ?_ | refine ixkq (fun y189 hy189 qy189 ly189 => ?_) | refine ixiq (fun y189 hy189 qy189 ly189 => ?_)
     first | refine ixs ?_ | refine ixo (by assumption) ?_ | skip
     repeat first | refine slf ?_ | refine ixs ?_
     refine regT [3] [3] [] (.quiet 0 1 (.quiet 2 1 (.quiet 1 0 (.fork (.alt 3 .done .stop))))) ?_
     repeat' first | exact True.intro | refine And.intro ?_ ?_ | (intro _ _)
     exact (by rw [bact_in (by assumption) (by assumption) (by omega) hb0, ba_1 (by omega)]; simp only [List.map_set]; rfl)
    ·refine cnd (fun hb5 => ?_) (fun hb5 => ?_)
     ·refine callG (spec_BareSet_f b a.G a.X ⟨a.Y, a.Z⟩).k ?_
      first | refine ixm (by assumption) ?_ | refine bnd ?_ | refine bndi ?_ | refine ixkq (fun y189 hy189 qy189 ly189 => ?_) | refine ixiq (fun y189 hy189 qy189 ly189 => ?_)
      first | refine ixs ?_ | refine ixo (by assumption) ?_ | skip
      repeat first | refine slf ?_ | refine ixs ?_
      refine regT [3] [3] [] (.quiet 0 1 (.quiet 2 1 (.quiet 1 0 (.fork (.alt 3 .done .stop))))) ?_
      repeat' first | exact True.intro | refine And.intro ?_ ?_ | (intro _ _)
      exact (by rw [bact_in (by assumption) (by assumption) (by omega) hb0, ba_2 (by omega)]; simp only [List.map_set]; rfl)
     ·refine cnd (fun hb6 => ?_) (fun hb6 => ?_)
      ·refine callG (spec_BareFlush_f b a.G a.X).k ?_
       first | refine ixm (by assumption) ?_ | refine bnd ?_ | refine bndi ?_ | refine ixkq (fun y189 hy189 qy189 ly189 => ?_) | refine ixiq (fun y189 hy189 qy189 ly189 => ?_)
       first | refine ixs ?_ | refine ixo (by assumption) ?_ | skip
       repeat first | refine slf ?_ | refine ixs ?_
       refine regT [3] [3] [] (.quiet 0 1 (.quiet 2 1 (.quiet 1 0 (.fork (.alt 3 .done .stop))))) ?_
       repeat' first | exact True.intro | refine And.intro ?_ ?_ | (intro _ _)
       exact (by rw [bact_in (by assumption) (by assumption) (by omega) hb0, ba_3 (by omega)]; simp only [List.map_set]; rfl)
      ·refine cnd (fun hb7 => ?_) (fun hb7 => ?_)
       ·refine callG (spec_BareAnswer_f b a.G a.X).k ?_
        first | refine ixm (by assumption) ?_ | refine bnd ?_ | refine bndi ?_ | refine ixkq (fun y189 hy189 qy189 ly189 => ?_) | refine ixiq (fun y189 hy189 qy189 ly189 => ?_)
        first | refine ixs ?_ | refine ixo (by assumption) ?_ | skip
        repeat first | refine slf ?_ | refine ixs ?_
        refine regT [3] [3] [] (.quiet 0 1 (.quiet 2 1 (.quiet 1 0 (.fork (.alt 3 .done .stop))))) ?_
        repeat' first | exact True.intro | refine And.intro ?_ ?_ | (intro _ _)
        exact (by rw [bact_in (by assumption) (by assumption) (by omega) hb0, ba_4 (by omega)]; simp only [List.map_set]; rfl)
       ·refine cnd (fun hb8 => ?_) (fun hb8 => ?_)
        ·refine callG (spec_BareResume_f b a.G).k ?_
         first | refine ixm (by assumption) ?_ | refine bnd ?_ | refine bndi ?_ | refine ixkq (fun y189 hy189 qy189 ly189 => ?_) | refine ixiq (fun y189 hy189 qy189 ly189 => ?_)
         first | refine ixs ?_ | refine ixo (by assumption) ?_ | skip
         repeat first | refine slf ?_ | refine ixs ?_
         refine regT [3] [3] [] (.quiet 0 1 (.quiet 2 1 (.quiet 1 0 (.fork (.alt 3 .done .stop))))) ?_
         repeat' first | exact True.intro | refine And.intro ?_ ?_ | (intro _ _)
         exact (by rw [bact_in (by assumption) (by assumption) (by omega) hb0, ba_5 (by omega)]; simp only [List.map_set]; rfl)
        ·refine cnd (fun hb9 => ?_) (fun hb9 => ?_)
         ·refine callG (spec_BareInject_f b a.G a.X).k ?_
          first | refine ixm (by assumption) ?_ | refine bnd ?_ | refine bndi ?_ | refine ixkq (fun y189 hy189 qy189 ly189 => ?_) | refine ixiq (fun y189 hy189 qy189 ly189 => ?_)
          first | refine ixs ?_ | refine ixo (by assumption) ?_ | skip
          repeat first | refine slf ?_ | refine ixs ?_
          refine regT [3] [3] [] (.quiet 0 1 (.quiet 2 1 (.quiet 1 0 (.fork (.alt 3 .done .stop))))) ?_
          repeat' first | exact True.intro | refine And.intro ?_ ?_ | (intro _ _)
          exact (by rw [bact_in (by assumption) (by assumption) (by omega) hb0, ba_6 (by omega)]; simp only [List.map_set]; rfl)
         ·refine cnd (fun hb10 => ?_) (fun hb10 => ?_)
          ·refine regT [9, 11] [9, 11] [] (.quiet 0 0 (.quiet 1 0 (.quiet 2 0 (.quiet 3 0 (.fork (.alt 4 (.fork (.alt 5 (.quiet 6 1 (.quiet 7 1 (.quiet 8 1 (.fork (.alt 9 (.quiet 10 0 (.fork (.alt 11 .done .stop))) .stop))))) .stop)) .stop)))))) ?_
           repeat' first | exact True.intro | refine And.intro ?_ ?_ | (intro _ _) | refine callP (spec_CtlOf_f a).k ?_ | refine callG (spec_BareCtl_f b a.G (ctlOf a)).k ?_
           first | refine ixm (by assumption) ?_ | refine bnd ?_ | refine bndi ?_ | refine ixkq (fun y189 hy189 qy189 ly189 => ?_) | refine ixiq (fun y189 hy189 qy189 ly189 => ?_)
           first | refine ixs ?_ | refine ixo (by assumption) ?_ | skip
           repeat first | refine slf ?_ | refine ixs ?_
           refine regT [3] [3] [] (.quiet 0 1 (.quiet 2 1 (.quiet 1 0 (.fork (.alt 3 .done .stop))))) ?_
           repeat' first | exact True.intro | refine And.intro ?_ ?_ | (intro _ _)
           exact (by rw [bact_in (by assumption) (by assumption) (by omega) hb0, ba_7 (by omega)]; simp only [List.map_set]; rfl)
          ·refine cnd (fun hb11 => ?_) (fun hb11 => ?_)
           ·refine callG (spec_BarePoke_f b a.X a.Y a.Z).k ?_
            first | refine ixm (by assumption) ?_ | refine bnd ?_ | refine bndi ?_ | refine ixkq (fun y189 hy189 qy189 ly189 => ?_) | refine ixiq (fun y189 hy189 qy189 ly189 => ?_)
            first | refine ixs ?_ | refine ixo (by assumption) ?_ | skip
            repeat first | refine slf ?_ | refine ixs ?_
            refine regT [3] [3] [] (.quiet 0 1 (.quiet 2 1 (.quiet 1 0 (.fork (.alt 3 .done .stop))))) ?_
            repeat' first | exact True.intro | refine And.intro ?_ ?_ | (intro _ _)
            exact (by rw [bact_in (by assumption) (by assumption) (by omega) hb0, ba_8 (by omega)]; simp only [List.map_set]; rfl)
           ·refine cnd (fun hb12 => ?_) (fun hb12 => ?_)
            ·refine callG (spec_BarePost_f b a.X).k ?_
             first | refine ixm (by assumption) ?_ | refine bnd ?_ | refine bndi ?_ | refine ixkq (fun y189 hy189 qy189 ly189 => ?_) | refine ixiq (fun y189 hy189 qy189 ly189 => ?_)
             first | refine ixs ?_ | refine ixo (by assumption) ?_ | skip
             repeat first | refine slf ?_ | refine ixs ?_
             refine regT [3] [3] [] (.quiet 0 1 (.quiet 2 1 (.quiet 1 0 (.fork (.alt 3 .done .stop))))) ?_
             repeat' first | exact True.intro | refine And.intro ?_ ?_ | (intro _ _)
             exact (by rw [bact_in (by assumption) (by assumption) (by omega) hb0, ba_9 (by omega)]; simp only [List.map_set]; rfl)
            ·refine cnd (fun hb13 => ?_) (fun hb13 => ?_)
             ·refine callG (spec_BareAck_f b).k ?_
              first | refine ixm (by assumption) ?_ | refine bnd ?_ | refine bndi ?_ | refine ixkq (fun y189 hy189 qy189 ly189 => ?_) | refine ixiq (fun y189 hy189 qy189 ly189 => ?_)
              first | refine ixs ?_ | refine ixo (by assumption) ?_ | skip
              repeat first | refine slf ?_ | refine ixs ?_
              refine regT [3] [3] [] (.quiet 0 1 (.quiet 2 1 (.quiet 1 0 (.fork (.alt 3 .done .stop))))) ?_
              repeat' first | exact True.intro | refine And.intro ?_ ?_ | (intro _ _)
              exact (by rw [bact_in (by assumption) (by assumption) (by omega) hb0, ba_10 (by omega)]; simp only [List.map_set]; rfl)
             ·refine cnd (fun hb14 => ?_) (fun hb14 => ?_)
              ·refine callG (spec_BareDma_f b a.G a.X a.Y).k ?_
               first | refine ixm (by assumption) ?_ | refine bnd ?_ | refine bndi ?_ | refine ixkq (fun y189 hy189 qy189 ly189 => ?_) | refine ixiq (fun y189 hy189 qy189 ly189 => ?_)
               first | refine ixs ?_ | refine ixo (by assumption) ?_ | skip
               repeat first | refine slf ?_ | refine ixs ?_
               refine regT [3] [3] [] (.quiet 0 1 (.quiet 2 1 (.quiet 1 0 (.fork (.alt 3 .done .stop))))) ?_
               repeat' first | exact True.intro | refine And.intro ?_ ?_ | (intro _ _)
               exact (by rw [bact_in (by assumption) (by assumption) (by omega) hb0, ba_11 (by omega)]; simp only [List.map_set]; rfl)
              ·refine callG (spec_BareRead_f b a.G a.X).k ?_
               first | refine ixm (by assumption) ?_ | refine bnd ?_ | refine bndi ?_ | refine ixkq (fun y189 hy189 qy189 ly189 => ?_) | refine ixiq (fun y189 hy189 qy189 ly189 => ?_)
               first | refine ixs ?_ | refine ixo (by assumption) ?_ | skip
               repeat first | refine slf ?_ | refine ixs ?_
               refine regT [3] [3] [] (.quiet 0 1 (.quiet 2 1 (.quiet 1 0 (.fork (.alt 3 .done .stop))))) ?_
               repeat' first | exact True.intro | refine And.intro ?_ ?_ | (intro _ _)
               exact (by rw [bact_in (by assumption) (by assumption) (by omega) hb0, ba_12 (by omega)]; simp only [List.map_set]; rfl)
theorem impl_BareAct_f (l : List VBare) (a : VAct) [Q (SmBareS l)] : Fun Tryz.prog 158 [L 4 (l.map dBare), A (rAct a)] (RG [.c (.sl 4 ((bareAct l a).1.map dBare)), .a (rTold (bareAct l a).2)]) := by
 refine Fun.w 63 Tryz.func158 fun w g0 hM => ?_
 have hl0 := hM.1.map
 refine callL (impl_copyBares_f l).k ?_
 refine callP (impl_ActOk_f _).k ?_
 refine cnd (fun hg3 => ?_) (fun hg3 => ?_)
 ·exact (by rw [bact_no (by first | (left; assumption) | (right; assumption))]; rfl)
 ·refine callP (impl_IsOuter_f _).k ?_
  refine cnd (fun hb => ?_) (fun hb => ?_)
  ·exact (by rw [bact_no (by first | (left; assumption) | (right; assumption))]; rfl)
  ·refine len ?_
   refine callP (impl_has_f _ _).k ?_
   refine cnd (fun hg6 => ?_) (fun hg6 => ?_)
   ·refine cnd (fun hb2 => ?_) (fun hb2 => ?_)
    ·exact (by first | (rw [bact_off (by assumption) (by assumption) (by omega), if_pos (by assumption)]; rfl) | (rw [bact_off (by assumption) (by assumption) (by omega), if_neg (by omega)]; rfl))
    ·refine len ?_
     refine callP (impl_has_f _ _).k ?_
     refine cnd (fun hb3 => ?_) (fun hb3 => ?_)
     ·exact (by first | (rw [bact_off (by assumption) (by assumption) (by omega), if_pos (by assumption)]; rfl) | (rw [bact_off (by assumption) (by assumption) (by omega), if_neg (by omega)]; rfl))
     ·rcases Decidable.em (a.Kind = 12) with hfk | hfk
      ·have hao : actOk a = true := by assumption
       have hio : isOuter a.Kind = false := by assumption
       have hk := act_kind (a := a) (by assumption) (by assumption)
       obtain ⟨b, hb0⟩ : ∃ b, l[a.M.toNat]? = some b := ⟨_, List.getElem?_eq_getElem (by omega)⟩
       have qb : Q (SmBare b) := ⟨ElS.h b (List.mem_of_getElem? hb0)⟩
       have qb1 : Q (SmBare (bareAct1 b a).1) := ⟨sm_bareAct1 qb.h⟩
       refine regT [12, 13] [12, 13] [] (.quiet 0 1 (.quiet 1 0 (.quiet 2 0 (.quiet 3 0 (.quiet 4 0 (.quiet 5 0 (.fork (.alt 6 (.quiet 7 1 (.quiet 8 1 (.quiet 9 1 (.fork (.alt 10 (.fork (.alt 11 (.fork (.alt 12 (.fork (.alt 13 .done .stop)) .stop)) .stop)) (.alt 11 (.fork (.alt 10 (.fork (.alt 12 (.fork (.alt 13 .done .stop)) .stop)) .stop)) .stop)))))) (.alt 10 (.fork (.alt 6 (.quiet 7 1 (.quiet 8 1 (.quiet 9 1 (.fork (.alt 11 (.fork (.alt 12 (.fork (.alt 13 .done .stop)) .stop)) .stop))))) (.alt 11 (.fork (.alt 6 (.quiet 7 1 (.quiet 8 1 (.quiet 9 1 (.fork (.alt 12 (.fork (.alt 13 .done .stop)) .stop))))) .stop)) .stop))) (.alt 11 (.fork (.alt 6 (.quiet 7 1 (.quiet 8 1 (.quiet 9 1 (.fork (.alt 10 (.fork (.alt 12 (.fork (.alt 13 .done .stop)) .stop)) .stop))))) (.alt 10 (.fork (.alt 6 (.quiet 7 1 (.quiet 8 1 (.quiet 9 1 (.fork (.alt 12 (.fork (.alt 13 .done .stop)) .stop))))) .stop)) .stop))) .stop)))))))))) ?_
       repeat' first | exact True.intro | refine And.intro ?_ ?_ | (intro _ _) | refine ixm (by assumption) ?_ | refine bnd ?_ | refine bndi ?_ | refine ixkq (fun y49 hy49 qy49 ly49 => ?_) | refine ixiq (fun y49 hy49 qy49 ly49 => ?_) | refine ixs ?_ | refine ixo (by assumption) ?_ | refine ixoq (fun z1 hz1 qz1 lz1 => ?_) | refine callA (impl_bareAct_r b a hfk) ?_
       all_goals (
        refine regT [6] [6] [] (.quiet 0 1 (.quiet 1 0 (.quiet 2 0 (.quiet 3 0 (.fork (.alt 4 (.quiet 5 0 (.fork (.alt 6 .done .stop))) .stop)))))) ?_
        repeat' first | exact True.intro | refine And.intro ?_ ?_ | (intro _ _) | refine callG (impl_copyBare_f b).k ?_ | refine ixm (by assumption) ?_ | refine bnd ?_ | refine bndi ?_ | refine ixkq (fun y60 hy60 qy60 ly60 => ?_) | refine ixiq (fun y60 hy60 qy60 ly60 => ?_) | refine ixs ?_ | refine ixo (by assumption) ?_ | refine ixoq (fun z2 hz2 qz2 lz2 => ?_)
        refine regT [3] [3] [] (.quiet 0 1 (.quiet 2 1 (.quiet 1 0 (.fork (.alt 3 .done .stop))))) ?_
        repeat' first | exact True.intro | refine And.intro ?_ ?_ | (intro _ _)
        exact (by rw [bact_in (by assumption) (by assumption) (by omega) hb0, ba_12 (by omega)]; simp only [List.map_set]; rfl))
      ·have hao : actOk a = true := by assumption
       have hio : isOuter a.Kind = false := by assumption
       have hk := act_kind (a := a) (by assumption) (by assumption)
       obtain ⟨b, hb0⟩ : ∃ b, l[a.M.toNat]? = some b := ⟨_, List.getElem?_eq_getElem (by omega)⟩
       have qb : Q (SmBare b) := ⟨ElS.h b (List.mem_of_getElem? hb0)⟩
       have qb1 : Q (SmBare (bareAct1 b a).1) := ⟨sm_bareAct1 qb.h⟩
       refine regT [12, 13] [12, 13] [] (.quiet 0 1 (.quiet 1 0 (.quiet 2 0 (.quiet 3 0 (.quiet 4 0 (.quiet 5 0 (.fork (.alt 6 (.quiet 7 1 (.quiet 8 1 (.quiet 9 1 (.fork (.alt 10 (.fork (.alt 11 (.fork (.alt 12 (.fork (.alt 13 .done .stop)) .stop)) .stop)) (.alt 11 (.fork (.alt 10 (.fork (.alt 12 (.fork (.alt 13 .done .stop)) .stop)) .stop)) .stop)))))) (.alt 10 (.fork (.alt 6 (.quiet 7 1 (.quiet 8 1 (.quiet 9 1 (.fork (.alt 11 (.fork (.alt 12 (.fork (.alt 13 .done .stop)) .stop)) .stop))))) (.alt 11 (.fork (.alt 6 (.quiet 7 1 (.quiet 8 1 (.quiet 9 1 (.fork (.alt 12 (.fork (.alt 13 .done .stop)) .stop))))) .stop)) .stop))) (.alt 11 (.fork (.alt 6 (.quiet 7 1 (.quiet 8 1 (.quiet 9 1 (.fork (.alt 10 (.fork (.alt 12 (.fork (.alt 13 .done .stop)) .stop)) .stop))))) (.alt 10 (.fork (.alt 6 (.quiet 7 1 (.quiet 8 1 (.quiet 9 1 (.fork (.alt 12 (.fork (.alt 13 .done .stop)) .stop))))) .stop)) .stop))) .stop)))))))))) ?_
       repeat' first | exact True.intro | refine And.intro ?_ ?_ | (intro _ _) | refine ixm (by assumption) ?_ | refine bnd ?_ | refine bndi ?_ | refine ixkq (fun y49 hy49 qy49 ly49 => ?_) | refine ixiq (fun y49 hy49 qy49 ly49 => ?_) | refine ixs ?_ | refine ixo (by assumption) ?_ | refine ixoq (fun z3 hz3 qz3 lz3 => ?_) | refine callG (impl_bareAct_f b a (by omega)).k ?_
       all_goals (
        refine regT [6] [6] [] (.quiet 0 1 (.quiet 1 0 (.quiet 2 0 (.quiet 3 0 (.fork (.alt 4 (.quiet 5 0 (.fork (.alt 6 .done .stop))) .stop)))))) ?_
        repeat' first | exact True.intro | refine And.intro ?_ ?_ | (intro _ _) | refine callG (impl_copyBare_f (bareAct1 b a).1).k ?_ | refine ixm (by assumption) ?_ | refine bnd ?_ | refine bndi ?_ | refine ixkq (fun y60 hy60 qy60 ly60 => ?_) | refine ixiq (fun y60 hy60 qy60 ly60 => ?_) | refine ixs ?_ | refine ixo (by assumption) ?_ | refine ixoq (fun z4 hz4 qz4 lz4 => ?_)
        refine regT [3] [3] [] (.quiet 0 1 (.quiet 2 1 (.quiet 1 0 (.fork (.alt 3 .done .stop))))) ?_
        repeat' first | exact True.intro | refine And.intro ?_ ?_ | (intro _ _)
        exact (by rw [bact_in hao hio (by omega) hb0]; simp only [List.map_set]; rfl))
   ·refine len ?_
    refine callP (impl_has_f _ _).k ?_
    refine cnd (fun hb4 => ?_) (fun hb4 => ?_)
    ·exact (by first | (rw [bact_off (by assumption) (by assumption) (by omega), if_pos (by assumption)]; rfl) | (rw [bact_off (by assumption) (by assumption) (by omega), if_neg (by omega)]; rfl))
    ·rcases Decidable.em (a.Kind = 12) with hfk | hfk
     ·have hao : actOk a = true := by assumption
      have hio : isOuter a.Kind = false := by assumption
      have hk := act_kind (a := a) (by assumption) (by assumption)
      obtain ⟨b, hb0⟩ : ∃ b, l[a.M.toNat]? = some b := ⟨_, List.getElem?_eq_getElem (by omega)⟩
      have qb : Q (SmBare b) := ⟨ElS.h b (List.mem_of_getElem? hb0)⟩
      have qb1 : Q (SmBare (bareAct1 b a).1) := ⟨sm_bareAct1 qb.h⟩
      refine regT [12, 13] [12, 13] [] (.quiet 0 1 (.quiet 1 0 (.quiet 2 0 (.quiet 3 0 (.quiet 4 0 (.quiet 5 0 (.fork (.alt 6 (.quiet 7 1 (.quiet 8 1 (.quiet 9 1 (.fork (.alt 10 (.fork (.alt 11 (.fork (.alt 12 (.fork (.alt 13 .done .stop)) .stop)) .stop)) (.alt 11 (.fork (.alt 10 (.fork (.alt 12 (.fork (.alt 13 .done .stop)) .stop)) .stop)) .stop)))))) (.alt 10 (.fork (.alt 6 (.quiet 7 1 (.quiet 8 1 (.quiet 9 1 (.fork (.alt 11 (.fork (.alt 12 (.fork (.alt 13 .done .stop)) .stop)) .stop))))) (.alt 11 (.fork (.alt 6 (.quiet 7 1 (.quiet 8 1 (.quiet 9 1 (.fork (.alt 12 (.fork (.alt 13 .done .stop)) .stop))))) .stop)) .stop))) (.alt 11 (.fork (.alt 6 (.quiet 7 1 (.quiet 8 1 (.quiet 9 1 (.fork (.alt 10 (.fork (.alt 12 (.fork (.alt 13 .done .stop)) .stop)) .stop))))) (.alt 10 (.fork (.alt 6 (.quiet 7 1 (.quiet 8 1 (.quiet 9 1 (.fork (.alt 12 (.fork (.alt 13 .done .stop)) .stop))))) .stop)) .stop))) .stop)))))))))) ?_
      repeat' first | exact True.intro | refine And.intro ?_ ?_ | (intro _ _) | refine ixm (by assumption) ?_ | refine bnd ?_ | refine bndi ?_ | refine ixkq (fun y49 hy49 qy49 ly49 => ?_) | refine ixiq (fun y49 hy49 qy49 ly49 => ?_) | refine ixs ?_ | refine ixo (by assumption) ?_ | refine ixoq (fun z5 hz5 qz5 lz5 => ?_) | refine callA (impl_bareAct_r b a hfk) ?_
      all_goals (
       refine regT [6] [6] [] (.quiet 0 1 (.quiet 1 0 (.quiet 2 0 (.quiet 3 0 (.fork (.alt 4 (.quiet 5 0 (.fork (.alt 6 .done .stop))) .stop)))))) ?_
       repeat' first | exact True.intro | refine And.intro ?_ ?_ | (intro _ _) | refine callG (impl_copyBare_f b).k ?_ | refine ixm (by assumption) ?_ | refine bnd ?_ | refine bndi ?_ | refine ixkq (fun y60 hy60 qy60 ly60 => ?_) | refine ixiq (fun y60 hy60 qy60 ly60 => ?_) | refine ixs ?_ | refine ixo (by assumption) ?_ | refine ixoq (fun z6 hz6 qz6 lz6 => ?_)
       refine regT [3] [3] [] (.quiet 0 1 (.quiet 2 1 (.quiet 1 0 (.fork (.alt 3 .done .stop))))) ?_
       repeat' first | exact True.intro | refine And.intro ?_ ?_ | (intro _ _)
       exact (by rw [bact_in (by assumption) (by assumption) (by omega) hb0, ba_12 (by omega)]; simp only [List.map_set]; rfl))
     ·have hao : actOk a = true := by assumption
      have hio : isOuter a.Kind = false := by assumption
      have hk := act_kind (a := a) (by assumption) (by assumption)
      obtain ⟨b, hb0⟩ : ∃ b, l[a.M.toNat]? = some b := ⟨_, List.getElem?_eq_getElem (by omega)⟩
      have qb : Q (SmBare b) := ⟨ElS.h b (List.mem_of_getElem? hb0)⟩
      have qb1 : Q (SmBare (bareAct1 b a).1) := ⟨sm_bareAct1 qb.h⟩
      refine regT [12, 13] [12, 13] [] (.quiet 0 1 (.quiet 1 0 (.quiet 2 0 (.quiet 3 0 (.quiet 4 0 (.quiet 5 0 (.fork (.alt 6 (.quiet 7 1 (.quiet 8 1 (.quiet 9 1 (.fork (.alt 10 (.fork (.alt 11 (.fork (.alt 12 (.fork (.alt 13 .done .stop)) .stop)) .stop)) (.alt 11 (.fork (.alt 10 (.fork (.alt 12 (.fork (.alt 13 .done .stop)) .stop)) .stop)) .stop)))))) (.alt 10 (.fork (.alt 6 (.quiet 7 1 (.quiet 8 1 (.quiet 9 1 (.fork (.alt 11 (.fork (.alt 12 (.fork (.alt 13 .done .stop)) .stop)) .stop))))) (.alt 11 (.fork (.alt 6 (.quiet 7 1 (.quiet 8 1 (.quiet 9 1 (.fork (.alt 12 (.fork (.alt 13 .done .stop)) .stop))))) .stop)) .stop))) (.alt 11 (.fork (.alt 6 (.quiet 7 1 (.quiet 8 1 (.quiet 9 1 (.fork (.alt 10 (.fork (.alt 12 (.fork (.alt 13 .done .stop)) .stop)) .stop))))) (.alt 10 (.fork (.alt 6 (.quiet 7 1 (.quiet 8 1 (.quiet 9 1 (.fork (.alt 12 (.fork (.alt 13 .done .stop)) .stop))))) .stop)) .stop))) .stop)))))))))) ?_
      repeat' first | exact True.intro | refine And.intro ?_ ?_ | (intro _ _) | refine ixm (by assumption) ?_ | refine bnd ?_ | refine bndi ?_ | refine ixkq (fun y49 hy49 qy49 ly49 => ?_) | refine ixiq (fun y49 hy49 qy49 ly49 => ?_) | refine ixs ?_ | refine ixo (by assumption) ?_ | refine ixoq (fun z7 hz7 qz7 lz7 => ?_) | refine callG (impl_bareAct_f b a (by omega)).k ?_
      all_goals (
       refine regT [6] [6] [] (.quiet 0 1 (.quiet 1 0 (.quiet 2 0 (.quiet 3 0 (.fork (.alt 4 (.quiet 5 0 (.fork (.alt 6 .done .stop))) .stop)))))) ?_
       repeat' first | exact True.intro | refine And.intro ?_ ?_ | (intro _ _) | refine callG (impl_copyBare_f (bareAct1 b a).1).k ?_ | refine ixm (by assumption) ?_ | refine bnd ?_ | refine bndi ?_ | refine ixkq (fun y60 hy60 qy60 ly60 => ?_) | refine ixiq (fun y60 hy60 qy60 ly60 => ?_) | refine ixs ?_ | refine ixo (by assumption) ?_ | refine ixoq (fun z8 hz8 qz8 lz8 => ?_)
       refine regT [3] [3] [] (.quiet 0 1 (.quiet 2 1 (.quiet 1 0 (.fork (.alt 3 .done .stop))))) ?_
       repeat' first | exact True.intro | refine And.intro ?_ ?_ | (intro _ _)
       exact (by rw [bact_in hao hio (by omega) hb0]; simp only [List.map_set]; rfl))
end Go.Proofs.YteelmdpahpggkaaGreat.T

