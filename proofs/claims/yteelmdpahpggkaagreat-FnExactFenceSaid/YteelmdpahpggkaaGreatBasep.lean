/- MoveImage: the law. PRINTED by gen3.py. No condition. -/
import Derived.Test.YteelmdpahpggkaaGreatNyp
import Derived.Test.YteelmdpahpggkaaGreatHbp
import Derived.Test.YteelmdpahpggkaaGreatHcp
import Derived.Test.YteelmdpahpggkaaGreatHep
import Derived.Test.YteelmdpahpggkaaGreatHfp
import Derived.Test.YteelmdpahpggkaaGreatOcp
import Derived.Test.YteelmdpahpggkaaGreatRows
import Derived.WalkKit
import Derived.WalkSpells
import Derived.WalkLawsBesides
import Derived.ProofKit
import Derived.OpenShut
import Derived.Lib.Hide
namespace Go.Proofs.YteelmdpahpggkaaGreat.T
open Go
set_option linter.unusedVariables false
set_option linter.unusedSimpArgs false
set_option maxRecDepth 100000
set_option maxHeartbeats 8000000

theorem cntFold_most {α : Type} {c : α → Int} {N : Int} : ∀ {xs : List α}, (∀ x ∈ xs, c x ≤ N) → cntFold c xs ≤ N * xs.length
  | [], _ => by simp [cntFold]
  | x :: l, h => by
    have h1 := h x List.mem_cons_self
    have h2 := cntFold_most (xs := l) fun y hy => h y (List.mem_cons_of_mem _ hy)
    simp only [cntFold, List.length_cons]
    have h3 : N * ((l.length + 1 : Nat) : Int) = N * l.length + N := by rw [Int.natCast_add, Int.mul_add]; simp
    omega
theorem cntFold_cap {α : Type} {c : α → Int} {N : Int} {xs : List α} (hN : 0 ≤ N) (h : ∀ x ∈ xs, c x ≤ N) (hl : xs.length ≤ 1048576) : cntFold c xs ≤ N * 1048576 :=
  Int.le_trans (cntFold_most h) (Int.mul_le_mul_of_nonneg_left (by omega) hN)
theorem cap_IntS {xs : List Int} (h : SmIntS xs) : cntIntS xs ≤ 1048576 := by
  have := cntFold_cap (c := cntEInt) (N := 1) (by decide) (fun x _ => by simp [cntEInt]) h
  unfold cntIntS
  omega
theorem cap_SlotS {xs : List VSlot} (h : SmSlotS xs) : cntSlotS xs ≤ 2097152 := by
  have := cntFold_cap (c := cntESlot) (N := 2) (by decide) (fun x _ => by simp [cntESlot]) h
  unfold cntSlotS
  omega
theorem cap_InsS {xs : List VIns} (h : SmInsS xs) : cntInsS xs ≤ 2097152 := by
  have := cntFold_cap (c := cntEIns) (N := 2) (by decide) (fun x _ => by simp [cntEIns]) h
  unfold cntInsS
  omega
theorem cap_BoolS {xs : List Bool} (h : SmBoolS xs) : cntBoolS xs ≤ 1048576 := by
  have := cntFold_cap (c := cntEBool) (N := 1) (by decide) (fun x _ => by simp [cntEBool]) h
  unfold cntBoolS
  omega
theorem cap_IntSS {xs : List (List Int)} (h : SmIntSS xs) : cntIntSS xs ≤ 1099511627776 := by
  have := cntFold_cap (c := cntEIntS) (N := 1048576) (by decide) (fun x hx => cap_IntS (h.2 x hx)) h.1
  unfold cntIntSS
  omega
theorem cap_Guest {x : VGuest} (h : SmGuest x) : cntEGuest x ≤ 8388608 := by
  have h1 := cap_InsS h.1
  have h2 := cap_SlotS h.2.1
  have h3 := cap_SlotS h.2.2.1
  have h4 := cap_IntS h.2.2.2
  unfold cntEGuest
  omega
theorem cap_GuestS {xs : List VGuest} (h : SmGuestS xs) : cntGuestS xs ≤ 8796093022208 := by
  have := cntFold_cap (c := cntEGuest) (N := 8388608) (by decide) (fun x hx => cap_Guest (h.2 x hx)) h.1
  unfold cntGuestS
  omega
theorem cap_KeptS {xs : List VKept} (h : SmKeptS xs) : cntKeptS xs ≤ 4398046511104 := by
  have := cntFold_cap (c := cntEKept) (N := 4194304) (by decide) (fun x hx => by
    have h1 := cap_BoolS (h.2 x hx).1
    have h2 := cap_SlotS (h.2 x hx).2
    unfold cntEKept
    omega) h.1
  unfold cntKeptS
  omega
theorem cap_Mon {x : VMon} (h : SmMon x) : cntVMon x ≤ 100000000000000 := by
  have h1 := cap_SlotS h.1
  have h2 := cap_IntSS h.2.1
  have h3 := cap_BoolS h.2.2.1
  have h4 := cap_GuestS h.2.2.2.1
  have h5 := cap_IntS h.2.2.2.2.1
  have h6 := cap_KeptS h.2.2.2.2.2
  unfold cntVMon
  omega
end Go.Proofs.YteelmdpahpggkaaGreat.T


namespace Go.Proofs.YteelmdpahpggkaaGreat.T
open Go
set_option linter.unusedVariables false
set_option linter.unusedSimpArgs false
set_option maxRecDepth 100000
set_option maxHeartbeats 8000000

theorem cap_EntryS {xs : List VEntry} (h : SmEntryS xs) : cntEntryS xs ≤ 4194304 := by
  have := cntFold_cap (c := cntEEntry) (N := 4) (by decide) (fun x _ => by simp [cntEEntry]) h
  unfold cntEntryS
  omega
theorem cap_Host3 {r : VHost} (h : SmHost r) (h3 : r.Mons.length ≤ 3) : cntVHost r ≤ 400000000000000 := by
  have h1 := cap_IntSS h.1
  have h2 : cntMonS r.Mons ≤ 100000000000003 * r.Mons.length := cntFold_most (c := cntEMon) fun x hx => by
    have := cap_Mon (h.2.1.2 x hx)
    unfold cntVMon at this
    unfold cntEMon
    omega
  have h4 := cap_EntryS h.2.2.1
  have h5 := cap_EntryS h.2.2.2
  have h6 : (100000000000003 : Int) * r.Mons.length ≤ 100000000000003 * 3 := Int.mul_le_mul_of_nonneg_left (by omega) (by decide)
  unfold cntVHost
  omega
theorem host_three {h : VHost} (hh : hostOk h = true) : h.Mons.length ≤ 3 := by
  simp only [hostOk, Bool.and_eq_true, decide_eq_true_eq] at hh
  omega
theorem sm_haltAll {h : VHost} {m : Nat} (hh : SmHost h) : SmHost (haltAll h m) := by
  have hx : SmMon (mon h m) := by
    unfold mon
    cases h1 : h.Mons[m]? with
    | none => exact ⟨by simp [SmSlotS], ⟨by simp, fun x hx => by cases hx⟩, by simp [SmBoolS], ⟨by simp, fun x hx => by cases hx⟩, by simp [SmIntS], ⟨by simp, fun x hx => by cases hx⟩⟩
    | some x => exact hh.2.1.2 x (List.mem_of_getElem? h1)
  refine ⟨hh.1, ⟨by show (h.Mons.set _ _).length ≤ _; rw [List.length_set]; exact hh.2.1.1, fun y hy => ?_⟩, hh.2.2⟩
  rcases List.mem_or_eq_of_mem_set hy with hy | rfl
  · exact hh.2.1.2 y hy
  · refine ⟨hx.1, hx.2.1, hx.2.2.1, ⟨by simpa using hx.2.2.2.1.1, fun g hg => ?_⟩, hx.2.2.2.2⟩
    obtain ⟨g0, hg0, rfl⟩ := List.mem_map.1 hg
    exact hx.2.2.2.1.2 g0 hg0
abbrev fenR (h : VHost) (m : Int) : VHost := (fence h m).getD h
theorem sm_fence {h : VHost} {m : Int} (hh : SmHost h) : SmHost (fenR h m) := by
  cases hm : hasMon h m with
  | false => unfold fenR; rw [fence_no hm]; exact hh
  | true => unfold fenR; rw [fence_yes hm]; exact sm_haltAll (sm_outTo hh 8)
theorem cap_fence {h : VHost} {m : Int} (hh : SmHost h) : cntVHost (fenR h m) ≤ cntVHost h + 400000000000000 := by
  have h0 := cntVHost_nn h
  cases hm : hasMon h m with
  | false => unfold fenR; rw [fence_no hm]; show cntVHost h ≤ _; omega
  | true =>
    have h1 : (fenR h m).Mons.length ≤ 3 := by
      have h2 := host_three (hasMon_on.1 hm).1
      unfold fenR
      rw [fence_yes hm]
      show ((outTo h m 8).Mons.set _ _).length ≤ 3
      rw [List.length_set, len_outTo]
      exact h2
    have := cap_Host3 (sm_fence (m := m) hh) h1
    omega
theorem laws_FnExactFence_f (x : VHost) (m : Int) : Fun Tryz.prog 6 [A (rHost x), I m] (RV (.bool true)) := by
  refine Fun.w 101 Tryz.func6 fun w g0 _ => ?_
  refine callP (laws_szHost_f x 1048576 (by omega) (by omega)).k ?_
  refine cnd (fun hb => ?_) (fun hb => ?_)
  · exact rfl
  · have hx0 : 0 ≤ szHost x 1048576 := by omega
    have hx := (szHost_ok x 1048576 hx0).2 (by omega)
    have hle := (szHost_ok x 1048576 hx0).1
    have hcv := szHost_cntV x 1048576 hx0
    have hcn := cntVHost_nn x
    have : Q (SmHost x) := ⟨hx⟩
    have hsm : SmHost (fenR x m) := sm_fence hx
    have hcl : cntVHost (fenR x m) ≤ cntVHost x + 400000000000000 := cap_fence hx
    have hcr := cntVHost_nn (fenR x m)
    have hrn1 := cntIntSS_nn (fenR x m).Memory
    have hrn2 := cntMonS_nn (fenR x m).Mons
    have hrn3 := cntEntryS_nn (fenR x m).Buffer
    have hrn4 := cntEntryS_nn (fenR x m).IoBuffer
    have hn1 := cntIntSS_nn x.Memory
    have hn2 := cntMonS_nn x.Mons
    have hn3 := cntEntryS_nn x.Buffer
    have hn4 := cntEntryS_nn x.IoBuffer
    refine callG (laws_toHost_f x hx).k ?_
    refine callG (spec_Fence_f x m).k ?_
    refine callG (laws_toHost_f x hx).k ?_
    refine callG (impl_Fence_f x m).k ?_
    refine callP (laws_eqHost_f (fenR x m) (fenR x m)).k ?_
    refine cnd (fun hg4 => ?_) (fun hg4 => ?_)
    · (exfalso; first | omega | contradiction | simp_all; done)
    · refine cnd (fun hb2 => ?_) (fun hb2 => ?_)
      · (exfalso; first | omega | contradiction | simp_all; done)
      · refine regU [] [(0, 0), (1, 0), (2, 1), (3, 1), (4, 0)] ?_
        refine callG (laws_toHost_f x hx).k ?_
        refine callP (laws_eqHost_f x x).k ?_
        refine cnd (fun hb3 => ?_) (fun hb3 => ?_)
        · (exfalso; first | omega | contradiction | simp_all; done)
        · refine callH [(8, 0), (8, 1), (8, 2), (8, 3)] (laws_markHost_f x 1 (by omega) (by omega) hx) ?_
          refine cnd (fun hg2 => ?_) (fun hg2 => ?_)
          · (exfalso; first | omega | contradiction | simp_all; done)
          · refine callP (laws_eqHost_f (fenR x m) (fenR x m)).k ?_
            refine cnd (fun hg8 => ?_) (fun hg8 => ?_)
            · (exfalso; first | omega | contradiction | simp_all; done)
            · refine cnd (fun hb4 => ?_) (fun hb4 => ?_)
              · (exfalso; first | omega | contradiction | simp_all; done)
              · refine callH [(9, 0), (9, 1), (9, 2), (9, 3)] (laws_markHost_f (fenR x m) 1 (by omega) (by omega) hsm) ?_
                refine callP (laws_heldHost_f (fenR x m) 1 (by omega) (by omega) hsm).k ?_
                refine cnd (fun hb5 => ?_) (fun hb5 => ?_)
                · (exfalso; first | omega | contradiction | simp_all; done)
                · refine cnd (fun hb6 => ?_) (fun hb6 => ?_)
                  · (exfalso; first | omega | contradiction | simp_all; done)
                  · refine callG (laws_toHost_f x hx).k ?_
                    refine callG (impl_Fence_f x m).k ?_
                    refine callP (laws_eqHost_f (fenR x m) (fenR x m)).k ?_
                    refine cnd (fun hg4 => ?_) (fun hg4 => ?_)
                    · (exfalso; first | omega | contradiction | simp_all; done)
                    · refine cnd (fun hb7 => ?_) (fun hb7 => ?_)
                      · (exfalso; first | omega | contradiction | simp_all; done)
                      · refine callP (laws_heldHost_f (fenR x m) 1 (by omega) (by omega) hsm).k ?_
                        refine cnd (fun hb8 => ?_) (fun hb8 => ?_)
                        · (exfalso; first | omega | contradiction | simp_all; done)
                        · refine cnd (fun hb9 => ?_) (fun hb9 => ?_)
                          · (exfalso; first | omega | contradiction | simp_all; done)
                          · exact rfl
end Go.Proofs.YteelmdpahpggkaaGreat.T


namespace Go.Proofs.YteelmdpahpggkaaGreat.Base
open Go.ChangeShapes Go.WideShapes Go.ChangeAt Go.RowKit

section
variable {H : Type} {enc : TypeId × Value → H} {P : Program}
theorem post_of_below {f : Func} {s : ChangeSpec} {apart fresh handsOn again : Bool} {W W' : World} {args : Array Value} {v : Value} {ds gs : List (DataW H)} {before pa pv : List MemPlace}
    (hW : DataW.Whole enc P f.params.toList s.vars apart W args.toList ds gs before)
    (hres : ∀ (b : Nat) (sp : Nat → Bool) (hd : Bool), DataW.TrodAll enc P W' b sp hd f.resultTypes.toList (v.resultList f.resultTypes.size) (s.fn H (ds ++ gs)).results [])
    (hargs : ∀ sp : Nat → Bool, (∀ p ∈ before, sp p.block = true) → DataW.TrodAll enc P W' 0 sp true f.params.toList args.toList (s.fn H (ds ++ gs)).args pa)
    (hvars : ∀ sp : Nat → Bool, (∀ p ∈ before, sp p.block = true) → DataW.TrodVars enc P W' sp s.vars (s.fn H (ds ++ gs)).vars pv)
    (hps : before = pa ++ pv) (hb : Below W.heap.size W W')
    (hok : ∀ (j : Nat) (t : TypeId) (r : Value), f.resultTypes[j]? = some t → (v.resultList f.resultTypes.size)[j]? = some r → Value.okWide P W' .any 0 t r) :
    s.post enc P f apart fresh handsOn again W args v W' := by
  have hlt : ∀ p ∈ before, p.block < W.heap.size := fun p hp => hW.lt p hp
  have hold : ∀ p ∈ before, (fun b => decide (b < W.heap.size)) p.block = true := fun p hp => by simpa using hlt p hp
  refine ⟨ds, gs, before, [], pa, pv, hW, hres _ _ _, hargs _ hold, hvars _ hold, World.keptBut_mono (fun p hp => ⟨hp, ?_⟩) (hb.frame (· ∈ before)), fun _ => ?_⟩
  · rw [hps, List.mem_append] at hp
    exact Or.inr hp
  · obtain ⟨_, _, _, _, _, hz, hn⟩ := hW
    refine ⟨hok, _, _, ([] ++ pa) ++ pv, ⟨[] ++ pa, pv, trodAll_append (hargs _ (fun _ _ => rfl)) (hres _ _ _), hvars _ (fun _ _ => rfl), rfl, ?_, ?_⟩, ?_⟩
    · intro b off hp
      have hin : MemPlace.cell b off ∈ before := by rw [hps]; simpa using hp
      rw [hb.frozen (hlt _ hin)]
      exact hz b off hin
    · intro ha
      have := hn ha
      rw [hps] at this
      simpa using this
    · intro p hp _
      rw [hps]
      simpa using hp
end

theorem own : ownKnob Tryz.prog.godebug = none := by kernel_rfl

end Go.Proofs.YteelmdpahpggkaaGreat.Base


