/- MoveImage: the law. PRINTED by gen3.py. No condition. -/
import Derived.Test.YteelmdpahpggkaaGreatNtp
import Derived.Test.YteelmdpahpggkaaGreatHbp
import Derived.Test.YteelmdpahpggkaaGreatHcp
import Derived.Test.YteelmdpahpggkaaGreatHep
import Derived.Test.YteelmdpahpggkaaGreatHfp
namespace Go.Proofs.YteelmdpahpggkaaGreat.T
open Go
set_option linter.unusedVariables false
set_option linter.unusedSimpArgs false
set_option maxRecDepth 100000
set_option maxHeartbeats 8000000

theorem cntFold_most {α : Type} {c : α → Int} {N : Int} : ∀ {xs : List α}, (∀ x ∈ xs, c x ≤ N) → cntFold c xs ≤ N * xs.length
  | [], _ => by simp [cntFold]
  | x :: l, h => by
    have h1 := h x List.mem_cons_self
    have h2 := cntFold_most (xs := l) fun y hy => h y (List.mem_cons_of_mem _ hy)
    simp only [cntFold, List.length_cons]
    have h3 : N * ((l.length + 1 : Nat) : Int) = N * l.length + N := by rw [Int.natCast_add, Int.mul_add]; simp
    omega
theorem cntFold_cap {α : Type} {c : α → Int} {N : Int} {xs : List α} (hN : 0 ≤ N) (h : ∀ x ∈ xs, c x ≤ N) (hl : xs.length ≤ 1048576) : cntFold c xs ≤ N * 1048576 :=
  Int.le_trans (cntFold_most h) (Int.mul_le_mul_of_nonneg_left (by omega) hN)
theorem cap_IntS {xs : List Int} (h : SmIntS xs) : cntIntS xs ≤ 1048576 := by
  have := cntFold_cap (c := cntEInt) (N := 1) (by decide) (fun x _ => by simp [cntEInt]) h
  unfold cntIntS
  omega
theorem cap_SlotS {xs : List VSlot} (h : SmSlotS xs) : cntSlotS xs ≤ 2097152 := by
  have := cntFold_cap (c := cntESlot) (N := 2) (by decide) (fun x _ => by simp [cntESlot]) h
  unfold cntSlotS
  omega
theorem cap_InsS {xs : List VIns} (h : SmInsS xs) : cntInsS xs ≤ 2097152 := by
  have := cntFold_cap (c := cntEIns) (N := 2) (by decide) (fun x _ => by simp [cntEIns]) h
  unfold cntInsS
  omega
theorem cap_BoolS {xs : List Bool} (h : SmBoolS xs) : cntBoolS xs ≤ 1048576 := by
  have := cntFold_cap (c := cntEBool) (N := 1) (by decide) (fun x _ => by simp [cntEBool]) h
  unfold cntBoolS
  omega
theorem cap_IntSS {xs : List (List Int)} (h : SmIntSS xs) : cntIntSS xs ≤ 1099511627776 := by
  have := cntFold_cap (c := cntEIntS) (N := 1048576) (by decide) (fun x hx => cap_IntS (h.2 x hx)) h.1
  unfold cntIntSS
  omega
theorem cap_Guest {x : VGuest} (h : SmGuest x) : cntEGuest x ≤ 8388608 := by
  have h1 := cap_InsS h.1
  have h2 := cap_SlotS h.2.1
  have h3 := cap_SlotS h.2.2.1
  have h4 := cap_IntS h.2.2.2
  unfold cntEGuest
  omega
theorem cap_GuestS {xs : List VGuest} (h : SmGuestS xs) : cntGuestS xs ≤ 8796093022208 := by
  have := cntFold_cap (c := cntEGuest) (N := 8388608) (by decide) (fun x hx => cap_Guest (h.2 x hx)) h.1
  unfold cntGuestS
  omega
theorem cap_KeptS {xs : List VKept} (h : SmKeptS xs) : cntKeptS xs ≤ 4398046511104 := by
  have := cntFold_cap (c := cntEKept) (N := 4194304) (by decide) (fun x hx => by
    have h1 := cap_BoolS (h.2 x hx).1
    have h2 := cap_SlotS (h.2 x hx).2
    unfold cntEKept
    omega) h.1
  unfold cntKeptS
  omega
theorem cap_Mon {x : VMon} (h : SmMon x) : cntVMon x ≤ 100000000000000 := by
  have h1 := cap_SlotS h.1
  have h2 := cap_IntSS h.2.1
  have h3 := cap_BoolS h.2.2.1
  have h4 := cap_GuestS h.2.2.2.1
  have h5 := cap_IntS h.2.2.2.2.1
  have h6 := cap_KeptS h.2.2.2.2.2
  unfold cntVMon
  omega
theorem sm_page {m : List (List Int)} (h : SmIntSS m) (n : Int) : SmIntS (pageAt m n) := by
  unfold pageAt at?
  split
  · cases hx : m[n.toNat]? with
    | none => simp [SmIntS]
    | some x => exact h.2 x (List.mem_of_getElem? hx)
  · simp [SmIntS]
theorem sm_pageOf {h : VHost} (hh : SmHost h) (m n : Int) : SmIntS (pageOf h m n) := by
  unfold pageOf
  cases hx : monAt h m with
  | none => simp [SmIntS]
  | some x =>
    have h1 : x = monOr h m := by simp [monOr, hx]
    have h2 : SmMon x := by rw [h1]; exact sm_monOr hh
    simp only
    split
    · split
      · exact sm_page hh.1 _
      · exact sm_page h2.2.1 _
    · simp [SmIntS]
theorem sm_fill {h : VHost} {v : VMove} (hh : SmHost h) : ∀ {l : List Int} {o : List (List Int)}, SmIntSS o → SmIntSS (fillLeft h v l o)
  | [], o, ho => ho
  | p :: l, o, ho => by
    rw [fillLeft]
    refine sm_fill hh ⟨by rw [putM_len]; exact ho.1, fun x hx => ?_⟩
    unfold put at hx
    split at hx
    · rcases List.mem_or_eq_of_mem_set hx with hx | rfl
      · exact ho.2 x hx
      · exact sm_pageOf hh _ _
    · exact ho.2 x hx
theorem sm_image {h : VHost} {v : VMove} (hh : SmHost h) (hv : SmMove v) : SmMon ((moveImage h v).getD noMon) := by
  unfold moveImage
  split
  · cases hx : at? h.Mons v.M with
    | none => exact ⟨by simp [SmSlotS], ⟨by simp, fun x hx => by cases hx⟩, by simp [SmBoolS], ⟨by simp, fun x hx => by cases hx⟩, by simp [SmIntS], ⟨by simp, fun x hx => by cases hx⟩⟩
    | some x =>
      have h1 : x = monOr h v.M := by simp [monOr, monAt, hx]
      have h2 : SmMon x := by rw [h1]; exact sm_monOr hh
      refine ⟨by simp [SmSlotS, tableNew], sm_fill hh hv, by simp [SmBoolS], h2.2.2.2.1, h2.2.2.2.2.1, ⟨by simpa using h2.2.2.2.2.2.1, fun y hy => ?_⟩⟩
      obtain ⟨_, _, rfl⟩ := List.mem_map.1 hy
      exact ⟨by simp [keptNew, SmBoolS], by simp [keptNew, SmSlotS]⟩
  · exact ⟨by simp [SmSlotS], ⟨by simp, fun x hx => by cases hx⟩, by simp [SmBoolS], ⟨by simp, fun x hx => by cases hx⟩, by simp [SmIntS], ⟨by simp, fun x hx => by cases hx⟩⟩
abbrev imgR (h : VHost) (v : VMove) : VMon := (moveImage h v).getD noMon
theorem laws_FnExactMoveImage_f (x : VHost) (v : VMove) : Fun Tryz.prog 5 [A (rHost x), A (rMove v)] (RV (.bool true)) := by
  refine Fun.w 119 Tryz.func5 fun w g0 _ => ?_
  refine callP (laws_szHost_f x 1048576 (by omega) (by omega)).k ?_
  refine cnd (fun hb => ?_) (fun hb => ?_)
  · exact rfl
  · have hx0 : 0 ≤ szHost x 1048576 := by omega
    have hx := (szHost_ok x 1048576 hx0).2 (by omega)
    have hle := (szHost_ok x 1048576 hx0).1
    have hcv := szHost_cntV x 1048576 hx0
    have hcn := cntVHost_nn x
    have hce : cntVHost x = cntIntSS x.Memory + cntMonS x.Mons + cntEntryS x.Buffer + cntEntryS x.IoBuffer := rfl
    have : Q (SmHost x) := ⟨hx⟩
    refine callP (laws_szMove_f v (szHost x 1048576) (by omega) (by omega)).k ?_
    refine cnd (fun hb2 => ?_) (fun hb2 => ?_)
    · exact rfl
    · have hv0 : 0 ≤ szMove v (szHost x 1048576) := by omega
      have hv := (szMove_ok v _ hv0).2 (by omega)
      have hvl := (szMove_ok v _ hv0).1
      have hcw := szMove_cntV v _ hv0
      have hcm := cntVMove_nn v
      have hvm : cntVMove v = cntIntSS v.Have := rfl
      have : Q (SmMove v) := ⟨hv⟩
      have hsm : SmMon (imgR x v) := sm_image hx hv
      have hcl := cap_Mon hsm
      have hcr := cntVMon_nn (imgR x v)
      have hrn1 := cntSlotS_nn (imgR x v).Outer
      have hrn2 := cntIntSS_nn (imgR x v).Out
      have hrn3 := cntBoolS_nn (imgR x v).Dirty
      have hrn4 := cntGuestS_nn (imgR x v).Guests
      have hrn5 := cntIntS_nn (imgR x v).Outs
      have hrn6 := cntKeptS_nn (imgR x v).Tables
      have hn1 := cntIntSS_nn x.Memory
      have hn2 := cntMonS_nn x.Mons
      have hn3 := cntEntryS_nn x.Buffer
      have hn4 := cntEntryS_nn x.IoBuffer
      have hn5 := cntIntSS_nn v.Have
      refine regTJ [6, 7, 9] [] [] (.quiet 0 0 (.quiet 2 0 (.fork (.alt 1 (.fork (.alt 3 (.fork (.alt 4 (.quiet 5 0 (.fork (.alt 6 (.fork (.alt 7 (.fork (.alt 8 (.fork (.alt 9 (.quiet 10 0 .done) .stop)) .stop)) (.alt 8 (.fork (.alt 7 (.fork (.alt 9 (.quiet 10 0 .done) .stop)) (.alt 9 (.fork (.alt 7 (.quiet 10 0 .done) .stop)) .stop))) .stop))) (.alt 7 (.fork (.alt 6 (.fork (.alt 8 (.fork (.alt 9 (.quiet 10 0 .done) .stop)) .stop)) (.alt 8 (.fork (.alt 6 (.fork (.alt 9 (.quiet 10 0 .done) .stop)) .stop)) .stop))) (.alt 8 (.fork (.alt 6 (.fork (.alt 7 (.fork (.alt 9 (.quiet 10 0 .done) .stop)) (.alt 9 (.fork (.alt 7 (.quiet 10 0 .done) .stop)) .stop))) (.alt 7 (.fork (.alt 6 (.fork (.alt 9 (.quiet 10 0 .done) .stop)) .stop)) .stop))) .stop))))) (.alt 8 (.fork (.alt 4 (.quiet 5 0 (.fork (.alt 6 (.fork (.alt 7 (.fork (.alt 9 (.quiet 10 0 .done) .stop)) (.alt 9 (.fork (.alt 7 (.quiet 10 0 .done) .stop)) .stop))) (.alt 7 (.fork (.alt 6 (.fork (.alt 9 (.quiet 10 0 .done) .stop)) .stop)) .stop)))) .stop)) .stop))) (.alt 8 (.fork (.alt 3 (.fork (.alt 4 (.quiet 5 0 (.fork (.alt 6 (.fork (.alt 7 (.fork (.alt 9 (.quiet 10 0 .done) .stop)) (.alt 9 (.fork (.alt 7 (.quiet 10 0 .done) .stop)) .stop))) (.alt 7 (.fork (.alt 6 (.fork (.alt 9 (.quiet 10 0 .done) .stop)) .stop)) .stop)))) .stop)) .stop)) .stop))) (.alt 8 (.fork (.alt 1 (.fork (.alt 3 (.fork (.alt 4 (.quiet 5 0 (.fork (.alt 6 (.fork (.alt 7 (.fork (.alt 9 (.quiet 10 0 .done) .stop)) (.alt 9 (.fork (.alt 7 (.quiet 10 0 .done) .stop)) .stop))) (.alt 7 (.fork (.alt 6 (.fork (.alt 9 (.quiet 10 0 .done) .stop)) .stop)) .stop)))) .stop)) .stop)) .stop)) .stop))))) [2, 3, 4] [] [6] [.set 6 (.one (.ptr ⟨6, [], 0⟩)), .set 7 (B (moveImage x v).isSome)] [(6, ⟨true, [.own (.sl 2 ((imgR x v).Outer.map dSlot)), .own (.sl 1 ((imgR x v).Out.map dIntS)), .own (.sl 1 ((imgR x v).Dirty.map dBool)), .own (.sl 15 ((imgR x v).Guests.map dGuest)), .own (.sl 1 ((imgR x v).Outs.map dInt)), .own (.v (.int .i64 (imgR x v).Pending)), .own (.v (.int .i64 (imgR x v).Traps)), .own (.sl 2 ((imgR x v).Tables.map dKept)), .own (.v (.int .i64 (imgR x v).Own))]⟩)] ?_
      refine ⟨?_, ?_⟩
      · repeat' first | exact True.intro | refine And.intro ?_ ?_ | (intro _ _) | refine callG (laws_toHost_f x hx).k ?_ | refine callG (laws_toMove_f v hv).k ?_ | refine callG (spec_MoveImage_f x v).k ?_ | exact rfl | (refine eqS ?_; simp [*]; done)
      refine callG (laws_toHost_f x hx).k ?_
      refine callG (laws_toMove_f v hv).k ?_
      refine callG (impl_MoveImage_f x v).k ?_
      refine callP (laws_eqMon_f (imgR x v) (imgR x v)).k ?_
      refine cnd (fun hg4 => ?_) (fun hg4 => ?_)
      · (exfalso; first | omega | contradiction | simp_all; done)
      · refine cnd (fun hb3 => ?_) (fun hb3 => ?_)
        · (exfalso; first | omega | contradiction | simp_all; done)
        · refine regU [] [(0, 0), (1, 0), (2, 1), (3, 1), (4, 0)] ?_
          refine callG (laws_toHost_f x hx).k ?_
          refine callP (laws_eqHost_f x x).k ?_
          refine cnd (fun hb4 => ?_) (fun hb4 => ?_)
          · (exfalso; first | omega | contradiction | simp_all; done)
          · refine regU [] [(0, 0), (1, 0), (2, 1), (3, 1), (4, 0)] ?_
            refine callG (laws_toMove_f v hv).k ?_
            refine callP (laws_eqMove_f v v).k ?_
            refine cnd (fun hb5 => ?_) (fun hb5 => ?_)
            · (exfalso; first | omega | contradiction | simp_all; done)
            · refine callH [(8, 0), (8, 1), (8, 2), (8, 3)] (laws_markHost_f x 1 (by omega) (by omega) hx) ?_
              refine callH [(9, 1)] (laws_markMove_f v (1 + cntIntSS x.Memory + cntMonS x.Mons + cntEntryS x.Buffer + cntEntryS x.IoBuffer) (by omega) (by omega) hv) ?_
              refine cnd (fun hg2 => ?_) (fun hg2 => ?_)
              · (exfalso; first | omega | contradiction | simp_all; done)
              · refine callP (laws_eqMon_f (imgR x v) (imgR x v)).k ?_
                refine cnd (fun hg8 => ?_) (fun hg8 => ?_)
                · (exfalso; first | omega | contradiction | simp_all; done)
                · refine cnd (fun hb6 => ?_) (fun hb6 => ?_)
                  · (exfalso; first | omega | contradiction | simp_all; done)
                  · refine callH [(10, 0), (10, 1), (10, 2), (10, 3), (10, 4), (10, 7)] (laws_markMon_f (imgR x v) 1 (by omega) (by omega) hsm) ?_
                    refine callP (laws_heldMon_f (imgR x v) 1 (by omega) (by omega) hsm).k ?_
                    refine cnd (fun hb7 => ?_) (fun hb7 => ?_)
                    · (exfalso; first | omega | contradiction | simp_all; done)
                    · refine cnd (fun hb8 => ?_) (fun hb8 => ?_)
                      · (exfalso; first | omega | contradiction | simp_all; done)
                      · refine regTJ [6, 7, 9] [] [] (.quiet 0 0 (.quiet 2 0 (.fork (.alt 1 (.fork (.alt 3 (.fork (.alt 4 (.quiet 5 0 (.fork (.alt 6 (.fork (.alt 7 (.fork (.alt 8 (.fork (.alt 9 (.quiet 10 0 .done) .stop)) .stop)) (.alt 8 (.fork (.alt 7 (.fork (.alt 9 (.quiet 10 0 .done) .stop)) (.alt 9 (.fork (.alt 7 (.quiet 10 0 .done) .stop)) .stop))) .stop))) (.alt 7 (.fork (.alt 6 (.fork (.alt 8 (.fork (.alt 9 (.quiet 10 0 .done) .stop)) .stop)) (.alt 8 (.fork (.alt 6 (.fork (.alt 9 (.quiet 10 0 .done) .stop)) .stop)) .stop))) (.alt 8 (.fork (.alt 6 (.fork (.alt 7 (.fork (.alt 9 (.quiet 10 0 .done) .stop)) (.alt 9 (.fork (.alt 7 (.quiet 10 0 .done) .stop)) .stop))) (.alt 7 (.fork (.alt 6 (.fork (.alt 9 (.quiet 10 0 .done) .stop)) .stop)) .stop))) .stop))))) (.alt 8 (.fork (.alt 4 (.quiet 5 0 (.fork (.alt 6 (.fork (.alt 7 (.fork (.alt 9 (.quiet 10 0 .done) .stop)) (.alt 9 (.fork (.alt 7 (.quiet 10 0 .done) .stop)) .stop))) (.alt 7 (.fork (.alt 6 (.fork (.alt 9 (.quiet 10 0 .done) .stop)) .stop)) .stop)))) .stop)) .stop))) (.alt 8 (.fork (.alt 3 (.fork (.alt 4 (.quiet 5 0 (.fork (.alt 6 (.fork (.alt 7 (.fork (.alt 9 (.quiet 10 0 .done) .stop)) (.alt 9 (.fork (.alt 7 (.quiet 10 0 .done) .stop)) .stop))) (.alt 7 (.fork (.alt 6 (.fork (.alt 9 (.quiet 10 0 .done) .stop)) .stop)) .stop)))) .stop)) .stop)) .stop))) (.alt 8 (.fork (.alt 1 (.fork (.alt 3 (.fork (.alt 4 (.quiet 5 0 (.fork (.alt 6 (.fork (.alt 7 (.fork (.alt 9 (.quiet 10 0 .done) .stop)) (.alt 9 (.fork (.alt 7 (.quiet 10 0 .done) .stop)) .stop))) (.alt 7 (.fork (.alt 6 (.fork (.alt 9 (.quiet 10 0 .done) .stop)) .stop)) .stop)))) .stop)) .stop)) .stop)) .stop))))) [4, 6, 7, 10, 13] [] [15] [.set 15 (.one (.ptr ⟨15, [], 0⟩)), .set 16 (B (moveImage x v).isSome)] [(15, ⟨true, [.own (.sl 2 ((imgR x v).Outer.map dSlot)), .own (.sl 1 ((imgR x v).Out.map dIntS)), .own (.sl 1 ((imgR x v).Dirty.map dBool)), .own (.sl 15 ((imgR x v).Guests.map dGuest)), .own (.sl 1 ((imgR x v).Outs.map dInt)), .own (.v (.int .i64 (imgR x v).Pending)), .own (.v (.int .i64 (imgR x v).Traps)), .own (.sl 2 ((imgR x v).Tables.map dKept)), .own (.v (.int .i64 (imgR x v).Own))]⟩)] ?_
                        refine ⟨?_, ?_⟩
                        · repeat' first | exact True.intro | refine And.intro ?_ ?_ | (intro _ _) | refine callG (laws_toHost_f x hx).k ?_ | refine callG (laws_toMove_f v hv).k ?_ | refine callG (impl_MoveImage_f x v).k ?_ | exact rfl | (refine eqS ?_; simp [*]; done)
                        refine callP (laws_eqMon_f (imgR x v) (imgR x v)).k ?_
                        refine cnd (fun hg4 => ?_) (fun hg4 => ?_)
                        · (exfalso; first | omega | contradiction | simp_all; done)
                        · refine cnd (fun hb9 => ?_) (fun hb9 => ?_)
                          · (exfalso; first | omega | contradiction | simp_all; done)
                          · refine callP (laws_heldMon_f (imgR x v) 1 (by omega) (by omega) hsm).k ?_
                            refine cnd (fun hb10 => ?_) (fun hb10 => ?_)
                            · (exfalso; first | omega | contradiction | simp_all; done)
                            · refine cnd (fun hb11 => ?_) (fun hb11 => ?_)
                              · (exfalso; first | omega | contradiction | simp_all; done)
                              · exact rfl
end Go.Proofs.YteelmdpahpggkaaGreat.T

