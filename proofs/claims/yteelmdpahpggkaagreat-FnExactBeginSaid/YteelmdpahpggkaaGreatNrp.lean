/- Begin: the law. PRINTED by gen3.py. No condition. -/
import Derived.Test.YteelmdpahpggkaaGreatNqp
import Derived.Test.YteelmdpahpggkaaGreatHbp
import Derived.Test.YteelmdpahpggkaaGreatHcp
import Derived.Test.YteelmdpahpggkaaGreatHep
import Derived.Test.YteelmdpahpggkaaGreatHfp
namespace Go.Proofs.YteelmdpahpggkaaGreat.T
open Go
set_option linter.unusedVariables false
set_option linter.unusedSimpArgs false
set_option maxRecDepth 100000
set_option maxHeartbeats 8000000

instance wlBare (xs : List VBare) : WL (xs.map dBare) := ⟨fun d hd => by obtain ⟨x, _, rfl⟩ := List.mem_map.1 hd; exact inferInstanceAs (WR (dBare x))⟩
theorem cnt_kept (n : Nat) : cntKeptS (List.replicate n keptNew) = 12 * n := by
  induction n with
  | zero => rfl
  | succ n ih =>
    have e : cntKeptS (List.replicate (n + 1) keptNew) = cntEKept keptNew + cntKeptS (List.replicate n keptNew) := by rw [List.replicate_succ]; rfl
    have e2 : cntEKept keptNew = 12 := by decide
    rw [e, e2, ih]
    omega
theorem cnt_begin1 {u : VBare} {t o : Int} (h : u.Guests.length ≤ 2) : cntEMon (monBegin u t o) ≤ cntEBare u + 50 := by
  have e1 : cntSlotS (tableNew 8) = 16 := by decide
  have e2 : cntBoolS (List.replicate 8 false) = 8 := by decide
  have e3 := cnt_kept u.Guests.length
  have e4 := mon_tables u t o
  unfold cntEMon cntEBare
  rw [e4, e3]
  show cntSlotS (tableNew 8) + cntIntSS u.Memory + cntBoolS (List.replicate 8 false) + cntGuestS u.Guests + cntIntS u.Outs + 1 + 1 + _ + 1 ≤ _
  omega
theorem cnt_begin {s : VSaved} (h : savedOk s = true) : ∀ n, n ≤ s.Mons.length → cntMonS (beginTo s n) ≤ cntBareS (s.Mons.take n) + 50 * n
  | 0, _ => by simp [beginTo, cntMonS, cntBareS, cntFold]
  | n + 1, hn => by
    have hp := savedPre_of h
    have hu : s.Mons[n]? = some s.Mons[n] := List.getElem?_eq_getElem (by omega)
    have ht : s.Traps[n]? = some (s.Traps[n]'(by omega)) := List.getElem?_eq_getElem (by omega)
    have ho : s.Own[n]? = some (s.Own[n]'(by omega)) := List.getElem?_eq_getElem (by omega)
    have ih := cnt_begin h n (by omega)
    have h1 := cnt_begin1 (t := s.Traps[n]'(by omega)) (o := s.Own[n]'(by omega)) (saved_in h hu ht ho)
    rw [begin_next hu ht ho]
    unfold cntMonS cntBareS at *
    rw [cntFold_app, cntFold_step hu]
    simp only [cntFold]
    omega
theorem cnt_beginH (s : VSaved) : cntVHost ((beginH s).getD noHost) ≤ cntVSaved s + 300 := by
  have h0 := cntVSaved_nn s
  cases h : savedOk s with
  | false => rw [begin_no h]; show cntVHost noHost ≤ _; have e : cntVHost noHost = 0 := by decide
             omega
  | true =>
    have hp := savedPre_of h
    have h1 := cnt_begin h s.Mons.length (Nat.le_refl _)
    rw [List.take_length] at h1
    have e1 : cntIntSS (memNew 12) = 48 := by decide
    have h2 := cntIntS_nn s.Traps
    have h3 := cntIntS_nn s.Own
    rw [begin_yes h]
    show cntIntSS (memNew 12) + cntMonS (beginTo s s.Mons.length) + cntEntryS [] + cntEntryS [] ≤ cntBareS s.Mons + cntIntS s.Traps + cntIntS s.Own + 300
    have e2 : cntEntryS [] = 0 := rfl
    omega
theorem sm_memNew (n : Nat) (h : n ≤ 1048576) : SmIntSS (memNew n) := ⟨by simp [memNew, h], fun x hx => by rw [List.eq_of_mem_replicate hx]; simp [SmIntS]⟩
theorem sm_begin1 {u : VBare} {t o : Int} (h : SmBare u) : SmMon (monBegin u t o) := by
  refine ⟨by simp [monBegin, SmSlotS, tableNew], h.1, by simp [monBegin, SmBoolS], h.2.1, h.2.2, ?_⟩
  have hg := h.2.1.1
  rw [mon_tables]
  refine ⟨by simpa using hg, fun x hx => ?_⟩
  rw [List.eq_of_mem_replicate hx]
  exact ⟨by simp [keptNew, SmBoolS], by simp [keptNew, SmSlotS]⟩
theorem sm_begin {s : VSaved} (hs : SmSaved s) : SmHost ((beginH s).getD noHost) := by
  cases h : savedOk s with
  | false => rw [begin_no h]; exact ⟨⟨by simp, fun x hx => by cases hx⟩, ⟨by simp, fun x hx => by cases hx⟩, by simp [SmEntryS], by simp [SmEntryS]⟩
  | true =>
    have hp := savedPre_of h
    rw [begin_yes h]
    refine ⟨sm_memNew 12 (by omega), ⟨by simp [beginTo]; omega, fun x hx => ?_⟩, by simp [SmEntryS], by simp [SmEntryS]⟩
    simp only [Option.getD_some, beginTo, List.mem_map, List.mem_range] at hx
    obtain ⟨k, hk, rfl⟩ := hx
    have hu : s.Mons[k]? = some s.Mons[k] := List.getElem?_eq_getElem hk
    rw [hu]
    exact sm_begin1 (hs.1.2 _ (List.mem_of_getElem? hu))
abbrev begR (s : VSaved) : VHost := (beginH s).getD noHost
theorem laws_FnExactBegin_f (x : VSaved) : Fun Tryz.prog 3 [A (rSaved x)] (RV (.bool true)) := by
  refine Fun.w 96 Tryz.func3 fun w g0 _ => ?_
  refine callP (laws_szSaved_f x 1048576 (by omega) (by omega)).k ?_
  refine cnd (fun hb => ?_) (fun hb => ?_)
  · exact rfl
  · have hx0 : 0 ≤ szSaved x 1048576 := by omega
    have hx := (szSaved_ok x 1048576 hx0).2 (by omega)
    have hle := (szSaved_ok x 1048576 hx0).1
    have hcv := szSaved_cntV x 1048576 hx0
    have hcn := cntVSaved_nn x
    have : Q (SmSaved x) := ⟨hx⟩
    have hsm : SmHost (begR x) := sm_begin hx
    have hcl : cntVHost (begR x) ≤ cntVSaved x + 300 := cnt_beginH x
    have hcr := cntVHost_nn (begR x)
    have hrn1 := cntIntSS_nn (begR x).Memory
    have hrn2 := cntMonS_nn (begR x).Mons
    have hrn3 := cntEntryS_nn (begR x).Buffer
    have hrn4 := cntEntryS_nn (begR x).IoBuffer
    have hn1 := cntBareS_nn x.Mons
    have hn2 := cntIntS_nn x.Traps
    have hn3 := cntIntS_nn x.Own
    refine callG (laws_toSaved_f x hx).k ?_
    refine callG (spec_Begin_f x).k ?_
    refine callG (laws_toSaved_f x hx).k ?_
    refine callG (impl_Begin_f x).k ?_
    refine callP (laws_eqHost_f (begR x) (begR x)).k ?_
    refine cnd (fun hg4 => ?_) (fun hg4 => ?_)
    · (exfalso; first | omega | contradiction | simp_all; done)
    · refine cnd (fun hb2 => ?_) (fun hb2 => ?_)
      · (exfalso; first | omega | contradiction | simp_all; done)
      · refine regU [] [(0, 0), (1, 0), (2, 1), (3, 1), (4, 0)] ?_
        refine callG (laws_toSaved_f x hx).k ?_
        refine callP (laws_eqSaved_f x x).k ?_
        refine cnd (fun hb3 => ?_) (fun hb3 => ?_)
        · (exfalso; first | omega | contradiction | simp_all; done)
        · refine callH [(6, 0), (6, 1), (6, 2)] (laws_markSaved_f x 1 (by omega) (by omega) hx) ?_
          refine cnd (fun hg2 => ?_) (fun hg2 => ?_)
          · (exfalso; first | omega | contradiction | simp_all; done)
          · refine callP (laws_eqHost_f (begR x) (begR x)).k ?_
            refine cnd (fun hg8 => ?_) (fun hg8 => ?_)
            · (exfalso; first | omega | contradiction | simp_all; done)
            · refine cnd (fun hb4 => ?_) (fun hb4 => ?_)
              · (exfalso; first | omega | contradiction | simp_all; done)
              · refine callH [(7, 0), (7, 1), (7, 2), (7, 3)] (laws_markHost_f (begR x) 1 (by omega) (by omega) hsm) ?_
                refine callP (laws_heldHost_f (begR x) 1 (by omega) (by omega) hsm).k ?_
                refine cnd (fun hb5 => ?_) (fun hb5 => ?_)
                · (exfalso; first | omega | contradiction | simp_all; done)
                · refine cnd (fun hb6 => ?_) (fun hb6 => ?_)
                  · (exfalso; first | omega | contradiction | simp_all; done)
                  · refine callG (laws_toSaved_f x hx).k ?_
                    refine callG (impl_Begin_f x).k ?_
                    refine callP (laws_eqHost_f (begR x) (begR x)).k ?_
                    refine cnd (fun hg4 => ?_) (fun hg4 => ?_)
                    · (exfalso; first | omega | contradiction | simp_all; done)
                    · refine cnd (fun hb7 => ?_) (fun hb7 => ?_)
                      · (exfalso; first | omega | contradiction | simp_all; done)
                      · refine callP (laws_heldHost_f (begR x) 1 (by omega) (by omega) hsm).k ?_
                        refine cnd (fun hb8 => ?_) (fun hb8 => ?_)
                        · (exfalso; first | omega | contradiction | simp_all; done)
                        · refine cnd (fun hb9 => ?_) (fun hb9 => ?_)
                          · (exfalso; first | omega | contradiction | simp_all; done)
                          · exact rfl
end Go.Proofs.YteelmdpahpggkaaGreat.T

