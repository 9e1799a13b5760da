/- What is made anew: tables, guests, monitors; what is put away and begun again, both sides. PRINTED by gen3.py. No condition. -/
import Derived.Test.YteelmdpahpggkaaGreatNnp
namespace Go.Proofs.YteelmdpahpggkaaGreat.T
open Go
set_option linter.unusedVariables false
set_option linter.unusedSimpArgs false
set_option maxRecDepth 100000
set_option maxHeartbeats 8000000

theorem range_all {P : Nat → Bool} {n : Nat} : (List.range n).all P = true ↔ ∀ k, k < n → P k = true := by simp [List.all_eq_true]
def savedPre (s : VSaved) : Bool := inR s.Mons.length 1 3 && decide (s.Traps.length = s.Mons.length) && decide (s.Own.length = s.Mons.length)
def savedAt (s : VSaved) (k : Nat) : Bool := bareOk (s.Mons[k]?.getD noBare) && inR (s.Traps[k]?.getD 0) 0 3 && inR (s.Own[k]?.getD 0) 0 1000000000
theorem savedAt_eq {s : VSaved} {k : Nat} {u : VBare} {t o : Int} (hu : s.Mons[k]? = some u) (ht : s.Traps[k]? = some t) (ho : s.Own[k]? = some o) : savedAt s k = (bareOk u && inR t 0 3 && inR o 0 1000000000) := by
  simp only [savedAt, hu, ht, ho, Option.getD_some]
theorem saved_off {s : VSaved} (h : savedPre s = false) : savedOk s = false := by
  unfold savedPre at h
  unfold savedOk
  rw [h]
  simp
theorem saved_yes {s : VSaved} (h : savedOk s = true) : savedPre s = true ∧ ∀ k, k < s.Mons.length → savedAt s k = true := by
  unfold savedOk at h
  simp only [Bool.and_eq_true, decide_eq_true_eq] at h
  obtain ⟨⟨⟨⟨⟨h1, h2⟩, h3⟩, h4⟩, h5⟩, h6⟩ := h
  refine ⟨by simp only [savedPre, Bool.and_eq_true, decide_eq_true_eq]; exact ⟨⟨h1, h2⟩, h3⟩, fun k hk => ?_⟩
  have e1 : s.Mons[k]? = some s.Mons[k] := List.getElem?_eq_getElem hk
  have e2 : s.Traps[k]? = some (s.Traps[k]'(by omega)) := List.getElem?_eq_getElem (by omega)
  have e3 : s.Own[k]? = some (s.Own[k]'(by omega)) := List.getElem?_eq_getElem (by omega)
  rw [savedAt_eq e1 e2 e3, List.all_eq_true.1 h4 _ (List.mem_of_getElem? e1), List.all_eq_true.1 h5 _ (List.mem_of_getElem? e2), List.all_eq_true.1 h6 _ (List.mem_of_getElem? e3)]
  rfl
theorem saved_bad {s : VSaved} {k : Nat} (hk : k < s.Mons.length) (h : savedAt s k = false) : savedOk s = false := by
  rw [Bool.eq_false_iff]
  intro e
  rw [(saved_yes e).2 k hk] at h
  cases h
theorem saved_good {s : VSaved} {i : Nat} (h : savedPre s = true) (h2 : (List.range i).all (savedAt s) = true) (hi : s.Mons.length ≤ i) : savedOk s = true := by
  have h2' : ∀ k, k < s.Mons.length → savedAt s k = true := fun k hk => range_all.1 h2 k (by omega)
  simp only [savedPre, Bool.and_eq_true, decide_eq_true_eq] at h
  unfold savedOk
  simp only [Bool.and_eq_true, decide_eq_true_eq]
  refine ⟨⟨⟨⟨⟨h.1.1, h.1.2⟩, h.2⟩, List.all_eq_true.2 fun x hx => ?_⟩, List.all_eq_true.2 fun x hx => ?_⟩, List.all_eq_true.2 fun x hx => ?_⟩
  · obtain ⟨k, hk⟩ := List.getElem?_of_mem hx
    have := h2' k (List.getElem?_eq_some_iff.1 hk).1
    simp only [savedAt, hk, Option.getD_some, Bool.and_eq_true] at this
    exact this.1.1
  · obtain ⟨k, hk⟩ := List.getElem?_of_mem hx
    have := h2' k (by have := (List.getElem?_eq_some_iff.1 hk).1; omega)
    simp only [savedAt, hk, Option.getD_some, Bool.and_eq_true] at this
    exact this.1.2
  · obtain ⟨k, hk⟩ := List.getElem?_of_mem hx
    have := h2' k (by have := (List.getElem?_eq_some_iff.1 hk).1; omega)
    simp only [savedAt, hk, Option.getD_some, Bool.and_eq_true] at this
    exact this.2
theorem begin_next {s : VSaved} {i : Nat} {u : VBare} {t o : Int} (hu : s.Mons[i]? = some u) (ht : s.Traps[i]? = some t) (ho : s.Own[i]? = some o) : beginTo s (i + 1) = beginTo s i ++ [monBegin u t o] := by
  unfold beginTo
  rw [List.range_succ, List.map_append]
  simp [hu, ht, ho]
theorem mon_tables (u : VBare) (t o : Int) : (monBegin u t o).Tables = List.replicate u.Guests.length keptNew := by simp [monBegin, List.map_const']
/-- a monitor while its tables are made -/
def monTo (u : VBare) (t o : Int) (k : Nat) : VMon := { monBegin u t o with Tables := List.replicate k keptNew }
theorem monTo_end {u : VBare} {t o : Int} {k : Nat} (h : k = u.Guests.length) : monTo u t o k = monBegin u t o := by
  subst h
  unfold monTo
  rw [← mon_tables u t o]
theorem impl_TableNew_f (n : Nat) (hn : 1 ≤ n ∧ n ≤ 24 := by omega) : Fun Tryz.prog 132 [I n] (RL 2 ((tableNew n).map dSlot)) := by
  refine Fun.w 8 Tryz.func132 fun w g0 _ => ?_
  refine callP (impl_NoSlot_f).k ?_
  refine callP (impl_Brought_n hn.2).k ?_
  refine callL (slices_RepeatSlot_f noSlot n hn).k ?_
  exact rfl

theorem spec_KeptNew_f  : Fun Tryz.prog 76 [I 4] (RG [.a (rKept keptNew)]) := by
  refine Fun.w 11 Tryz.func76 fun w g0 _ => ?_
  refine callL (spec_TableNew_f 4 (by omega)).k ?_
  refine lenq 4 ?_ rfl
  refine mkn ?_
  exact rfl

theorem impl_KeptNew_f  : Fun Tryz.prog 84 [I 4] (RG [.a (rKept keptNew)]) := by
  refine Fun.w 9 Tryz.func84 fun w g0 _ => ?_
  refine regT [6] [] [] (.quiet 0 0 (.quiet 3 0 (.fork (.alt 1 (.fork (.alt 2 (.fork (.alt 4 (.quiet 5 0 (.fork (.alt 6 .done .stop))) .stop)) (.alt 4 (.fork (.alt 2 (.quiet 5 0 (.fork (.alt 6 .done .stop))) .stop)) .stop))) .stop)))) ?_
  repeat' first | exact True.intro | refine And.intro ?_ ?_ | (intro _ _) | refine callP (impl_Brought_n (n := 4) (by omega)).k ?_ | refine mkn ?_ | refine callL (impl_TableNew_f 4 (by omega)).k ?_
  all_goals exact rfl

theorem impl_GuestNew_f (p : List VIns) [Q (SmInsS p)] : Fun Tryz.prog 187 [L 2 (p.map dIns)] (RG [.a (rGuest (guestNew p))]) := by
  refine Fun.w 8 Tryz.func187 fun w g0 _ => ?_
  refine callL (impl_copyProg_f _).k ?_
  refine callL (impl_TableNew_f 4 (by omega)).k ?_
  refine callL (impl_TableNew_f 4 (by omega)).k ?_
  exact rfl

theorem spec_BareOk_f (b : VBare) : Fun Tryz.prog 181 [A (rBare b)] (RV (.bool (bareOk b))) := by
  refine Fun.w 38 Tryz.func181 fun w g0 hM => ?_
  have hl0 := hM.1.2.1.map
  have hl1 := hM.1.2.2.1.map
  refine loopA [1] [] [] (fun (i : Nat) => [.set 3 (I i)]) (fun (i : Nat) => []) (fun (i : Nat) => (i ≤ b.Guests.length) ∧ ((b.Guests.take i).all guestOk = true)) (fun (i : Nat) => b.Guests.length - i) (0) (⟨Nat.zero_le _, rfl⟩) ?_
  refine ⟨hda, fun i hyp N1 hN1 => ?_⟩
  have hyp : (i ≤ b.Guests.length) ∧ ((b.Guests.take i).all guestOk = true) := hyp
  have ha := all_dec hyp.2
  refine len ?_
  refine cnd (fun hb => ?_) (fun hb => ?_)
  · first | refine ixm (by assumption) ?_ | refine bnd ?_ | refine bndi ?_ | refine ixkq (fun y14 hy14 qy14 ly14 => ?_) | refine ixiq (fun y14 hy14 qy14 ly14 => ?_)
    first | refine ixs ?_ | refine ixo (by assumption) ?_ | refine ixoq (fun z1 hz1 qz1 lz1 => ?_) | skip
    refine callP (spec_GuestOk_f _).k ?_
    refine cnd (fun hb2 => ?_) (fun hb2 => ?_)
    · refine hN1 _ _ _ ?_
      exact resV (by first | (unfold bareOk; rw [ha.1 _ (by assumption) (by assumption)]; rfl) | (unfold bareOk; rw [ha.2 (by omega)]; simp [*]; done) | (unfold bareOk; rw [ha.2 (by omega)]; refine congrArg Value.bool ?_; rw [Bool.eq_iff_iff]; simp [*]; omega) | (unfold bareOk; rw [ha.2 (by omega)]; refine congrArg Value.bool ?_; symm; rw [Bool.eq_false_iff]; intro e; simp only [Bool.and_eq_true, decide_eq_true_eq] at e; omega))
    · refine rng ?_
      refine hN1 _ _ _ ?_
      refine nxa (i + 1) (⟨by omega, all_next hyp.2 (by assumption) (by first | assumption | exact decide_eq_false (by omega) | exact decide_eq_true (by omega))⟩)
  · refine hN1 _ _ _ ?_
    refine callP (spec_MemOk_f _ _).k ?_
    refine cnd (fun hg3 => ?_) (fun hg3 => ?_)
    · refine len ?_
      refine callP (spec_l01In_f _ _ _).k ?_
      refine cnd (fun hg9 => ?_) (fun hg9 => ?_)
      · refine len ?_
        refine cnd (fun hg15 => ?_) (fun hg15 => ?_)
        · refine callP (spec_PendOk_f _).k ?_
          exact resV (by first | (unfold bareOk; rw [ha.1 _ (by assumption) (by assumption)]; rfl) | (unfold bareOk; rw [ha.2 (by omega)]; simp [*]; done) | (unfold bareOk; rw [ha.2 (by omega)]; refine congrArg Value.bool ?_; rw [Bool.eq_iff_iff]; simp [*]; omega) | (unfold bareOk; rw [ha.2 (by omega)]; refine congrArg Value.bool ?_; symm; rw [Bool.eq_false_iff]; intro e; simp only [Bool.and_eq_true, decide_eq_true_eq] at e; omega))
        · exact resV (by first | (unfold bareOk; rw [ha.1 _ (by assumption) (by assumption)]; rfl) | (unfold bareOk; rw [ha.2 (by omega)]; simp [*]; done) | (unfold bareOk; rw [ha.2 (by omega)]; refine congrArg Value.bool ?_; rw [Bool.eq_iff_iff]; simp [*]; omega) | (unfold bareOk; rw [ha.2 (by omega)]; refine congrArg Value.bool ?_; symm; rw [Bool.eq_false_iff]; intro e; simp only [Bool.and_eq_true, decide_eq_true_eq] at e; omega))
      · exact resV (by first | (unfold bareOk; rw [ha.1 _ (by assumption) (by assumption)]; rfl) | (unfold bareOk; rw [ha.2 (by omega)]; simp [*]; done) | (unfold bareOk; rw [ha.2 (by omega)]; refine congrArg Value.bool ?_; rw [Bool.eq_iff_iff]; simp [*]; omega) | (unfold bareOk; rw [ha.2 (by omega)]; refine congrArg Value.bool ?_; symm; rw [Bool.eq_false_iff]; intro e; simp only [Bool.and_eq_true, decide_eq_true_eq] at e; omega))
    · exact resV (by first | (unfold bareOk; rw [ha.1 _ (by assumption) (by assumption)]; rfl) | (unfold bareOk; rw [ha.2 (by omega)]; simp [*]; done) | (unfold bareOk; rw [ha.2 (by omega)]; refine congrArg Value.bool ?_; rw [Bool.eq_iff_iff]; simp [*]; omega) | (unfold bareOk; rw [ha.2 (by omega)]; refine congrArg Value.bool ?_; symm; rw [Bool.eq_false_iff]; intro e; simp only [Bool.and_eq_true, decide_eq_true_eq] at e; omega))

theorem impl_BareOk_f (b : VBare) : Fun Tryz.prog 186 [A (rBare b)] (RV (.bool (bareOk b))) := by
  refine Fun.w 36 Tryz.func186 fun w g0 hM => ?_
  have hl0 := hM.1.2.1.map
  have hl1 := hM.1.2.2.1.map
  refine len ?_
  refine loopA [1, 6, 7] [] [] (fun (i : Nat) => [.set 8 (I i)]) (fun (i : Nat) => []) (fun (i : Nat) => (i ≤ b.Guests.length) ∧ ((b.Guests.take i).all guestOk = true)) (fun (i : Nat) => b.Guests.length - i) (0) (⟨Nat.zero_le _, rfl⟩) ?_
  refine ⟨hda, fun i hyp N1 hN1 => ?_⟩
  have hyp : (i ≤ b.Guests.length) ∧ ((b.Guests.take i).all guestOk = true) := hyp
  have ha := all_dec hyp.2
  refine cnd (fun hb => ?_) (fun hb => ?_)
  · first | refine ixm (by assumption) ?_ | refine bnd ?_ | refine bndi ?_ | refine ixkq (fun y10 hy10 qy10 ly10 => ?_) | refine ixiq (fun y10 hy10 qy10 ly10 => ?_)
    first | refine ixs ?_ | refine ixo (by assumption) ?_ | refine ixoq (fun z1 hz1 qz1 lz1 => ?_) | skip
    refine callP (impl_GuestOk_f _).k ?_
    refine cnd (fun hb2 => ?_) (fun hb2 => ?_)
    · refine hN1 _ _ _ ?_
      exact resV (by first | (unfold bareOk; rw [ha.1 _ (by assumption) (by assumption)]; rfl) | (unfold bareOk; rw [ha.2 (by omega)]; simp [*]; done) | (unfold bareOk; rw [ha.2 (by omega)]; refine congrArg Value.bool ?_; rw [Bool.eq_iff_iff]; simp [*]; omega) | (unfold bareOk; rw [ha.2 (by omega)]; refine congrArg Value.bool ?_; symm; rw [Bool.eq_false_iff]; intro e; simp only [Bool.and_eq_true, decide_eq_true_eq] at e; omega))
    · refine rng ?_
      refine hN1 _ _ _ ?_
      refine nxa (i + 1) (⟨by omega, all_next hyp.2 (by assumption) (by first | assumption | exact decide_eq_false (by omega) | exact decide_eq_true (by omega))⟩)
  · refine hN1 _ _ _ ?_
    refine callP (impl_MemOk_f _ _).k ?_
    refine cnd (fun hg3 => ?_) (fun hg3 => ?_)
    · refine len ?_
      refine callP (impl_within_f _ _ _).k ?_
      refine cnd (fun hg9 => ?_) (fun hg9 => ?_)
      · refine len ?_
        refine cnd (fun hg15 => ?_) (fun hg15 => ?_)
        · refine callP (impl_PendOk_f _).k ?_
          exact resV (by first | (unfold bareOk; rw [ha.1 _ (by assumption) (by assumption)]; rfl) | (unfold bareOk; rw [ha.2 (by omega)]; simp [*]; done) | (unfold bareOk; rw [ha.2 (by omega)]; refine congrArg Value.bool ?_; rw [Bool.eq_iff_iff]; simp [*]; omega) | (unfold bareOk; rw [ha.2 (by omega)]; refine congrArg Value.bool ?_; symm; rw [Bool.eq_false_iff]; intro e; simp only [Bool.and_eq_true, decide_eq_true_eq] at e; omega))
        · exact resV (by first | (unfold bareOk; rw [ha.1 _ (by assumption) (by assumption)]; rfl) | (unfold bareOk; rw [ha.2 (by omega)]; simp [*]; done) | (unfold bareOk; rw [ha.2 (by omega)]; refine congrArg Value.bool ?_; rw [Bool.eq_iff_iff]; simp [*]; omega) | (unfold bareOk; rw [ha.2 (by omega)]; refine congrArg Value.bool ?_; symm; rw [Bool.eq_false_iff]; intro e; simp only [Bool.and_eq_true, decide_eq_true_eq] at e; omega))
      · exact resV (by first | (unfold bareOk; rw [ha.1 _ (by assumption) (by assumption)]; rfl) | (unfold bareOk; rw [ha.2 (by omega)]; simp [*]; done) | (unfold bareOk; rw [ha.2 (by omega)]; refine congrArg Value.bool ?_; rw [Bool.eq_iff_iff]; simp [*]; omega) | (unfold bareOk; rw [ha.2 (by omega)]; refine congrArg Value.bool ?_; symm; rw [Bool.eq_false_iff]; intro e; simp only [Bool.and_eq_true, decide_eq_true_eq] at e; omega))
    · exact resV (by first | (unfold bareOk; rw [ha.1 _ (by assumption) (by assumption)]; rfl) | (unfold bareOk; rw [ha.2 (by omega)]; simp [*]; done) | (unfold bareOk; rw [ha.2 (by omega)]; refine congrArg Value.bool ?_; rw [Bool.eq_iff_iff]; simp [*]; omega) | (unfold bareOk; rw [ha.2 (by omega)]; refine congrArg Value.bool ?_; symm; rw [Bool.eq_false_iff]; intro e; simp only [Bool.and_eq_true, decide_eq_true_eq] at e; omega))

theorem spec_SavedOk_f (s : VSaved) : Fun Tryz.prog 72 [A (rSaved s)] (RV (.bool (savedOk s))) := by
  refine Fun.w 59 Tryz.func72 fun w g0 hM => ?_
  have hl0 := hM.1.1.map
  have hl1 := hM.1.2.2.1.map
  have hl2 := hM.1.2.1.map
  refine len ?_
  refine callP (spec_l01In_f _ _ _).k ?_
  refine cnd (fun hg5 => ?_) (fun hg5 => ?_)
  · exact resV (by rw [saved_off (by rw [Bool.eq_false_iff]; intro e; simp only [savedPre, Bool.and_eq_true, decide_eq_true_eq] at e; omega)])
  · refine len ?_
    refine len ?_
    refine cnd (fun hg14 => ?_) (fun hg14 => ?_)
    · exact resV (by rw [saved_off (by rw [Bool.eq_false_iff]; intro e; simp only [savedPre, Bool.and_eq_true, decide_eq_true_eq] at e; omega)])
    · refine len ?_
      refine len ?_
      refine cnd (fun hb => ?_) (fun hb => ?_)
      · exact resV (by rw [saved_off (by rw [Bool.eq_false_iff]; intro e; simp only [savedPre, Bool.and_eq_true, decide_eq_true_eq] at e; omega)])
      · have hpre : savedPre s = true := (by unfold savedPre; simp only [Bool.and_eq_true, decide_eq_true_eq]; refine ⟨⟨?_, ?_⟩, ?_⟩ <;> omega)
        have hpl : s.Traps.length = s.Mons.length ∧ s.Own.length = s.Mons.length := (by omega)
        refine loopA [1] [] [] (fun (i : Nat) => [.set 3 (I i)]) (fun (i : Nat) => []) (fun (i : Nat) => (i ≤ s.Mons.length) ∧ ((List.range i).all (savedAt s) = true)) (fun (i : Nat) => s.Mons.length - i) (0) (⟨Nat.zero_le _, rfl⟩) ?_
        refine ⟨hda, fun i hyp N1 hN1 => ?_⟩
        have hyp : (i ≤ s.Mons.length) ∧ ((List.range i).all (savedAt s) = true) := hyp
        refine len ?_
        refine cnd (fun hb2 => ?_) (fun hb2 => ?_)
        · obtain ⟨u, hu⟩ : ∃ u, s.Mons[i]? = some u := ⟨_, List.getElem?_eq_getElem (by omega)⟩
          obtain ⟨t, ht⟩ : ∃ t, s.Traps[i]? = some t := ⟨_, List.getElem?_eq_getElem (by omega)⟩
          obtain ⟨o, ho⟩ : ∃ o, s.Own[i]? = some o := ⟨_, List.getElem?_eq_getElem (by omega)⟩
          refine ixm hu ?_
          first | refine ixs ?_ | refine ixo (by assumption) ?_ | refine ixoq (fun z1 hz1 qz1 lz1 => ?_) | skip
          refine callP (spec_BareOk_f _).k ?_
          refine cnd (fun hg7 => ?_) (fun hg7 => ?_)
          · refine hN1 _ _ _ ?_
            exact resV (by rw [saved_bad (k := i) (by omega) (by rw [savedAt_eq hu ht ho, Bool.eq_false_iff]; intro e; simp only [Bool.and_eq_true, decide_eq_true_eq] at e; first | omega | (simp_all; done))])
          · refine ixm ht ?_
            first | refine ixs ?_ | refine ixo (by assumption) ?_ | refine ixoq (fun z2 hz2 qz2 lz2 => ?_) | skip
            refine callP (spec_l01In_f _ _ _).k ?_
            refine cnd (fun hg16 => ?_) (fun hg16 => ?_)
            · refine hN1 _ _ _ ?_
              exact resV (by rw [saved_bad (k := i) (by omega) (by rw [savedAt_eq hu ht ho, Bool.eq_false_iff]; intro e; simp only [Bool.and_eq_true, decide_eq_true_eq] at e; first | omega | (simp_all; done))])
            · refine ixm ho ?_
              first | refine ixs ?_ | refine ixo (by assumption) ?_ | refine ixoq (fun z3 hz3 qz3 lz3 => ?_) | skip
              refine callP (spec_l01In_f _ _ _).k ?_
              refine cnd (fun hb3 => ?_) (fun hb3 => ?_)
              · refine hN1 _ _ _ ?_
                exact resV (by rw [saved_bad (k := i) (by omega) (by rw [savedAt_eq hu ht ho, Bool.eq_false_iff]; intro e; simp only [Bool.and_eq_true, decide_eq_true_eq] at e; first | omega | (simp_all; done))])
              · refine rng ?_
                refine hN1 _ _ _ ?_
                refine nxa (i + 1) (⟨by omega, range_step hyp.2 (by rw [savedAt_eq hu ht ho]; simp only [Bool.and_eq_true, decide_eq_true_eq]; refine ⟨⟨?_, ?_⟩, ?_⟩ <;> first | assumption | omega)⟩)
        · refine hN1 _ _ _ ?_
          exact resV (by rw [saved_good hpre hyp.2 (by omega)])

theorem impl_SavedOk_f (s : VSaved) : Fun Tryz.prog 78 [A (rSaved s)] (RV (.bool (savedOk s))) := by
  refine Fun.w 56 Tryz.func78 fun w g0 hM => ?_
  have hl0 := hM.1.1.map
  have hl1 := hM.1.2.2.1.map
  have hl2 := hM.1.2.1.map
  refine len ?_
  refine callP (impl_within_f _ _ _).k ?_
  refine cnd (fun hg3 => ?_) (fun hg3 => ?_)
  · exact resV (by rw [saved_off (by rw [Bool.eq_false_iff]; intro e; simp only [savedPre, Bool.and_eq_true, decide_eq_true_eq] at e; omega)])
  · refine len ?_
    refine cnd (fun hg10 => ?_) (fun hg10 => ?_)
    · exact resV (by rw [saved_off (by rw [Bool.eq_false_iff]; intro e; simp only [savedPre, Bool.and_eq_true, decide_eq_true_eq] at e; omega)])
    · refine len ?_
      refine cnd (fun hb => ?_) (fun hb => ?_)
      · exact resV (by rw [saved_off (by rw [Bool.eq_false_iff]; intro e; simp only [savedPre, Bool.and_eq_true, decide_eq_true_eq] at e; omega)])
      · have hpre : savedPre s = true := (by unfold savedPre; simp only [Bool.and_eq_true, decide_eq_true_eq]; refine ⟨⟨?_, ?_⟩, ?_⟩ <;> omega)
        have hpl : s.Traps.length = s.Mons.length ∧ s.Own.length = s.Mons.length := (by omega)
        refine len ?_
        refine loopA [1, 27, 28] [] [] (fun (i : Nat) => [.set 29 (I i)]) (fun (i : Nat) => []) (fun (i : Nat) => (i ≤ s.Mons.length) ∧ ((List.range i).all (savedAt s) = true)) (fun (i : Nat) => s.Mons.length - i) (0) (⟨Nat.zero_le _, rfl⟩) ?_
        refine ⟨hda, fun i hyp N1 hN1 => ?_⟩
        have hyp : (i ≤ s.Mons.length) ∧ ((List.range i).all (savedAt s) = true) := hyp
        refine cnd (fun hb2 => ?_) (fun hb2 => ?_)
        · obtain ⟨u, hu⟩ : ∃ u, s.Mons[i]? = some u := ⟨_, List.getElem?_eq_getElem (by omega)⟩
          obtain ⟨t, ht⟩ : ∃ t, s.Traps[i]? = some t := ⟨_, List.getElem?_eq_getElem (by omega)⟩
          obtain ⟨o, ho⟩ : ∃ o, s.Own[i]? = some o := ⟨_, List.getElem?_eq_getElem (by omega)⟩
          refine ixm hu ?_
          first | refine ixs ?_ | refine ixo (by assumption) ?_ | refine ixoq (fun z1 hz1 qz1 lz1 => ?_) | skip
          refine callP (impl_BareOk_f _).k ?_
          refine cnd (fun hg3 => ?_) (fun hg3 => ?_)
          · refine hN1 _ _ _ ?_
            exact resV (by rw [saved_bad (k := i) (by omega) (by rw [savedAt_eq hu ht ho, Bool.eq_false_iff]; intro e; simp only [Bool.and_eq_true, decide_eq_true_eq] at e; first | omega | (simp_all; done))])
          · refine ixm ht ?_
            first | refine ixs ?_ | refine ixo (by assumption) ?_ | refine ixoq (fun z2 hz2 qz2 lz2 => ?_) | skip
            refine callP (impl_within_f _ _ _).k ?_
            refine cnd (fun hg12 => ?_) (fun hg12 => ?_)
            · refine hN1 _ _ _ ?_
              exact resV (by rw [saved_bad (k := i) (by omega) (by rw [savedAt_eq hu ht ho, Bool.eq_false_iff]; intro e; simp only [Bool.and_eq_true, decide_eq_true_eq] at e; first | omega | (simp_all; done))])
            · refine ixm ho ?_
              first | refine ixs ?_ | refine ixo (by assumption) ?_ | refine ixoq (fun z3 hz3 qz3 lz3 => ?_) | skip
              refine callP (impl_within_f _ _ _).k ?_
              refine cnd (fun hb3 => ?_) (fun hb3 => ?_)
              · refine hN1 _ _ _ ?_
                exact resV (by rw [saved_bad (k := i) (by omega) (by rw [savedAt_eq hu ht ho, Bool.eq_false_iff]; intro e; simp only [Bool.and_eq_true, decide_eq_true_eq] at e; first | omega | (simp_all; done))])
              · refine rng ?_
                refine hN1 _ _ _ ?_
                refine nxa (i + 1) (⟨by omega, range_step hyp.2 (by rw [savedAt_eq hu ht ho]; simp only [Bool.and_eq_true, decide_eq_true_eq]; refine ⟨⟨?_, ?_⟩, ?_⟩ <;> first | assumption | omega)⟩)
        · refine hN1 _ _ _ ?_
          exact resV (by rw [saved_good hpre hyp.2 (by omega)])
end Go.Proofs.YteelmdpahpggkaaGreat.T

