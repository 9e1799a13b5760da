
import Derived.Test.YteelmdpahpggkaaGreatPcp
namespace Go.Proofs.YteelmdpahpggkaaGreat.T
open Go
set_option linter.unusedVariables false
set_option linter.unusedSimpArgs false
set_option maxRecDepth 100000
set_option maxHeartbeats 8000000
abbrev postF (n : Int) (g : VGuest) : VGuest := { g with Pending := (postIrq g.Pending n).getD g.Pending }
abbrev postB (gs : List VGuest) (n : Int) (i : Nat) : Bool := posts (gs[i]?.getD noGuest).Ctl n
abbrev postL (b : VBare) (n : Int) : List Int := rangeF (postB b.Guests n) b.Guests.length
def postTo (n : Int) (gs : List VGuest) (l : List Int) : List VGuest := l.foldl (fun gs i => gs.set i.toNat (postF n (gs[i.toNat]?.getD noGuest))) gs
theorem postTo_len {n : Int} : ∀ {l : List Int} {gs : List VGuest}, (postTo n gs l).length = gs.length
 | [], gs => rfl
 | i :: l, gs => by
  show (postTo n (gs.set _ _) l).length = _
  rw [postTo_len, List.length_set]
theorem postTo_snoc {n i : Int} {l : List Int} {gs : List VGuest} : postTo n gs (l ++ [i]) = (postTo n gs l).set i.toNat (postF n ((postTo n gs l)[i.toNat]?.getD noGuest)) := by
 unfold postTo
 rw [List.foldl_append]
 rfl
theorem postTo_step {n p : Int} {l : List Int} {gs : List VGuest} {i : Nat} {y : VGuest} (hp : l[i]? = some p) (hy : (postTo n gs (l.take i))[p.toNat]? = some y) : postTo n gs (l.take (i + 1)) = (postTo n gs (l.take i)).set p.toNat (postF n y) := by
 rw [List.take_add_one, hp]
 show postTo n gs (l.take i ++ [p]) = _
 rw [postTo_snoc, hy]
 rfl
theorem rangeF_in {P : Nat → Bool} {n i : Nat} {p : Int} (h : (rangeF P n)[i]? = some p) : 0 ≤ p ∧ p < n := by
 have h1 := List.mem_of_getElem? h
 simp only [rangeF, List.mem_map, List.mem_filter, List.mem_range] at h1
 obtain ⟨k, h2, rfl⟩ := h1
 omega
theorem sm_postTo {n : Int} : ∀ {l : List Int} {gs : List VGuest}, SmGuestS gs → SmGuestS (postTo n gs l)
 | [], gs, h => h
 | i :: l, gs, h => by
  refine sm_postTo (l := l) (gs := gs.set i.toNat (postF n (gs[i.toNat]?.getD noGuest))) ⟨by rw [List.length_set]; exact h.1, fun y hy => ?_⟩
  rcases List.mem_or_eq_of_mem_set hy with hy | rfl
  ·exact h.2 y hy
  ·cases e : gs[i.toNat]? with
   | none => exact sm_noGuest
   | some x => exact h.2 x (List.mem_of_getElem? e)
instance (n : Int) (l : List Int) (gs : List VGuest) [h : Q (SmGuestS gs)] : Q (SmGuestS (postTo n gs l)) := ⟨sm_postTo h.h⟩
theorem post_map {n : Int} {gs : List VGuest} : ∀ {k : Nat}, k ≤ gs.length → postTo n gs (rangeF (postB gs n) k) = (gs.take k).map (postedG n) ++ gs.drop k
 | 0, _ => by simp [rangeF_zero, postTo]
 | k + 1, hk => by
  have ih := post_map (n := n) (gs := gs) (k := k) (by omega)
  have hg : gs[k]? = some gs[k] := List.getElem?_eq_getElem (by omega)
  have hd : gs.drop k = gs[k] :: gs.drop (k + 1) := List.drop_eq_getElem_cons (by omega)
  have hl : ((gs.take k).map (postedG n)).length = k := by simp; omega
  have e1 : (gs.take (k + 1)).map (postedG n) = (gs.take k).map (postedG n) ++ [postedG n gs[k]] := by rw [List.take_add_one, hg, List.map_append]; rfl
  rw [rangeF_succ, e1]
  have hb : postB gs n k = posts gs[k].Ctl n := by show posts (gs[k]?.getD noGuest).Ctl n = _; rw [hg]; rfl
  split
  ·rename_i hp
   rw [hb] at hp
   rw [postTo_snoc, ih, Int.toNat_natCast, List.getElem?_append_right (by omega), List.set_append_right _ _ (by omega), hl, Nat.sub_self, hd, List.set_cons_zero, List.append_assoc]
   rw [show postedG n gs[k] = postF n gs[k] from if_pos hp]
   rfl
  ·rename_i hp
   rw [hb] at hp
   rw [List.append_nil, ih, hd, List.append_assoc]
   rw [show postedG n gs[k] = gs[k] from if_neg hp]
   rfl
theorem post_any {n : Int} {gs : List VGuest} : (rangeF (postB gs n) gs.length).length = 0 ↔ gs.any (fun g => posts g.Ctl n) = false := by
 rw [List.length_eq_zero_iff, rangeF, List.map_eq_nil_iff, List.filter_eq_nil_iff, List.any_eq_false]
 constructor
 ·intro h g hg
  obtain ⟨j, hj⟩ := List.getElem?_of_mem hg
  have := h j (List.mem_range.2 (List.getElem?_eq_some_iff.1 hj).1)
  unfold postB at this
  rw [hj] at this
  exact this
 ·intro h j hj
  have hj := List.mem_range.1 hj
  have hg : gs[j]? = some gs[j] := List.getElem?_eq_getElem hj
  unfold postB
  rw [hg]
  exact h _ (List.getElem_mem hj)
theorem post_no {b : VBare} {n : Int} (h : bareOk b = false ∨ ¬ (0 ≤ n ∧ n ≤ 7)) : barePost b n = none := by
 unfold barePost
 refine if_neg fun e => ?_
 simp only [Bool.and_eq_true, inR, decide_eq_true_eq] at e
 rcases h with h | h
 ·rw [h] at e; exact absurd e.1 (by decide)
 ·exact h e.2
theorem post_1 {b : VBare} {n : Int} {i : Nat} (h : bareOk b = true) (h1 : 0 ≤ n ∧ n ≤ 7) (hi : (postL b n).length ≤ i) (h0 : ¬ (postL b n).length = 0) : barePost b n = some { b with Guests := postTo n b.Guests ((postL b n).take i) } := by
 unfold barePost
 rw [if_pos (by simp only [Bool.and_eq_true, inR, decide_eq_true_eq]; exact ⟨h, h1⟩), List.take_of_length_le hi, if_pos]
 ·unfold postL; rw [post_map (Nat.le_refl _)]; simp
 ·rw [← Bool.not_eq_false]; exact fun e => h0 (post_any.2 e)
theorem post_2 {b : VBare} {n : Int} {i : Nat} (h : bareOk b = true) (h1 : 0 ≤ n ∧ n ≤ 7) (hi : (postL b n).length ≤ i) (h0 : (postL b n).length = 0) : barePost b n = some { b with Guests := postTo n b.Guests ((postL b n).take i), Pending := (postIrq b.Pending n).getD b.Pending } := by
 unfold barePost
 rw [if_pos (by simp only [Bool.and_eq_true, inR, decide_eq_true_eq]; exact ⟨h, h1⟩), List.take_of_length_le hi, if_neg]
 ·rw [List.length_eq_zero_iff.1 h0]; rfl
 ·rw [post_any.1 h0]; decide
theorem pt_yes {b : VBare} {n : Int} {i : Nat} {y : VGuest} (hy : b.Guests[i]? = some y) (h : posts y.Ctl n = true) : (rangeF (postB b.Guests n) (i + 1)).map dInt = (rangeF (postB b.Guests n) i).map dInt ++ [dInt i] := by
 have : postB b.Guests n i = true := by unfold postB; rw [hy]; exact h
 rw [rangeF_succ, this]; simp
theorem pt_no {b : VBare} {n : Int} {i : Nat} {y : VGuest} (hy : b.Guests[i]? = some y) (h : posts y.Ctl n = false) : (rangeF (postB b.Guests n) (i + 1)).map dInt = (rangeF (postB b.Guests n) i).map dInt := by
 have : postB b.Guests n i = false := by unfold postB; rw [hy]; exact h
 rw [rangeF_succ, this]; simp
theorem ack_no {b : VBare} (h : bareOk b = false ∨ (takeIrq b.Pending).isSome = false) : bareAck b = none := by
 unfold bareAck
 split
 ·rename_i hb
  rcases h with h | h
  ·rw [h] at hb; cases hb
  ·cases e : takeIrq b.Pending with
   | none => rfl
   | some q => rw [e] at h; cases h
 ·rfl
abbrev ackB (b : VBare) : VBare := ((bareAck b).map Prod.fst).getD b
abbrev ackN (b : VBare) : Int := ((bareAck b).map Prod.snd).getD (-1)
theorem ack_yes {b : VBare} (h : bareOk b = true) : bareAck b = (takeIrq b.Pending).map fun q => ({ b with Pending := q.1 }, q.2) := if_pos h
theorem ack_row {b : VBare} (h : bareOk b = true) : resG [RD.a (rBare (ackB b)), RD.c (.v (.int .i64 (ackN b))), RD.c (.v (.bool (bareAck b).isSome))]
  = resG [RD.a [.sl 1 (b.Memory.map dIntS), .sl 15 (b.Guests.map dGuest), .sl 1 (b.Outs.map dInt), .v (.int .i64 ((takeIrq b.Pending).elim b.Pending (·.1)))], RD.c (.v (.int .i64 ((takeIrq b.Pending).elim (-1) (·.2)))), RD.c (.v (.bool (takeIrq b.Pending).isSome))] := by
 unfold ackB ackN
 rw [ack_yes h]
 cases takeIrq b.Pending <;> rfl
def reachI (b : VBare) (g a n : Int) : Int × Int × Bool := if onG b g && inR a 0 15 then ((reach b g a n).getD (-1), addrCell a, (reach b g a n).isSome) else (0, 0, false)
theorem reach_on {b : VBare} {g a n : Int} {x : VGuest} (hb : bareOk b = true) (h0 : 0 ≤ g) (hx : b.Guests[g.toNat]? = some x) (ha : 0 ≤ a ∧ a ≤ 15) : reach b g a n = walkInner x.Live (addrPage a) n := by
 unfold reach
 rw [if_pos (by simp only [Bool.and_eq_true, inR, decide_eq_true_eq]; exact ⟨hb, ha⟩), at_in h0 hx]
 rfl
theorem reach_or {b : VBare} {g a n : Int} (hb : bareOk b = true) (h : (at? b.Guests g).isSome = true) (ha : 0 ≤ a ∧ a ≤ 15) : reach b g a n = walkInner (guestOr b g).Live (addrPage a) n := by
 have h1 := at_some.1 h
 have hx : b.Guests[g.toNat]? = some (b.Guests[g.toNat]'(by omega)) := List.getElem?_eq_getElem (by omega)
 rw [reach_on hb h1.1 hx ha, guestOr_in h1.1 hx]
theorem reach_no {b : VBare} {g a n : Int} (h : onG b g = false ∨ ¬ (0 ≤ a ∧ a ≤ 15)) : reach b g a n = none := by
 unfold reach
 split
 ·rename_i hc
  simp only [Bool.and_eq_true, inR, decide_eq_true_eq] at hc
  rcases h with h | h
  ·rw [at_out]
   ·rfl
   ·intro e
    rw [onG_on hc.1 e] at h; cases h
  ·exact absurd hc.2 h
 ·rfl
theorem reachI_no {b : VBare} {g a n : Int} (h : bareOk b = false ∨ (at? b.Guests g).isSome = false ∨ ¬ (0 ≤ a ∧ a ≤ 15)) : reachI b g a n = (0, 0, false) := by
 unfold reachI
 refine if_neg fun e => ?_
 simp only [Bool.and_eq_true, inR, onG, decide_eq_true_eq] at e
 rcases h with h | h | h
 ·rw [h] at e; exact absurd e.1.1 (by decide)
 ·rw [at_some.2 e.1.2] at h; cases h
 ·exact h e.2
theorem reachI_yes {b : VBare} {g a n : Int} (hb : bareOk b = true) (h : (at? b.Guests g).isSome = true) (ha : 0 ≤ a ∧ a ≤ 15) : reachI b g a n = ((walkInner (guestOr b g).Live (addrPage a) n).getD (-1), addrCell a, (walkInner (guestOr b g).Live (addrPage a) n).isSome) := by
 unfold reachI
 rw [if_pos (by simp only [Bool.and_eq_true, inR, onG, decide_eq_true_eq]; exact ⟨⟨hb, at_some.1 h⟩, ha⟩), reach_or hb h ha]
theorem reachI_is {b : VBare} {g a n : Int} : (reachI b g a n).2.2 = (reach b g a n).isSome := by
 unfold reachI
 split
 ·rfl
 ·rename_i hc
  rw [reach_no]
  ·rfl
  ·rw [Bool.and_eq_true] at hc
   by_cases h1 : onG b g = true
   ·exact .inr fun e => hc ⟨h1, decide_eq_true e⟩
   ·exact .inl (by simpa using h1)
theorem reachI_some {b : VBare} {g a n : Int} (h : (reachI b g a n).2.2 = true) : reach b g a n = some (reachI b g a n).1 ∧ (reachI b g a n).2.1 = addrCell a := by
 have h1 := h
 rw [reachI_is] at h1
 unfold reachI at h ⊢
 split
 ·cases e : reach b g a n with
  | none => rw [e] at h1; cases h1
  | some p => exact ⟨rfl, rfl⟩
 ·rename_i hc
  rw [if_neg hc] at h
  cases h
theorem dma_no {b : VBare} {g a v : Int} (h : (reach b g a 2).isSome = false ∨ ¬ (0 ≤ v ∧ v ≤ 99)) : bareDma b g a v = none := by
 unfold bareDma
 split
 ·rename_i hc
  rcases h with h | h
  ·cases e : reach b g a 2 with
   | none => rfl
   | some p => rw [e] at h; cases h
  ·exact absurd (of_decide_eq_true hc) h
 ·rfl
theorem dma_yes {b : VBare} {g a v p : Int} (h : reach b g a 2 = some p) (hv : 0 ≤ v ∧ v ≤ 99) : bareDma b g a v = some { b with Memory := withCell b.Memory p (addrCell a) v } := by
 unfold bareDma
 rw [if_pos (decide_eq_true hv), h]
 rfl
theorem read_no {b : VBare} {g a : Int} (h : (reach b g a 1).isSome = false) : bareRead b g a = none := by
 unfold bareRead
 cases e : reach b g a 1 with
 | none => rfl
 | some p => rw [e] at h; cases h
theorem read_yes {b : VBare} {g a p : Int} (h : reach b g a 1 = some p) : bareRead b g a = some (cellAt b.Memory p (addrCell a)) := by unfold bareRead; rw [h]; rfl
theorem some_getD {q : Option Int} {d : Int} (h : q.isSome = true) : q = some (q.getD d) := by cases q; cases h; rfl
theorem spec_PostedTo_f (b : VBare) (n : Int) [Q (SmBare b)] : Fun Tryz.prog 333 [A (rBare b), I n] (RL 1 ((postL b n).map dInt)) := by
 refine Fun.w 28 Tryz.func333 fun w g0 hM => ?_
 have hl0 := hM.1.2.1.map
 refine loopA [1, 2, 4, 5] [5] [5] (fun (i : Nat) => [.set 6 (I i)]) (fun (i : Nat) => [(5, ⟨false, [.own (.sl 1 ((rangeF (postB b.Guests n) i).map dInt))]⟩)]) (fun (i : Nat) => i ≤ b.Guests.length) (fun (i : Nat) => b.Guests.length - i) (0) (Nat.zero_le _) ?_
 refine ⟨hda, fun i hyp N1 hN1 => ?_⟩
 have hyp : i ≤ b.Guests.length := hyp
 have hr0 := @rangeF_len (postB b.Guests n) i
 have hgl := (inferInstance : LenX b.Guests 1048576).h
 refine len ?_
 refine cnd (fun hb => ?_) (fun hb => ?_)
 ·obtain ⟨y, hy⟩ : ∃ y, b.Guests[i]? = some y := ⟨_, List.getElem?_eq_getElem (by omega)⟩
  refine ixm hy ?_
  first | refine ixs ?_ | refine ixo (by assumption) ?_ | refine ixoq (fun z1 hz1 qz1 lz1 => ?_) | skip
  refine callP (spec_Posts_f _ _).k ?_
  refine cnd (fun hb2 => ?_) (fun hb2 => ?_)
  ·first | refine appPq ?_ | refine appP ?_
   refine rng ?_
   refine hN1 _ _ _ ?_
   refine nxa (i + 1) (by omega) (by repeat' first | exact rfl | refine And.intro ?_ ?_ | exact True.intro | (refine eqS ?_; rw [pt_yes (by assumption) (by assumption)]; done) | (refine eqS ?_; rw [pt_no (by assumption) (by assumption)]; done))
  ·refine rng ?_
   refine hN1 _ _ _ ?_
   refine nxa (i + 1) (by omega) (by repeat' first | exact rfl | refine And.intro ?_ ?_ | exact True.intro | (refine eqS ?_; rw [pt_yes (by assumption) (by assumption)]; done) | (refine eqS ?_; rw [pt_no (by assumption) (by assumption)]; done))
 ·refine hN1 _ _ _ ?_
  exact (by obtain rfl : i = b.Guests.length := (by omega); rfl)
theorem impl_PostedTo_f (b : VBare) (n : Int) [Q (SmBare b)] : Fun Tryz.prog 437 [A (rBare b), I n] (RL 1 ((postL b n).map dInt)) := by
 refine Fun.w 27 Tryz.func437 fun w g0 hM => ?_
 have hl0 := hM.1.2.1.map
 refine len ?_
 refine loopA [1, 4, 5, 10, 11] [5] [5] (fun (i : Nat) => [.set 12 (I i)]) (fun (i : Nat) => [(5, ⟨false, [.own (.sl 1 ((rangeF (postB b.Guests n) i).map dInt))]⟩)]) (fun (i : Nat) => i ≤ b.Guests.length) (fun (i : Nat) => b.Guests.length - i) (0) (Nat.zero_le _) ?_
 refine ⟨hda, fun i hyp N1 hN1 => ?_⟩
 have hyp : i ≤ b.Guests.length := hyp
 have hr0 := @rangeF_len (postB b.Guests n) i
 have hgl := (inferInstance : LenX b.Guests 1048576).h
 refine cnd (fun hb => ?_) (fun hb => ?_)
 ·obtain ⟨y, hy⟩ : ∃ y, b.Guests[i]? = some y := ⟨_, List.getElem?_eq_getElem (by omega)⟩
  refine ixm hy ?_
  first | refine ixs ?_ | refine ixo (by assumption) ?_ | refine ixoq (fun z1 hz1 qz1 lz1 => ?_) | skip
  refine callP (impl_Posts_f _ _).k ?_
  refine cnd (fun hb2 => ?_) (fun hb2 => ?_)
  ·first | refine appPq ?_ | refine appP ?_
   refine rng ?_
   refine hN1 _ _ _ ?_
   refine nxa (i + 1) (by omega) (by repeat' first | exact rfl | refine And.intro ?_ ?_ | exact True.intro | (refine eqS ?_; rw [pt_yes (by assumption) (by assumption)]; done) | (refine eqS ?_; rw [pt_no (by assumption) (by assumption)]; done))
  ·refine rng ?_
   refine hN1 _ _ _ ?_
   refine nxa (i + 1) (by omega) (by repeat' first | exact rfl | refine And.intro ?_ ?_ | exact True.intro | (refine eqS ?_; rw [pt_yes (by assumption) (by assumption)]; done) | (refine eqS ?_; rw [pt_no (by assumption) (by assumption)]; done))
 ·refine hN1 _ _ _ ?_
  exact (by obtain rfl : i = b.Guests.length := (by omega); rfl)
theorem spec_BarePost_f (b : VBare) (n : Int) [Q (SmBare b)] : Fun Tryz.prog 243 [A (rBare b), I n] (RG [.a (rBare ((barePost b n).getD b)), .c (.v (.bool (barePost b n).isSome))]) := by
 refine Fun.w 62 Tryz.func243 fun w g0 hM => ?_
 have hl0 := hM.1.2.1.map
 refine callG (spec_l17Copy_f b).k ?_
 refine callP (spec_BareOk_f _).k ?_
 refine cnd (fun hg3 => ?_) (fun hg3 => ?_)
 ·exact (by rw [post_no (by first | (left; assumption) | (right; omega))]; rfl)
 ·refine callP (spec_l01In_f _ _ _).k ?_
  refine cnd (fun hb => ?_) (fun hb => ?_)
  ·exact (by rw [post_no (by first | (left; assumption) | (right; omega))]; rfl)
  ·refine callL (spec_PostedTo_f b n).k ?_
   refine loopA [1, 2, 4, 5, 6] [] [2] (fun (i : Nat) => [.set 7 (I i)]) (fun (i : Nat) => [(2, ⟨true, [.own (.sl 1 (b.Memory.map dIntS)), .own (.sl 15 ((postTo n b.Guests ((postL b n).take i)).map dGuest)), .own (.sl 1 (b.Outs.map dInt)), .own (.v (.int .i64 b.Pending))]⟩)]) (fun (i : Nat) => i ≤ (postL b n).length) (fun (i : Nat) => (postL b n).length - i) (0) (Nat.zero_le _) ?_
   refine ⟨hda, fun i hyp N1 hN1 => ?_⟩
   have hyp : i ≤ (postL b n).length := hyp
   have hll : (postL b n).length ≤ b.Guests.length := rangeF_len
   have hgl := (inferInstance : LenX b.Guests 1048576).h
   refine len ?_
   refine cnd (fun hb2 => ?_) (fun hb2 => ?_)
   ·obtain ⟨p, hp⟩ : ∃ p, (postL b n)[i]? = some p := ⟨_, List.getElem?_eq_getElem (by omega)⟩
    have hpr := rangeF_in hp
    have hptl : (postTo n b.Guests ((postL b n).take i)).length = b.Guests.length := postTo_len
    obtain ⟨y, hy⟩ : ∃ y, (postTo n b.Guests ((postL b n).take i))[p.toNat]? = some y := ⟨_, List.getElem?_eq_getElem (by omega)⟩
    refine regT [22] [22] [] (.quiet 2 1 (.quiet 3 1 (.quiet 8 1 (.quiet 9 1 (.quiet 15 1 (.quiet 0 0 (.quiet 1 0 (.quiet 4 0 (.quiet 5 0 (.quiet 6 0 (.quiet 7 0 (.quiet 10 0 (.quiet 11 0 (.quiet 12 0 (.quiet 13 0 (.quiet 14 0 (.fork (.alt 16 (.quiet 17 1 (.quiet 18 1 (.quiet 19 1 (.quiet 20 0 (.quiet 21 0 (.fork (.alt 22 .done .stop))))))) .stop)))))))))))))))))) ?_
    repeat' first | exact True.intro | refine And.intro ?_ ?_ | (intro _ _) | refine ixm (by assumption) ?_ | refine bnd ?_ | refine bndi ?_ | refine ixkq (fun y33 hy33 qy33 ly33 => ?_) | refine ixiq (fun y33 hy33 qy33 ly33 => ?_) | refine ixs ?_ | refine ixo (by assumption) ?_ | refine ixoq (fun z1 hz1 qz1 lz1 => ?_) | refine ixkq (fun y39 hy39 qy39 ly39 => ?_) | refine ixiq (fun y39 hy39 qy39 ly39 => ?_) | refine ixoq (fun z2 hz2 qz2 lz2 => ?_) | refine ixkq (fun y41 hy41 qy41 ly41 => ?_) | refine ixiq (fun y41 hy41 qy41 ly41 => ?_) | refine ixoq (fun z3 hz3 qz3 lz3 => ?_) | refine callG (spec_PostIrq_f y.Pending n).k ?_ | refine ixkq (fun y48 hy48 qy48 ly48 => ?_) | refine ixiq (fun y48 hy48 qy48 ly48 => ?_) | refine ixoq (fun z4 hz4 qz4 lz4 => ?_)
    refine rng ?_
    refine hN1 _ _ _ ?_
    refine nxa (i + 1) (by omega) (by repeat' first | exact rfl | refine And.intro ?_ ?_ | exact True.intro | (refine eqS ?_; rw [postTo_step hp hy, List.map_set]; done) | (refine eqS ?_; rw [postTo_step hp hy, List.map_set]; rfl))
   ·refine hN1 _ _ _ ?_
    refine len ?_
    refine cnd (fun hb3 => ?_) (fun hb3 => ?_)
    ·refine callG (spec_PostIrq_f b.Pending n).k ?_
     exact (by first | (rw [post_1 (i := i) (by assumption) (by omega) (by omega) (by omega)]; rfl) | (rw [post_2 (i := i) (by assumption) (by omega) (by omega) (by omega)]; rfl))
    ·exact (by first | (rw [post_1 (i := i) (by assumption) (by omega) (by omega) (by omega)]; rfl) | (rw [post_2 (i := i) (by assumption) (by omega) (by omega) (by omega)]; rfl))
theorem impl_BarePost_f (b : VBare) (n : Int) [Q (SmBare b)] : Fun Tryz.prog 345 [A (rBare b), I n] (RG [.a (rBare ((barePost b n).getD b)), .c (.v (.bool (barePost b n).isSome))]) := by
 refine Fun.w 59 Tryz.func345 fun w g0 hM => ?_
 have hl0 := hM.1.2.1.map
 refine callG (impl_copyBare_f b).k ?_
 refine callP (impl_BareOk_f _).k ?_
 refine cnd (fun hg3 => ?_) (fun hg3 => ?_)
 ·exact (by rw [post_no (by first | (left; assumption) | (right; omega))]; rfl)
 ·refine callP (impl_within_f _ _ _).k ?_
  refine cnd (fun hb => ?_) (fun hb => ?_)
  ·exact (by rw [post_no (by first | (left; assumption) | (right; omega))]; rfl)
  ·refine callL (impl_PostedTo_f b n).k ?_
   refine len ?_
   refine loopA [1, 4, 5, 6, 7, 24, 25] [] [6] (fun (i : Nat) => [.set 26 (I i)]) (fun (i : Nat) => [(6, ⟨true, [.own (.sl 1 (b.Memory.map dIntS)), .own (.sl 15 ((postTo n b.Guests ((postL b n).take i)).map dGuest)), .own (.sl 1 (b.Outs.map dInt)), .own (.v (.int .i64 b.Pending))]⟩)]) (fun (i : Nat) => i ≤ (postL b n).length) (fun (i : Nat) => (postL b n).length - i) (0) (Nat.zero_le _) ?_
   refine ⟨hda, fun i hyp N1 hN1 => ?_⟩
   have hyp : i ≤ (postL b n).length := hyp
   have hll : (postL b n).length ≤ b.Guests.length := rangeF_len
   have hgl := (inferInstance : LenX b.Guests 1048576).h
   refine cnd (fun hb2 => ?_) (fun hb2 => ?_)
   ·obtain ⟨p, hp⟩ : ∃ p, (postL b n)[i]? = some p := ⟨_, List.getElem?_eq_getElem (by omega)⟩
    have hpr := rangeF_in hp
    have hptl : (postTo n b.Guests ((postL b n).take i)).length = b.Guests.length := postTo_len
    obtain ⟨y, hy⟩ : ∃ y, (postTo n b.Guests ((postL b n).take i))[p.toNat]? = some y := ⟨_, List.getElem?_eq_getElem (by omega)⟩
    first | refine ixm (by assumption) ?_ | refine bnd ?_ | refine bndi ?_ | refine ixkq (fun y28 hy28 qy28 ly28 => ?_) | refine ixiq (fun y28 hy28 qy28 ly28 => ?_)
    first | refine ixs ?_ | refine ixo (by assumption) ?_ | refine ixoq (fun z1 hz1 qz1 lz1 => ?_) | skip
    refine regT [16] [16] [] (.quiet 2 1 (.quiet 5 1 (.quiet 9 1 (.quiet 0 0 (.quiet 1 0 (.quiet 3 0 (.quiet 4 0 (.quiet 6 0 (.quiet 7 0 (.quiet 8 0 (.fork (.alt 10 (.quiet 11 1 (.quiet 12 1 (.quiet 13 1 (.quiet 14 0 (.quiet 15 0 (.fork (.alt 16 .done .stop))))))) .stop)))))))))))) ?_
    repeat' first | exact True.intro | refine And.intro ?_ ?_ | (intro _ _) | refine ixm (by assumption) ?_ | refine bnd ?_ | refine bndi ?_ | refine ixkq (fun y37 hy37 qy37 ly37 => ?_) | refine ixiq (fun y37 hy37 qy37 ly37 => ?_) | refine ixs ?_ | refine ixo (by assumption) ?_ | refine ixoq (fun z2 hz2 qz2 lz2 => ?_) | refine callG (impl_PostIrq_f y.Pending n).k ?_ | refine ixkq (fun y44 hy44 qy44 ly44 => ?_) | refine ixiq (fun y44 hy44 qy44 ly44 => ?_) | refine ixoq (fun z3 hz3 qz3 lz3 => ?_)
    refine rng ?_
    refine hN1 _ _ _ ?_
    refine nxa (i + 1) (by omega) (by repeat' first | exact rfl | refine And.intro ?_ ?_ | exact True.intro | (refine eqS ?_; rw [postTo_step hp hy, List.map_set]; done) | (refine eqS ?_; rw [postTo_step hp hy, List.map_set]; rfl))
   ·refine hN1 _ _ _ ?_
    refine len ?_
    refine cnd (fun hb3 => ?_) (fun hb3 => ?_)
    ·refine callG (impl_PostIrq_f b.Pending n).k ?_
     exact (by first | (rw [post_1 (i := i) (by assumption) (by omega) (by omega) (by omega)]; rfl) | (rw [post_2 (i := i) (by assumption) (by omega) (by omega) (by omega)]; rfl))
    ·exact (by first | (rw [post_1 (i := i) (by assumption) (by omega) (by omega) (by omega)]; rfl) | (rw [post_2 (i := i) (by assumption) (by omega) (by omega) (by omega)]; rfl))
theorem spec_BareAck_f (b : VBare) [Q (SmBare b)] : Fun Tryz.prog 244 [A (rBare b)] (RG [.a (rBare (ackB b)), .c (.v (.int .i64 (ackN b))), .c (.v (.bool (bareAck b).isSome))]) := by
 refine Fun.w 26 Tryz.func244 fun w g0 _ => ?_
 refine callG (spec_l17Copy_f b).k ?_
 refine callP (spec_BareOk_f _).k ?_
 refine cnd (fun hb => ?_) (fun hb => ?_)
 ·exact (by show _ = resG [RD.a (rBare (ackB b)), RD.c (.v (.int .i64 (ackN b))), _]; unfold ackB ackN; rw [ack_no (by first | (left; assumption) | (right; assumption))]; rfl)
 ·refine callG (spec_TakeIrq_f b.Pending).k ?_
  exact (by show _ = resG [RD.a (rBare (ackB b)), RD.c (.v (.int .i64 (ackN b))), RD.c (.v (.bool (bareAck b).isSome))]; rw [ack_row (by assumption)]; rfl)
theorem impl_BareAck_f (b : VBare) [Q (SmBare b)] : Fun Tryz.prog 346 [A (rBare b)] (RG [.a (rBare (ackB b)), .c (.v (.int .i64 (ackN b))), .c (.v (.bool (bareAck b).isSome))]) := by
 refine Fun.w 30 Tryz.func346 fun w g0 _ => ?_
 refine callG (impl_copyBare_f b).k ?_
 refine callG (impl_TakeIrq_f b.Pending).k ?_
 refine callP (impl_BareOk_f _).k ?_
 refine cnd (fun hg3 => ?_) (fun hg3 => ?_)
 ·exact (by show _ = resG [RD.a (rBare (ackB b)), RD.c (.v (.int .i64 (ackN b))), _]; unfold ackB ackN; rw [ack_no (by first | (left; assumption) | (right; assumption))]; rfl)
 ·refine cnd (fun hb => ?_) (fun hb => ?_)
  ·exact (by show _ = resG [RD.a (rBare (ackB b)), RD.c (.v (.int .i64 (ackN b))), _]; unfold ackB ackN; rw [ack_no (by first | (left; assumption) | (right; assumption))]; rfl)
  ·exact (by show _ = resG [RD.a (rBare (ackB b)), RD.c (.v (.int .i64 (ackN b))), RD.c (.v (.bool (bareAck b).isSome))]; rw [ack_row (by assumption), show (takeIrq b.Pending).isSome = true from by assumption]; rfl)
theorem impl_reach_f (b : VBare) (g : Int) (a : Int) (n : Int) [Q (SmBare b)] : Fun Tryz.prog 439 [A (rBare b), I g, I a, I n] (RG [.c (.v (.int .i64 (reachI b g a n).1)), .c (.v (.int .i64 (reachI b g a n).2.1)), .c (.v (.bool (reachI b g a n).2.2))]) := by
 refine Fun.w 46 Tryz.func439 fun w g0 _ => ?_
 refine callG (impl_GuestAt_f b g).k ?_
 refine callP (impl_BareOk_f _).k ?_
 refine cnd (fun hg3 => ?_) (fun hg3 => ?_)
 ·exact (by rw [reachI_no (by first | (left; assumption) | (right; left; assumption) | (right; right; omega))]; rfl)
 ·refine cnd (fun hg7 => ?_) (fun hg7 => ?_)
  ·exact (by rw [reachI_no (by first | (left; assumption) | (right; left; assumption) | (right; right; omega))]; rfl)
  ·refine callP (impl_within_f _ _ _).k ?_
   refine cnd (fun hb => ?_) (fun hb => ?_)
   ·exact (by rw [reachI_no (by first | (left; assumption) | (right; left; assumption) | (right; right; omega))]; rfl)
   ·have qa : Q (a ≤ 9223372036854775807) := ⟨by omega⟩
    refine regU [] [(0, 0), (1, 0), (2, 0), (4, 0), (3, 1), (5, 1), (6, 0), (7, 0), (8, 0), (9, 0), (10, 0)] ?_
    refine callP (impl_AddrPage_f _).k ?_
    refine callG (impl_WalkInner_f _ _ _).k ?_
    refine callP (impl_AddrCell_f _).k ?_
    exact (by rw [reachI_yes (by assumption) (by assumption) (by omega)]; rfl)
theorem spec_l20At_f (b : VBare) (g : Int) (a : Int) (n : Int) [Q (SmBare b)] : Fun Tryz.prog 335 [A (rBare b), I g, I a, I n] (RG [.c (.v (.int .i64 ((reach b g a n).getD (-1)))), .c (.v (.bool (reach b g a n).isSome))]) := by
 refine Fun.w 31 Tryz.func335 fun w g0 _ => ?_
 refine callP (spec_l19Is_f _ _).k ?_
 refine cnd (fun hg4 => ?_) (fun hg4 => ?_)
 ·exact (by rw [reach_no (by first | (left; assumption) | (right; omega))]; rfl)
 ·refine callP (spec_l01In_f _ _ _).k ?_
  refine cnd (fun hb => ?_) (fun hb => ?_)
  ·exact (by rw [reach_no (by first | (left; assumption) | (right; omega))]; rfl)
  ·have hon : onG b g = true := by assumption
   have hgg := onG_yes hon
   obtain ⟨x, hx⟩ : ∃ x, b.Guests[g.toNat]? = some x := ⟨_, List.getElem?_eq_getElem (by omega)⟩
   have qa : Q (a ≤ 9223372036854775807) := ⟨by omega⟩
   refine regU [] [(0, 0), (1, 0), (2, 0), (3, 0), (4, 0), (5, 0), (6, 0), (8, 0), (7, 1), (9, 1), (10, 0), (11, 0), (12, 0), (13, 0)] ?_
   refine ixm hx ?_
   first | refine ixs ?_ | refine ixo (by assumption) ?_ | refine ixoq (fun z1 hz1 qz1 lz1 => ?_) | skip
   refine callP (spec_AddrPage_f _).k ?_
   refine callG (spec_WalkInner_f _ _ _).k ?_
   exact (by rw [reach_on hgg.1 hgg.2.1 hx (by omega)]; rfl)
theorem impl_BareDma_f (b : VBare) (g : Int) (a : Int) (v : Int) [Q (SmBare b)] : Fun Tryz.prog 347 [A (rBare b), I g, I a, I v] (RG [.a (rBare ((bareDma b g a v).getD b)), .c (.v (.bool (bareDma b g a v).isSome))]) := by
 refine Fun.w 40 Tryz.func347 fun w g0 _ => ?_
 refine callG (impl_copyBare_f b).k ?_
 refine callG (impl_reach_f b g a 2).k ?_
 refine cnd (fun hg2 => ?_) (fun hg2 => ?_)
 ·exact (by rw [dma_no (by first | (left; rw [← reachI_is]; assumption) | (right; omega))]; rfl)
 ·refine callP (impl_within_f _ _ _).k ?_
  refine cnd (fun hb => ?_) (fun hb => ?_)
  ·exact (by rw [dma_no (by first | (left; rw [← reachI_is]; assumption) | (right; omega))]; rfl)
  ·have hrs := reachI_some (by assumption : (reachI b g a 2).2.2 = true)
   refine callL (impl_WithCell_f b.Memory (reachI b g a 2).1 (reachI b g a 2).2.1 v).k ?_
   exact (by rw [dma_yes hrs.1 (by omega), hrs.2]; rfl)
theorem spec_BareDma_f (b : VBare) (g : Int) (a : Int) (v : Int) [Q (SmBare b)] : Fun Tryz.prog 245 [A (rBare b), I g, I a, I v] (RG [.a (rBare ((bareDma b g a v).getD b)), .c (.v (.bool (bareDma b g a v).isSome))]) := by
 refine Fun.w 38 Tryz.func245 fun w g0 _ => ?_
 refine callG (spec_l17Copy_f b).k ?_
 refine callG (spec_l20At_f b g a 2).k ?_
 refine cnd (fun hg2 => ?_) (fun hg2 => ?_)
 ·exact (by rw [dma_no (by first | (left; assumption) | (right; omega))]; rfl)
 ·refine callP (spec_l01In_f _ _ _).k ?_
  refine cnd (fun hb => ?_) (fun hb => ?_)
  ·exact (by rw [dma_no (by first | (left; assumption) | (right; omega))]; rfl)
  ·refine regU [8] [(0, 0), (1, 0), (2, 0), (3, 0), (5, 0), (4, 1), (6, 1), (7, 0), (8, 1)] ?_
   refine callP (spec_AddrCell_f _).k ?_
   refine callL (spec_WithCell_f b.Memory ((reach b g a 2).getD (-1)) (addrCell a) v).k ?_
   exact (by rw [dma_yes (some_getD (d := -1) (by assumption)) (by omega)]; rfl)
theorem impl_BareRead_f (b : VBare) (g : Int) (a : Int) [Q (SmBare b)] : Fun Tryz.prog 348 [A (rBare b), I g, I a] (RG [.c (.v (.int .i64 ((bareRead b g a).getD 0))), .c (.v (.bool (bareRead b g a).isSome))]) := by
 refine Fun.w 26 Tryz.func348 fun w g0 _ => ?_
 refine callG (impl_reach_f b g a 1).k ?_
 refine cnd (fun hb => ?_) (fun hb => ?_)
 ·exact (by rw [read_no (by rw [← reachI_is]; assumption)]; rfl)
 ·have hrs := reachI_some (by assumption : (reachI b g a 1).2.2 = true)
  refine callP (impl_CellAt_f _ _ _).k ?_
  exact (by rw [read_yes hrs.1]; show _ = resG [RD.c (.v (.int .i64 (cellAt _ _ (addrCell a)))), _]; rw [← hrs.2]; rfl)
theorem spec_BareRead_f (b : VBare) (g : Int) (a : Int) [Q (SmBare b)] : Fun Tryz.prog 246 [A (rBare b), I g, I a] (RG [.c (.v (.int .i64 ((bareRead b g a).getD 0))), .c (.v (.bool (bareRead b g a).isSome))]) := by
 refine Fun.w 25 Tryz.func246 fun w g0 _ => ?_
 refine callG (spec_l20At_f b g a 1).k ?_
 refine cnd (fun hb => ?_) (fun hb => ?_)
 ·exact (by rw [read_no (by assumption)]; rfl)
 ·refine regQ ?_
  refine callQ (spec_AddrCell_f _).k ?_
  refine callQ (spec_CellAt_f _ _ _).k ?_
  exact (by rw [read_yes (some_getD (d := -1) (by assumption))]; rfl)
end Go.Proofs.YteelmdpahpggkaaGreat.T

