
import Derived.Test.YtcmoifejjodgcaaRpp
import Derived.Test.YtcmoifejjodgcaaNvp
namespace Go.Proofs.Ytcmoifejjodgcaa.T
open Go
set_option linter.unusedVariables false
set_option linter.unusedSimpArgs false
def St.tail (st : St) (k t sz : Nat) (ds : List D) : St :=
 ((st.kill (onK k) (onK k)).setRoot k ⟨false, [.own (.sl sz ds)]⟩).put (some t) (.one (.c (.ref ⟨k, [], 0⟩)))
section
variable {P : Program} {w0 : World} {g0 : Gh} {st : St} {a : Act} {w : World} {g : Gh}
theorem Rel.tail (hR : Rel w0 g0 st a w g) {k t sz i : Nat} {ds : List D} (ht : st.tmps[t]? = some (.one (.cut ⟨k, [], 0⟩ sz i ds.length))) (hroot : st.root k = some ⟨false, [.own (.sl sz ds)]⟩) (hkp : k < 1000000) (hds : ∀ d ∈ ds, isPlain d) :
  ∃ g', Rel w0 g0 (st.tail k t sz (ds.drop i)) a w g' := by
 have hu := hR.tm t _ ht
 have hO : Ow w g k [] 0 (.sl sz ds) := hR.rt.cell k _ hroot 0 (.own (.sl sz ds)) rfl
 generalize hut : a.tmps.getD t undef = u at hu
 cases hu with
 | one _ _ hu =>
  cases hu with
  | cut _ _ _ _ b off n c hc h1 h2 h3 =>
   have hc : g.cv k [] 0 = .slice (some ⟨b, off, none⟩) n c := hc
   cases hO with
   | nil _ _ _ hc' => rw [hc'] at hc; cases hc
   | sl _ _ _ _ b' off' n' c' cs e hc' hn hm hnc hcm ho hb hfit hrow had hcell hel =>
    rw [hc'] at hc
    simp only [Value.slice.injEq, Option.some.injEq, Addr.mk.injEq] at hc
    obtain ⟨⟨rfl, rfl, _⟩, rfl, rfl⟩ := hc
    let g' : Gh := { g with
     cv := fun k' p' q' => if k' = k then (match p' with | [] => .slice (some ⟨b', off' + i * sz, none⟩) (ds.length - i) (c' - i) | (_, j) :: r => g.cv k ((0, j + i) :: r) q') else g.cv k' p' q'
     ad := fun k' p' => if k' = k then (match p' with | [] => g.ad k [] | (_, j) :: r => g.ad k ((0, j + i) :: r)) else g.ad k' p' }
    have hcv : ∀ k' p' q', k' ≠ k → g'.cv k' p' q' = g.cv k' p' q' := fun k' p' q' h => if_neg h
    have hgad : ∀ k' p', k' ≠ k → g'.ad k' p' = g.ad k' p' := fun k' p' h => if_neg h
    have hel' : ∀ j q', g'.cv k [(0, j)] q' = g.cv k [(0, j + i)] q' := fun j q' => by simp [g']
    have had' : ∀ j, g'.ad k [(0, j)] = g.ad k [(0, j + i)] := fun j => by simp [g']
    have hnil : g'.cv k [] 0 = .slice (some ⟨b', off' + i * sz, none⟩) (ds.length - i) (c' - i) := by simp [g']
    have hA : Agree w g w g' (onK k) (onK k) := ⟨fun b hb => ⟨hb, rfl⟩, fun pl hp => hcv _ _ _ (by simpa [onK] using hp), fun pl hp => hgad _ _ (by simpa [onK] using hp)⟩
    have hOw : Ow w g' k [] 0 (.sl sz (ds.drop i)) := by
     refine .sl [] 0 sz _ b' (off' + i * sz) (ds.length - i) (c' - i) cs e hnil (by simp) (by omega) (by omega) (by omega) ho hb ?_ (fun d hd => hrow d (List.mem_of_mem_drop hd)) (fun j hj => ?_) (fun j q hj hq => ?_) (fun j d hd q c2 hq => ?_)
     ·have : off' + i * sz + (c' - i) * sz = off' + c' * sz := by rw [Nat.add_assoc, ← Nat.add_mul]; congr 2; omega
      omega
     ·show g'.ad k [(0, j)] = _
      rw [had']
      have := had (j + i) (by omega)
      simp only [List.nil_append] at this
      rw [this, Nat.add_mul]
      congr 1
      omega
     ·show _ = some (g'.cv k [(0, j)] q)
      rw [hel']
      have := hcell (j + i) q (by omega) hq
      simp only [List.nil_append] at this
      rw [← this]
      congr 2
      rw [Nat.add_mul]
      omega
     ·have hd' : ds[j + i]? = some d := by rw [List.getElem?_drop] at hd; rwa [Nat.add_comm]
      obtain ⟨x, rfl⟩ := hds d (List.mem_of_getElem? hd') c2 (List.mem_of_getElem? hq)
      have := hel (j + i) d hd' q _ hq
      cases this with
      | v _ _ _ hx hcx =>
       refine .v _ _ x hx ?_
       show g'.cv k [(0, j)] q = x
       rw [hel']
       exact hcx
    have hroots : ∀ k' r', ((st.kill (onK k) (onK k)).setRoot k ⟨false, [.own (.sl sz (ds.drop i))]⟩).root k' = some r' → (k' = k ∧ r' = ⟨false, [.own (.sl sz (ds.drop i))]⟩) ∨ (k' ≠ k ∧ ∃ r1, st.root k' = some r1 ∧ r' = r1.kill (onK k)) := fun k' r' h => by
     rw [St.root_setRoot] at h
     split at h
     ·rename_i e1
      simp only [Option.some.injEq] at h
      exact .inl ⟨e1, h.symm⟩
     ·rename_i e1
      rw [St.root_kill, Option.map_eq_some_iff] at h
      obtain ⟨r1, h1, h2⟩ := h
      exact .inr ⟨e1, r1, h1, h2.symm⟩
    have hR' : Rel w0 g0 ((st.kill (onK k) (onK k)).setRoot k ⟨false, [.own (.sl sz (ds.drop i))]⟩) a w g' := by
     refine hR.change hA rfl ⟨fun k' r' hk' q c hc' => ?_, fun k' r' hk' hm => ?_⟩ ?_
     ·rcases hroots k' r' hk' with ⟨rfl, rfl⟩ | ⟨h1, r1, h3, rfl⟩
      ·match q, hc' with
       | 0, hc' =>
        cases hc'
        exact hOw
       | q + 1, hc' => simp at hc'
      ·simp only [Rt.kill, List.getElem?_map, Option.map_eq_some_iff] at hc'
       obtain ⟨c1, h4, rfl⟩ := hc'
       have h5 := hR.rt.cell k' r1 h3 q c1 h4
       cases c1 with
       | ro d => show Ro w g'.o d _; rw [hcv _ _ _ h1]; exact Ro.mono hA.ro h5
       | own d => exact Ow.move (g' := g') h5 ⟨hcv _ _ _ h1, fun i r q' => hcv _ _ _ h1, fun i r => hgad _ _ h1, fun b hb => ⟨hb, rfl⟩, fun b i r q' hb => ⟨hb, rfl⟩⟩
       | ref pl =>
        have h6 : g.cv k' [] q = g.cv pl.k pl.p pl.q ∧ (g.cv k' [] q).oneCell' = true := h5
        simp only [C.kill]
        by_cases e : pl.k = k
        ·rw [if_pos (by simpa [onK] using e)]; trivial
        ·rw [if_neg (by simpa [onK] using e)]
         show g'.cv k' [] q = g'.cv pl.k pl.p pl.q ∧ (g'.cv k' [] q).oneCell' = true
         rw [hcv _ _ _ h1, hcv _ _ _ e]
         exact h6
       | dead => trivial
     ·rcases hroots k' r' hk' with ⟨rfl, rfl⟩ | ⟨h1, r1, h3, rfl⟩
      ·cases hm
      ·obtain ⟨m1, m2, m3⟩ := hR.rt.mem k' r1 h3 (by simpa [Rt.kill] using hm)
       have e1 : g'.ad k' [] = g.ad k' [] := hgad _ _ h1
       refine ⟨by rw [e1]; exact m1, by rw [e1]; exact m2, fun q hq => ?_⟩
       rw [e1, hcv _ _ _ h1]
       exact m3 q (by simpa [Rt.kill] using hq)
     ·have hk := hR.ks
      refine ⟨hk.os, hk.tape, hk.output, hk.size, hk.block, hk.fresh, hk.old, ⟨fun q => ?_, ?_⟩, hk.nobox⟩
      ·rw [hcv pinK _ _ (by simp only [pinK]; omega)]; exact hk.pin.1 q
      ·rw [hgad pinB _ (by simp only [pinB]; omega)]; exact hk.pin.2
    refine ⟨g', ⟨fun j tv hj => ?_, ?_, hR'.df, hR'.rt, hR'.ks⟩⟩
    ·simp only [St.tail, St.put] at hj
     by_cases e1 : t = j
     ·subst e1
      have hlt : t < (st.kill (onK k) (onK k)).tmps.length := by
       have := (List.getElem?_eq_some_iff.1 ht).1
       simpa [St.kill] using this
      have h5 : ((st.kill (onK k) (onK k)).tmps.set t (TS.one (TV.c (C.ref ⟨k, [], 0⟩))))[t]? = some (TS.one (TV.c (C.ref ⟨k, [], 0⟩))) := List.getElem?_set_self hlt
      have h6 : some (TS.one (TV.c (C.ref ⟨k, [], 0⟩))) = some tv := h5.symm.trans hj
      simp only [Option.some.injEq] at h6
      subst h6
      rw [hut]
      exact .one _ _ (.c _ _ ⟨hnil.symm, rfl⟩)
     ·have h5 : ((st.kill (onK k) (onK k)).tmps.set t (TS.one (TV.c (C.ref ⟨k, [], 0⟩))))[j]? = (st.kill (onK k) (onK k)).tmps[j]? := List.getElem?_set_ne e1
      exact hR'.tm j tv (h5.symm.trans hj)
    ·have := hR'.sz
     simp only [St.tail, St.put, List.length_set]
     exact this
end
def tailR (rs : Rs) (k sz : Nat) (ds : List D) : Rs := (((⟨[], rs⟩ : St).kill (onK k) (onK k)).setRoot k ⟨false, [.own (.sl sz ds)]⟩).roots
inductive TailW (ds : List D) (i hi : Nat) (k : List D → Prop) : Prop
 | mk (l : List D) (hds : ∀ d ∈ ds, isPlain d) (hh : hi = ds.length) (hl : ds.drop i = l) (c : k l)
def tailW (n t : Nat) (e : List En) (rs : Rs) (K : Kn) : Prop := getW n e t fun s => match s with
 | .one (.cut pl sz lo hi) => (match pl with
  | ⟨k, p, q⟩ => BR (p.isEmpty && Nat.beq q 0 && Nat.blt k 1000000) (soleW rs k fun sz' ds => BR (Nat.beq sz sz') (TailW ds lo hi fun l => normW k rs (tailR rs k sz l) fun rs => K (.set t (.one (.c (.ref ⟨k, [], 0⟩))) :: .app (TS.kill (onK k) (onK k)) :: e) rs) False) False)
 | _ => False
theorem tailW_of {n t : Nat} {e : List En} {rs : Rs} {K : Kn} (h : tailW n t e rs K) : ∃ e' rs', Can (stOf n e rs) (stOf n e' rs') ∧ K e' rs' := by
 obtain ⟨s, h1, h2⟩ := getW_of (rs := rs) h
 split at h2
 ·rename_i pl sz lo hi
  obtain ⟨k, p, q⟩ := pl
  simp only at h2
  obtain ⟨h3, h4⟩ := BR_yes h2
  simp only [Bool.and_eq_true, List.isEmpty_iff] at h3
  obtain ⟨⟨rfl, h5⟩, h6⟩ := h3
  have h5 := Nat.eq_of_beq_eq_true h5
  subst h5
  obtain ⟨sz', ds, h7, h8⟩ := soleW_of (n := n) (e := e) h4
  obtain ⟨h9, h10⟩ := BR_yes h8
  have h9 := Nat.eq_of_beq_eq_true h9
  subst h9
  obtain ⟨l, hds, hh, hl, hc⟩ := h10
  subst hh; subst hl
  refine ⟨_, _, fun hR => ?_, normW_of hc⟩
  obtain ⟨g', h11⟩ := hR.tail h1 h7 (Nat.le_of_ble_eq_true h6) hds
  refine ⟨g', ?_⟩
  have e1 : (stOf n e rs).tail k t sz (ds.drop lo) = stOf n (.set t (.one (.c (.ref ⟨k, [], 0⟩))) :: .app (TS.kill (onK k) (onK k)) :: e) (tailR rs k sz (ds.drop lo)) := by
   rw [← stOf_put, ← stOf_app (rs := rs)]
   rfl
  rwa [← e1]
 ·exact h2.elim
def endT (P : Program) (n t : Nat) (rv : List ResultVar) (R : Res → Prop) : Kx := fun ex e rs => match ex with
 | .normal => tailW n t e rs (endR P n rv R)
 | .ret => tailW n t e rs (endR P n rv R)
 | _ => False
theorem TC.canEnd {P : Program} {w0 : World} {g0 : Gh} {c : Code} {st : St} {Q Q' : Exit → St → Prop} (h : TC P w0 g0 c st Q) (hq : ∀ ex st, Q ex st → ∃ st', Can st st' ∧ Q' ex st') : TC P w0 g0 c st Q' := fun a w g hR =>
 wp_mono (h a w g hR) fun e a' w' ⟨st1, g1, h1, h2⟩ => by
  obtain ⟨st2, h3, h4⟩ := hq e st1 h1
  obtain ⟨g2, h5⟩ := h3 h2
  exact ⟨st2, g2, h4, h5⟩
theorem Fun.wT {P : Program} {f : FuncId} {fn : Func} {c : Code} {pts : List TS} {R : Res → Prop} (n t : Nat) (hf : P.funcs[f]? = some fn) (h : ∀ w g0, mostS pts → argsW 0 pts fun e => wC P w g0 n c e [] (endT P n t fn.results.toList R))
  (hb : fn.body = some c := by exact rfl) (hn : fn.ntmps = n := by exact rfl) (hl0 : Nat.ble pts.length n = true := by exact rfl) : Fun P f pts R := by
 have hl := Nat.le_of_ble_eq_true hl0
 subst hn
 refine Fun.of hf hb hl fun w g0 => TC.mostS fun hM => ?_
 obtain ⟨e, h1, h2⟩ := argsW_of (m := 0) (h w g0 hM)
 rw [args_st hl h1]
 refine (wC_of h2).canEnd fun ex st ⟨e, rs, hst, hk⟩ => ?_
 subst hst
 have key : tailW fn.ntmps t e rs (endR P fn.ntmps fn.results.toList R) → ∀ ex, (ex = .normal ∨ ex = .ret) → ∃ st', Can (stOf fn.ntmps e rs) st' ∧ Ends P fn R ex st' := fun hk ex hex => by
  obtain ⟨e', rs', hc, h3⟩ := tailW_of hk
  refine ⟨_, hc, ?_⟩
  have : Lf fn.ntmps (endW P fn.ntmps fn.results.toList R) ex (stOf fn.ntmps e' rs') := ⟨e', rs', rfl, by rcases hex with rfl | rfl <;> exact h3⟩
  exact endW_of this
 unfold endT at hk
 split at hk
 ·exact key hk _ (.inl rfl)
 ·exact key hk _ (.inr rfl)
 ·exact hk.elim
end Go.Proofs.Ytcmoifejjodgcaa.T

namespace Go.Proofs.Ytcmoifejjodgcaa.T
open Go
set_option linter.unusedVariables false
set_option linter.unusedSimpArgs false
set_option maxRecDepth 100000
set_option maxHeartbeats 8000000
section
variable {α : Type} {p : α → Bool} {b : List α} {i : Nat} {y : α}
end
theorem fp_len {b : List VEntry} {t p : Int} : (flushPage b t p).length ≤ b.length := List.length_filter_le _ _
instance (b : List VEntry) (t p : Int) [h : Q (SmEntryS b)] : Q (SmEntryS (flushPage b t p)) := ⟨Nat.le_trans fp_len h.h⟩
instance (b : List VEntry) (t p : Int) (n : Nat) [h : LenX b n] : LenX (flushPage b t p) n := ⟨Nat.le_trans fp_len h.h⟩
end Go.Proofs.Ytcmoifejjodgcaa.T

namespace Go.Proofs.Ytcmoifejjodgcaa.T
open Go
set_option linter.unusedVariables false
set_option linter.unusedSimpArgs false
set_option maxRecDepth 100000
set_option maxHeartbeats 8000000
def monIn (x : VMon) (p : Nat) : VMon := { x with Out := x.Out.set p [] }
def monGot (x : VMon) (p : Nat) (t : Int) : VMon := { x with Out := x.Out.set p [], Outer := x.Outer.set p ⟨t, 3⟩ }
def hostIn (h : VHost) (m : Nat) (x : VMon) (p : Nat) (y : List Int) (t : Int) : VHost := { h with Memory := withPage h.Memory t y, Mons := h.Mons.set m (monIn x p) }
def hostGot (h : VHost) (m : Nat) (x : VMon) (p : Nat) (y : List Int) (t : Int) : VHost := { h with Memory := withPage h.Memory t y, Mons := h.Mons.set m (monGot x p t) }
abbrev gotRow (h : VHost) (m : Nat) (x : VMon) (p : Nat) (y : List Int) (t : Int) : List D := [.sl 1 ((withPage h.Memory t y).map dIntS), .sl 9 (((h.Mons.map dMon).set m (.st [.sl 2 (x.Outer.map dSlot), .sl 1 ((x.Out.map dIntS).set p (.sl 1 [])), .sl 1 (x.Dirty.map dBool), .sl 15 (x.Guests.map dGuest), .sl 1 (x.Outs.map dInt), .v (.int .i64 x.Pending), .v (.int .i64 x.Traps), .sl 2 (x.Tables.map dKept), .v (.int .i64 x.Own)])).set m (.st [.sl 2 ((x.Outer.map dSlot).set p (.st [.v (.int .i64 t), .v (.int .i64 3)])), .sl 1 ((x.Out.map dIntS).set p (.sl 1 [])), .sl 1 (x.Dirty.map dBool), .sl 15 (x.Guests.map dGuest), .sl 1 (x.Outs.map dInt), .v (.int .i64 x.Pending), .v (.int .i64 x.Traps), .sl 2 (x.Tables.map dKept), .v (.int .i64 x.Own)])), .sl 4 (h.Buffer.map dEntry), .sl 4 (h.IoBuffer.map dEntry)]
theorem gotRow_eq (h : VHost) (m : Nat) (x : VMon) (p : Nat) (y : List Int) (t : Int) : gotRow h m x p y t = rHost (hostGot h m x p y t) := by
 have e : dMon (monGot x p t) = .st [.sl 2 ((x.Outer.map dSlot).set p (.st [.v (.int .i64 t), .v (.int .i64 3)])), .sl 1 ((x.Out.map dIntS).set p (.sl 1 [])), .sl 1 (x.Dirty.map dBool), .sl 15 (x.Guests.map dGuest), .sl 1 (x.Outs.map dInt), .v (.int .i64 x.Pending), .v (.int .i64 x.Traps), .sl 2 (x.Tables.map dKept), .v (.int .i64 x.Own)] := by
  show D.st [.sl 2 ((x.Outer.set p ⟨t, 3⟩).map dSlot), .sl 1 ((x.Out.set p []).map dIntS), _, _, _, _, _, _, _] = _
  rw [List.map_set, List.map_set]
  rfl
 unfold gotRow hostGot
 rw [List.set_set]
 show _ = [_, D.sl 9 ((h.Mons.set m (monGot x p t)).map dMon), _, _]
 rw [List.map_set, e]
theorem sm_withPage {m : List (List Int)} {p : Int} {y : List Int} (hm : SmIntSS m) (hy : SmIntS y) : SmIntSS (withPage m p y) := by
 unfold withPage
 split
 ·unfold put
  split
  ·refine ⟨by rw [List.length_set]; exact hm.1, fun c hc => ?_⟩
   rcases List.mem_or_eq_of_mem_set hc with hc | rfl
   ·exact hm.2 c hc
   ·exact hy
  ·exact hm
 ·exact hm
theorem len_withPage {m : List (List Int)} {p : Int} {y : List Int} : (withPage m p y).length = m.length := by
 unfold withPage
 split
 ·unfold put
  split
  ·rw [List.length_set]
  ·rfl
 ·rfl
theorem sm_monIn {x : VMon} {p : Nat} (hx : SmMon x) : SmMon (monIn x p) := by
 refine ⟨hx.1, ⟨by show (x.Out.set _ _).length ≤ _; rw [List.length_set]; exact hx.2.1.1, fun c hc => ?_⟩, hx.2.2⟩
 rcases List.mem_or_eq_of_mem_set hc with hc | rfl
 ·exact hx.2.1.2 c hc
 ·simp [SmIntS]
theorem sm_monGot {x : VMon} {p : Nat} {t : Int} (hx : SmMon x) : SmMon (monGot x p t) := ⟨by show (x.Outer.set _ _).length ≤ _; rw [List.length_set]; exact hx.1, (sm_monIn (p := p) hx).2⟩
theorem shm_monIn {x : VMon} {p : Nat} (hx : ShM x) : ShM (monIn x p) := ⟨hx.1, by show (x.Out.set _ _).length = 8; rw [List.length_set]; exact hx.2.1, hx.2.2⟩
theorem shp_mem {h : VHost} {p : Int} {y : List Int} (hh : Shp h) (hy : SmIntS y) : Shp { h with Memory := withPage h.Memory p y } := ⟨⟨sm_withPage hh.1.1 hy, hh.1.2⟩, by show (withPage _ _ _).length = 12; rw [len_withPage]; exact hh.2.1, hh.2.2⟩
theorem shp_hostIn {h : VHost} {m p : Nat} {x : VMon} {y : List Int} {t : Int} (hh : Shp h) (hx : h.Mons[m]? = some x) (hy : SmIntS y) : Shp (hostIn h m x p y t) := shp_set (shp_mem hh hy) (sm_monIn (hh.sm hx)) (shm_monIn (hh.mon hx))
theorem sm_hostGot {h : VHost} {m p : Nat} {x : VMon} {y : List Int} {t : Int} (hh : Shp h) (hx : h.Mons[m]? = some x) (hy : SmIntS y) : SmHost (hostGot h m x p y t) := sm_setM (h := { h with Memory := withPage h.Memory t y }) (shp_mem hh hy).1 (sm_monGot (hh.sm hx))
theorem take_in {h : VHost} {m p : Nat} {x : VMon} {z : VSlot} {t : Int} {l : List Int} {y : List Int} (hr : Room h m p x z t l) (hy : x.Out[p]? = some y) : takeIn h m p = slotted (hostIn h m x p y t) m (monIn x p) p z ⟨t, 3⟩ := by
 have h1 : (setOut { h with Memory := withPage h.Memory t y } m p []).Mons[m]? = some (monIn x p) := by
  rw [setOut_eq (x := x) (by exact hr.hx)]
  exact set_at hr.hx
 unfold takeIn
 rw [mon_is hr.hx, hy, hr.hf]
 show slotSet (setOut { h with Memory := withPage h.Memory t y } m p []) m p ⟨t, 3⟩ = _
 rw [slotSet_eq h1 (show (monIn x p).Outer[p]? = some z from hr.hz), setOut_eq (x := x) (by exact hr.hx)]
 rfl
theorem take_got {h : VHost} {m p : Nat} {x : VMon} {z : VSlot} {t : Int} {l : List Int} {y : List Int} (hr : Room h m p x z t l) (hy : x.Out[p]? = some y) : takeIn h m p = spoilt (hostGot h m x p y t) m (monGot x p t) p z := by
 rw [take_in hr hy]
 unfold slotted hostIn spoilt hostGot
 simp only [List.set_set]
 rfl
theorem shp_fetch {h : VHost} {m p : Nat} {x : VMon} {z : VSlot} (hs : Shp h) (ha : Alone h) (hx : h.Mons[m]? = some x) (hz : x.Outer[p]? = some z) (h1 : z.Page = -1) : Shp (fetchIn h m p) := by
 obtain ⟨x1, t, l, hr, hyo⟩ := room_at hs ha hx hz h1
 have h8 := (hr.hs.mon hr.hx).2.1
 have hp : p < 8 := by have := (List.getElem?_eq_some_iff.1 hr.hz).1; have := (hr.hs.mon hr.hx).1; omega
 obtain ⟨y, hy⟩ : ∃ y, x1.Out[p]? = some y := ⟨_, List.getElem?_eq_getElem (by omega)⟩
 have qy : SmIntS y := (hr.hs.sm hr.hx).2.1.2 y (List.mem_of_getElem? hy)
 unfold fetchIn
 rw [take_in hr hy]
 exact shp_slot (shp_hostIn hr.hs hr.hx qy) (sm_monIn (hr.hs.sm hr.hx)) (shm_monIn (hr.hs.mon hr.hx))
theorem impl_sendFirst_f (h : VHost) (a b : Nat) (u : VMon) (s : VSlot) (ho : ownerOfPage h 0 = some (a, b)) (hu : h.Mons[a]? = some u) (hw : u.Outer[b]? = some s) (hs : Shp h) : Fun2 Try.prog 68 (⟨true, rHost h⟩) [.one (.ptr ⟨1000001, [], 0⟩)] (RP2 (rHost (sendOut h a b)) (.tup [])) := by
 refine Fun2.w 15 Try.func68 fun w g0 _ => ?_
 have qh : Q (SmHost h) := hs.q
 have hmu := hs.mon hu
 refine callG (impl_OwnerOfPage_f h 0).k ?_
 refine callX 1000001 (impl_send_r (mi := oM (ownerOfPage h 0)) (pi := oP (ownerOfPage h 0)) h a u b s (by rw [ho]; rfl) (by rw [ho]; rfl) rfl hu hmu.2.2.2 hw hmu.2.1 hmu.1 hs.1) ?_
 exact ⟨rfl, rfl⟩
theorem impl_fetch_f (h : VHost) (m : Nat) (x : VMon) (p : Nat) (z : VSlot) (hs : Shp h) (ha : Alone h) (hx : h.Mons[m]? = some x) (hz : x.Outer[p]? = some z) (h1 : z.Page = -1) : Fun2 Try.prog 49 (⟨true, rHost h⟩) [.one (.ptr ⟨1000001, [], 0⟩), I m, I p] (RP2 (rHost (fetchIn h m p)) (.tup [])) := by
 refine Fun2.w 72 Try.func49 fun w g0 _ => ?_
 have qh : Q (SmHost h) := hs.q
 obtain ⟨x1, t, l, hr, hyo⟩ := room_at hs ha hx hz h1
 have hp8 := (List.getElem?_eq_some_iff.1 hz).1
 have hmx := hs.mon hx
 have hmx1 := hmx.1
 have hml0 := (List.getElem?_eq_some_iff.1 hx).1
 have hfe : fetchIn h m p = takeIn (roomFor h) m p := rfl
 refine callL (impl_FreeIn_f h).k ?_
 refine len ?_
 refine cnd (fun hb => ?_) (fun hb => ?_)
 ·have hf : freeIn h = [] := List.length_eq_zero_iff.1 (by first | omega | (simp only [List.length_map] at hb; omega))
  obtain ⟨a, b, ho⟩ := free_none hs.2.1 hf
  obtain ⟨u, s, hu, hw, hp0, hp1⟩ := owner_some ho
  clear hp0 hp1
  rw [room_yes hf ho] at hr hfe
  have hmu := hs.mon hu
  refine callX 1000001 (impl_sendFirst_f h a b u s ho hu hw hs) ?_
  skip
  have qk : Q (SmHost (sendOut h a b)) := hr.hs.q
  have hmk := hr.hs.mon hr.hx
  have hmk1 := hmk.1
  have hmk2 := hmk.2.1
  have hkx := hr.hx
  have hkz := hr.hz
  have ht := hr.ht
  have hf0 : (freeIn (sendOut h a b))[0]? = some t := by rw [hr.hf]; rfl
  have hfl : 0 < (freeIn (sendOut h a b)).length := by rw [hr.hf]; exact Nat.succ_pos _
  have qx : Q (SmMon x1) := ⟨hr.hs.sm hr.hx⟩
  obtain ⟨y, hy⟩ : ∃ y, x1.Out[p]? = some y := ⟨_, List.getElem?_eq_getElem (by omega)⟩
  have qy : Q (SmIntS y) := ⟨ElS.h y (List.mem_of_getElem? hy)⟩
  have hml := (List.getElem?_eq_some_iff.1 hkx).1
  have hpl := (List.getElem?_eq_some_iff.1 hkz).1
  have hml2 : m < ((sendOut h a b).Mons.map dMon).length := by rw [List.length_map]; exact hml
  have hpl2 : p < (x1.Outer.map dSlot).length := by rw [List.length_map]; exact hpl
  have hyl := (List.getElem?_eq_some_iff.1 hy).1
  have hkm := hr.hs.2.1
  rw [take_got hr hy] at hfe
  first | refine ixm (by assumption) ?_ | refine bnd ?_ | refine bndi ?_ | refine ixkq (fun y22 hy22 qy22 ly22 => ?_) | refine ixiq (fun y22 hy22 qy22 ly22 => ?_)
  refine callL (impl_FreeIn_f (sendOut h a b)).k ?_
  refine bnd (m := 0) ?_ (by rw [List.length_map]; exact hfl)
  first | refine ixs ?_ | refine ixo (by assumption) ?_ | refine ixoq (fun z1 hz1 qz1 lz1 => ?_) | skip
  refine regU [16] [(0, 0), (1, 0), (2, 0), (3, 0), (4, 0), (5, 0), (6, 0), (7, 0), (8, 0), (9, 0), (10, 0), (11, 0), (12, 0), (13, 1), (14, 0), (15, 0), (16, 1)] ?_
  first | refine ixs ?_ | refine ixo (by assumption) ?_ | refine ixoq (fun z2 hz2 qz2 lz2 => ?_) | skip
  first | refine ixs ?_ | refine ixo (by assumption) ?_ | refine ixoq (fun z3 hz3 qz3 lz3 => ?_) | skip
  first | refine ixm (by assumption) ?_ | refine bnd ?_ | refine bndi ?_ | refine ixkq (fun y40 hy40 qy40 ly40 => ?_) | refine ixiq (fun y40 hy40 qy40 ly40 => ?_)
  first | refine ixs ?_ | refine ixo (by assumption) ?_ | refine ixoq (fun z4 hz4 qz4 lz4 => ?_) | skip
  first | refine ixs ?_ | refine ixo (by assumption) ?_ | refine ixoq (fun z5 hz5 qz5 lz5 => ?_) | skip
  refine callL (impl_WithPage_f (sendOut h a b).Memory t y).k ?_
  first | refine ixs ?_ | refine ixo (by assumption) ?_ | refine ixoq (fun z6 hz6 qz6 lz6 => ?_) | skip
  first | refine ixs ?_ | refine ixo (by assumption) ?_ | refine ixoq (fun z7 hz7 qz7 lz7 => ?_) | skip
  first | refine ixm (by assumption) ?_ | refine bnd ?_ | refine bndi ?_ | refine ixkq (fun y51 hy51 qy51 ly51 => ?_) | refine ixiq (fun y51 hy51 qy51 ly51 => ?_)
  first | refine ixs ?_ | refine ixo (by assumption) ?_ | refine ixoq (fun z8 hz8 qz8 lz8 => ?_) | skip
  first | refine ixs ?_ | refine ixo (by assumption) ?_ | refine ixoq (fun z9 hz9 qz9 lz9 => ?_) | skip
  first | refine ixs ?_ | refine ixo (by assumption) ?_ | refine ixoq (fun z10 hz10 qz10 lz10 => ?_) | skip
  first | refine ixs ?_ | refine ixo (by assumption) ?_ | refine ixoq (fun z11 hz11 qz11 lz11 => ?_) | skip
  first | refine ixm (by assumption) ?_ | refine bnd ?_ | refine bndi ?_ | refine ixkq (fun y57 hy57 qy57 ly57 => ?_) | refine ixiq (fun y57 hy57 qy57 ly57 => ?_)
  first | refine ixs ?_ | refine ixo (by assumption) ?_ | refine ixoq (fun z12 hz12 qz12 lz12 => ?_) | skip
  first | refine ixs ?_ | refine ixo (by assumption) ?_ | refine ixoq (fun z13 hz13 qz13 lz13 => ?_) | skip
  first | refine ixs ?_ | refine ixo (by assumption) ?_ | refine ixoq (fun z14 hz14 qz14 lz14 => ?_) | skip
  first | refine ixs ?_ | refine ixo (by assumption) ?_ | refine ixoq (fun z15 hz15 qz15 lz15 => ?_) | skip
  first | refine ixm (by assumption) ?_ | refine bnd ?_ | refine bndi ?_ | refine ixkq (fun y66 hy66 qy66 ly66 => ?_) | refine ixiq (fun y66 hy66 qy66 ly66 => ?_)
  first | refine ixs ?_ | refine ixo (by assumption) ?_ | refine ixoq (fun z16 hz16 qz16 lz16 => ?_) | skip
  first | refine ixs ?_ | refine ixo (by assumption) ?_ | refine ixoq (fun z17 hz17 qz17 lz17 => ?_) | skip
  refine callX 1000001 (impl_invalidate_r (row := gotRow (sendOut h a b) m x1 p y t) (hostGot (sendOut h a b) m x1 p y t) m (monGot x1 p t) p (gotRow_eq (sendOut h a b) m x1 p y t) (set_at hkx) hmk.2.2.2 (sm_hostGot hr.hs hkx qy.h)) ?_
  exact (by rw [hfe]; exact ⟨rfl, rfl⟩)
 ·rw [room_no (fun e => by rw [e] at hb; simp at hb)] at hr hfe
  have qk : Q (SmHost h) := hr.hs.q
  have hmk := hr.hs.mon hr.hx
  have hmk1 := hmk.1
  have hmk2 := hmk.2.1
  have hkx := hr.hx
  have hkz := hr.hz
  have ht := hr.ht
  have hf0 : (freeIn h)[0]? = some t := by rw [hr.hf]; rfl
  have hfl : 0 < (freeIn h).length := by rw [hr.hf]; exact Nat.succ_pos _
  have qx : Q (SmMon x1) := ⟨hr.hs.sm hr.hx⟩
  obtain ⟨y, hy⟩ : ∃ y, x1.Out[p]? = some y := ⟨_, List.getElem?_eq_getElem (by omega)⟩
  have qy : Q (SmIntS y) := ⟨ElS.h y (List.mem_of_getElem? hy)⟩
  have hml := (List.getElem?_eq_some_iff.1 hkx).1
  have hpl := (List.getElem?_eq_some_iff.1 hkz).1
  have hml2 : m < (h.Mons.map dMon).length := by rw [List.length_map]; exact hml
  have hpl2 : p < (x1.Outer.map dSlot).length := by rw [List.length_map]; exact hpl
  have hyl := (List.getElem?_eq_some_iff.1 hy).1
  have hkm := hr.hs.2.1
  rw [take_got hr hy] at hfe
  first | refine ixm (by assumption) ?_ | refine bnd ?_ | refine bndi ?_ | refine ixkq (fun y22 hy22 qy22 ly22 => ?_) | refine ixiq (fun y22 hy22 qy22 ly22 => ?_)
  refine callL (impl_FreeIn_f h).k ?_
  refine bnd (m := 0) ?_ (by rw [List.length_map]; exact hfl)
  first | refine ixs ?_ | refine ixo (by assumption) ?_ | refine ixoq (fun z18 hz18 qz18 lz18 => ?_) | skip
  refine regU [16] [(0, 0), (1, 0), (2, 0), (3, 0), (4, 0), (5, 0), (6, 0), (7, 0), (8, 0), (9, 0), (10, 0), (11, 0), (12, 0), (13, 1), (14, 0), (15, 0), (16, 1)] ?_
  first | refine ixs ?_ | refine ixo (by assumption) ?_ | refine ixoq (fun z19 hz19 qz19 lz19 => ?_) | skip
  first | refine ixs ?_ | refine ixo (by assumption) ?_ | refine ixoq (fun z20 hz20 qz20 lz20 => ?_) | skip
  first | refine ixm (by assumption) ?_ | refine bnd ?_ | refine bndi ?_ | refine ixkq (fun y40 hy40 qy40 ly40 => ?_) | refine ixiq (fun y40 hy40 qy40 ly40 => ?_)
  first | refine ixs ?_ | refine ixo (by assumption) ?_ | refine ixoq (fun z21 hz21 qz21 lz21 => ?_) | skip
  first | refine ixs ?_ | refine ixo (by assumption) ?_ | refine ixoq (fun z22 hz22 qz22 lz22 => ?_) | skip
  refine callL (impl_WithPage_f h.Memory t y).k ?_
  first | refine ixs ?_ | refine ixo (by assumption) ?_ | refine ixoq (fun z23 hz23 qz23 lz23 => ?_) | skip
  first | refine ixs ?_ | refine ixo (by assumption) ?_ | refine ixoq (fun z24 hz24 qz24 lz24 => ?_) | skip
  first | refine ixm (by assumption) ?_ | refine bnd ?_ | refine bndi ?_ | refine ixkq (fun y51 hy51 qy51 ly51 => ?_) | refine ixiq (fun y51 hy51 qy51 ly51 => ?_)
  first | refine ixs ?_ | refine ixo (by assumption) ?_ | refine ixoq (fun z25 hz25 qz25 lz25 => ?_) | skip
  first | refine ixs ?_ | refine ixo (by assumption) ?_ | refine ixoq (fun z26 hz26 qz26 lz26 => ?_) | skip
  first | refine ixs ?_ | refine ixo (by assumption) ?_ | refine ixoq (fun z27 hz27 qz27 lz27 => ?_) | skip
  first | refine ixs ?_ | refine ixo (by assumption) ?_ | refine ixoq (fun z28 hz28 qz28 lz28 => ?_) | skip
  first | refine ixm (by assumption) ?_ | refine bnd ?_ | refine bndi ?_ | refine ixkq (fun y57 hy57 qy57 ly57 => ?_) | refine ixiq (fun y57 hy57 qy57 ly57 => ?_)
  first | refine ixs ?_ | refine ixo (by assumption) ?_ | refine ixoq (fun z29 hz29 qz29 lz29 => ?_) | skip
  first | refine ixs ?_ | refine ixo (by assumption) ?_ | refine ixoq (fun z30 hz30 qz30 lz30 => ?_) | skip
  first | refine ixs ?_ | refine ixo (by assumption) ?_ | refine ixoq (fun z31 hz31 qz31 lz31 => ?_) | skip
  first | refine ixs ?_ | refine ixo (by assumption) ?_ | refine ixoq (fun z32 hz32 qz32 lz32 => ?_) | skip
  first | refine ixm (by assumption) ?_ | refine bnd ?_ | refine bndi ?_ | refine ixkq (fun y66 hy66 qy66 ly66 => ?_) | refine ixiq (fun y66 hy66 qy66 ly66 => ?_)
  first | refine ixs ?_ | refine ixo (by assumption) ?_ | refine ixoq (fun z33 hz33 qz33 lz33 => ?_) | skip
  first | refine ixs ?_ | refine ixo (by assumption) ?_ | refine ixoq (fun z34 hz34 qz34 lz34 => ?_) | skip
  refine callX 1000001 (impl_invalidate_r (row := gotRow h m x1 p y t) (hostGot h m x1 p y t) m (monGot x1 p t) p (gotRow_eq h m x1 p y t) (set_at hkx) hmk.2.2.2 (sm_hostGot hr.hs hkx qy.h)) ?_
  exact (by rw [hfe]; exact ⟨rfl, rfl⟩)
end Go.Proofs.Ytcmoifejjodgcaa.T

