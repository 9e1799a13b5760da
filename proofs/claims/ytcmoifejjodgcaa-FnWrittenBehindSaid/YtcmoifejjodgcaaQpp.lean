
import Derived.Test.YtcmoifejjodgcaaWyp
import Derived.Test.YtcmoifejjodgcaaT3p
import Derived.Test.YtcmoifejjodgcaaHqp
import Derived.Test.YtcmoifejjodgcaaOfp
import Derived.Test.YtcmoifejjodgcaaNrp
import Derived.Test.YtcmoifejjodgcaaNyp
import Derived.Test.YtcmoifejjodgcaaNvp
namespace Go.Proofs.Ytcmoifejjodgcaa.T
open Go Go.RowKit
set_option linter.unusedVariables false
set_option linter.unusedSimpArgs false
set_option maxRecDepth 100000
set_option maxHeartbeats 1000000
abbrev curRow (ds : List D) (i h : Int) : List C := [.ro (.sl 1 ds), .own (.v (.int .i64 i)), .own (.v (.int .i64 h))]
def St.cur (st : St) (K : Nat) (ds : List D) (i h : Int) : St := (st.kill (fun pl => pl.k == K) (fun _ => false)).setRoot K ⟨true, curRow ds i h⟩
section
variable {w0 : World} {g0 : Gh} {st : St} {a : Act} {w w' : World} {g : Gh}
theorem Rel.touch (hR : Rel w0 g0 st a w g) {K : Nat} {ds : List D} {i h i' h' : Int} (hroot : st.root K = some ⟨true, curRow ds i h⟩) {v : Value} (hs : CurStep (g.ad K []).1 w w') (hc : Cur w' (g.ad K []).1 (g.ad K []).2 v i' h') (hv : v = g.cv K [] 0) :
  ∃ g', Rel w0 g0 (st.cur K ds i' h') a w' g' := by
 let g' : Gh := { g with cv := fun k p q => if k = K ∧ p = [] then (if q = 1 then .int .i64 i' else if q = 2 then .int .i64 h' else g.cv k p q) else g.cv k p q }
 obtain ⟨m1, m2, m3⟩ := hR.rt.mem K _ hroot rfl
 have hne : ∀ b, g.o b ≠ .box K → w'.heap[b]? = w.heap[b]? := fun b hb => hs.other b fun e => by subst e; exact hb m1
 have hcv : ∀ k p q, k ≠ K → g'.cv k p q = g.cv k p q := fun k p q h => if_neg fun e => h e.1
 have hA : Agree w g w' g' (fun pl => pl.k == K) (fun _ => false) := ⟨fun b hb => ⟨hb, hne b (by rw [hb]; simp)⟩, fun pl hp => hcv _ _ _ (by simpa using hp), fun pl hp => rfl⟩
 have hroots : ∀ k' r', (st.cur K ds i' h').root k' = some r' → (k' = K ∧ r' = ⟨true, curRow ds i' h'⟩) ∨ (k' ≠ K ∧ ∃ r1, st.root k' = some r1 ∧ r' = r1.kill fun pl => pl.k == K) := fun k' r' h => by
  unfold St.cur at h
  rw [St.root_setRoot] at h
  split at h
  ·rename_i e1
   simp only [Option.some.injEq] at h
   exact .inl ⟨e1, h.symm⟩
  ·rename_i e1
   rw [St.root_kill, Option.map_eq_some_iff] at h
   obtain ⟨r1, h1, h2⟩ := h
   exact .inr ⟨e1, r1, h1, h2.symm⟩
 refine ⟨g', hR.change hA rfl ⟨fun k' r' hk' q c hc' => ?_, fun k' r' hk' hm => ?_⟩ ?_⟩
 ·rcases hroots k' r' hk' with ⟨rfl, rfl⟩ | ⟨h1, r1, h3, rfl⟩
  ·match q, hc' with
   | 0, hc' =>
    cases hc'
    have h4 : Ro w g.o (.sl 1 ds) (g.cv k' [] 0) := hR.rt.cell k' _ hroot 0 _ rfl
    show Ro w' g'.o (.sl 1 ds) (g'.cv k' [] 0)
    simp only [g', and_self, if_true]
    exact Ro.mono hA.ro h4
   | 1, hc' =>
    cases hc'
    exact Ow.v [] 1 _ rfl (by simp [g'])
   | 2, hc' =>
    cases hc'
    exact Ow.v [] 2 _ rfl (by simp [g'])
   | q + 3, hc' => simp [curRow] at hc'
  ·simp only [Rt.kill, List.getElem?_map, Option.map_eq_some_iff] at hc'
   obtain ⟨c1, h4, rfl⟩ := hc'
   have h5 := hR.rt.cell k' r1 h3 q c1 h4
   cases c1 with
   | ro d => show Ro w' g'.o d _; rw [hcv _ _ _ h1]; exact Ro.mono hA.ro h5
   | own d =>
    refine Ow.move (g' := g') h5 ⟨hcv _ _ _ h1, fun i r q' => hcv _ _ _ h1, fun i r => rfl, fun b hb => ⟨hb, hne b (by rw [hb]; simp)⟩, fun b i r q' hb => ⟨hb, hne b (by rw [hb]; simp)⟩⟩
   | ref pl =>
    have h6 : g.cv k' [] q = g.cv pl.k pl.p pl.q ∧ (g.cv k' [] q).oneCell' = true := h5
    simp only [C.kill]
    by_cases e : pl.k = K
    ·rw [if_pos (by simpa using e)]; trivial
    ·rw [if_neg (by simpa using e)]
     show g'.cv k' [] q = g'.cv pl.k pl.p pl.q ∧ (g'.cv k' [] q).oneCell' = true
     rw [hcv _ _ _ h1, hcv _ _ _ e]
     exact h6
   | dead => trivial
 ·rcases hroots k' r' hk' with ⟨rfl, rfl⟩ | ⟨h1, r1, h3, rfl⟩
  ·refine ⟨m1, hc.fz, fun q hq => ?_⟩
   match q, hq with
   | 0, _ =>
    show w'.cell? (cellAddr (g.ad k' []) 0) = some (g'.cv k' [] 0)
    have := hc.c0
    rw [hv] at this
    simpa [g', cellAddr] using this
   | 1, _ =>
    show w'.cell? (cellAddr (g.ad k' []) 1) = some (g'.cv k' [] 1)
    simpa [g', cellAddr] using hc.c1
   | 2, _ =>
    show w'.cell? (cellAddr (g.ad k' []) 2) = some (g'.cv k' [] 2)
    simpa [g', cellAddr] using hc.c2
   | q + 3, hq => exact absurd hq (by simp [curRow])
  ·obtain ⟨n1, ⟨cs, t, n2⟩, n3⟩ := hR.rt.mem k' r1 h3 hm
   have hb : w'.heap[(g.ad k' []).1]? = w.heap[(g.ad k' []).1]? := hne _ (by rw [n1]; simpa using h1)
   refine ⟨n1, ⟨cs, t, by show w'.heap[(g.ad k' []).1]? = _; rw [hb]; exact n2⟩, fun q hq => ?_⟩
   show w'.cell? (cellAddr (g.ad k' []) q) = some (g'.cv k' [] q)
   rw [hcv _ _ _ h1, ← n3 q (by simpa [Rt.kill] using hq)]
   exact World.cell?_of_block (w := w) hb
 ·have hk0 := hR.ks
  refine ⟨hs.os.trans hk0.os, hs.tape.trans hk0.tape, hs.output.trans hk0.output, by rw [hs.size]; exact hk0.size, fun b hb hx => ?_, fun b hb => hk0.fresh b (by rw [← hs.size]; exact hb), fun b hb hx => hk0.old b (by rw [← hs.size]; exact hb) hx, ⟨fun q => ?_, hk0.pin.2⟩, hk0.nobox⟩
  ·obtain ⟨h1, h2⟩ := hk0.block b hb hx
   exact ⟨by rw [hne b (by rw [h2]; rcases hx with hx | hx <;> rw [hx] <;> simp)]; exact h1, h2⟩
  ·have hpK : pinK ≠ K := fun e => by subst e; exact hk0.nobox _ m1
   rw [hcv _ _ _ hpK]; exact hk0.pin.1 q
def isBytes (ds : List D) : Prop := ∀ d ∈ ds, ∃ z : Nat, z < 256 ∧ d = .v (.int .u8 z)
theorem ro_inv {w : World} {o : Nat → Tag} {x u : Value} (h : Ro w o (.v x) u) : u = x := by
 cases h
 rfl
theorem bytes_of {w : World} {o : Nat → Tag} {ds : List D} {v : Value} (h : Ro w o (.sl 1 ds) v) (hb : isBytes ds) : ∃ ad n c, v = .slice ad n c ∧ n = ds.length ∧ Bytes w ad n ∧ (∀ b off, 0 < n → ad = some ⟨b, off, none⟩ → o b = .ro) ∧ (0 < n → ∃ b off, ad = some ⟨b, off, none⟩) := by
 cases h with
 | nil _ ad c => exact ⟨ad, 0, c, rfl, rfl, fun k hk => by omega, fun b off h => by omega, fun h => by omega⟩
 | sl _ _ b off n c us hn hm hnc ho hrow hcell hel =>
  refine ⟨_, n, c, rfl, hn.symm, fun k hk => ⟨b, off, rfl, ?_⟩, fun b2 off2 _ e => ?_, fun _ => ⟨b, off, rfl⟩⟩
  ·have hk' : k < ds.length := by omega
   obtain ⟨z, hz, hd⟩ := hb ds[k] (List.getElem_mem hk')
   have h1 := hel k ds[k] (List.getElem?_eq_getElem hk') 0 (.v (.int .u8 z)) (by rw [hd]; rfl)
   have h2 := hcell k (by omega)
   refine ⟨z, hz, ?_⟩
   rw [h2]
   have h3 := ro_inv h1
   simp only [Nat.mul_one, Nat.add_zero] at h3
   rw [h3]
  ·simp only [Option.some.injEq, Addr.mk.injEq, and_true] at e
   rw [← e.1]; exact ho
theorem TL.below {ops : Array Oper} {o : Oper} {rest : List Oper} {Q : St → Prop} (hg : Go.Proofs.Ytcmoifejjodgcaa.T.yes ops st o) {x y : Operand} {tys : Array TypeId}
  (ho : o.op = .call { callee := .value (.func 14), args := [x, y].toArray, argTypes := tys }) {K : Nat} (hx : T.opd 0 st x = some (.one (.ptr ⟨K, [], 0⟩))) (hy : T.opd 0 st y = some (I 10000))
  {ds : List D} {i h : Int} (hroot : st.root K = some ⟨true, curRow ds i h⟩) (hby : isBytes ds) (hn : ds.length ≤ 1048576) (hi : 0 ≤ i)
  (hq : ∀ z i' h', 0 ≤ z → z < 10000 → 0 ≤ i' → TL Try.prog w0 g0 ops rest ((st.cur K ds i' h').put o.dst (I z)) Q) : TL Try.prog w0 g0 ops (o :: rest) st Q := fun a w g hR Q' hQ => wpList_step fun K' hK => by
 rw [if_pos (yes_of hg hR)]
 unfold Oper.wp
 rw [run_enter hR ho rfl Try.func14 rfl (by decide +kernel) w]
 obtain ⟨m1, m2, m3⟩ := hR.rt.mem K _ hroot rfl
 have hRo : Ro w g.o (.sl 1 ds) (g.cv K [] 0) := hR.rt.cell K _ hroot 0 _ rfl
 have ho1 : Ow w g K [] 1 (.v (.int .i64 i)) := hR.rt.cell K _ hroot 1 _ rfl
 have ho2 : Ow w g K [] 2 (.v (.int .i64 h)) := hR.rt.cell K _ hroot 2 _ rfl
 have e1 : g.cv K [] 1 = .int .i64 i := by cases ho1; assumption
 have e2 : g.cv K [] 2 = .int .i64 h := by cases ho2; assumption
 obtain ⟨ad, n, c, ev, en, hB, hro, had⟩ := bytes_of hRo hby
 have hy' := hR.val hy
 have h2 := hR.opd hx
 have hargs : ([x, y].map a.eval).toArray = #[.pointer (some ⟨(g.ad K []).1, (g.ad K []).2, none⟩), .int .i64 10000] := by
  generalize hv : a.eval x = v at h2
  cases h2 with
  | one _ _ h2 =>
   cases h2 with
   | ptr _ => simp [hv, hy', cellAddr]
 rw [hargs]
 have c0 := m3 0 (by simp [curRow])
 have c1 := m3 1 (by simp [curRow])
 have c2 := m3 2 (by simp [curRow])
 rw [e1] at c1
 rw [e2] at c2
 rw [ev] at c0
 have hC : Cur w (g.ad K []).1 (g.ad K []).2 (.slice ad n c) i h := ⟨by simpa [cellAddr] using c0, by simpa [cellAddr] using c1, by simpa [cellAddr] using c2, m2, hi⟩
 refine (belowC (g.ad K []).1 (g.ad K []).2 ad n c i h (by omega) w hC hB fun b2 off e0 e e3 => ?_).mono fun e w' ⟨z, i', h', he, hz1, hz2, hs, hc⟩ => ?_
 ·have := hro b2 off e0 e
  rw [e3, m1] at this
  cases this
 ·subst he
  obtain ⟨g', hR'⟩ := hR.touch hroot hs hc ev.symm
  exact hK _ _ (hq z i' h' hz1 hz2 hc.nn _ _ _ (hR'.put (V_mk rfl) o.dst) Q' hQ)
theorem TL.newCur {ops : Array Oper} {o : Oper} {rest : List Oper} {Q : St → Prop} (hg : Go.Proofs.Ytcmoifejjodgcaa.T.yes ops st o) {x : Operand} {tys : Array TypeId}
  (ho : o.op = .call { callee := .value (.func 13), args := [x].toArray, argTypes := tys }) {ds : List D} (hx : T.opd 0 st x = some (.one (.c (.ro (.sl 1 ds))))) (hby : isBytes ds) (hn : ds.length ≤ 1048576)
  {k : Nat} (hd : o.dst = some k) (hkp : k < 1000000)
  (hq : ∀ h, TL Try.prog w0 g0 ops rest ((st.fresh k ⟨true, curRow ds 0 h⟩).put (some k) (.one (.ptr ⟨k, [], 0⟩))) Q) : TL Try.prog w0 g0 ops (o :: rest) st Q := fun a w g hR Q' hQ => wpList_step fun K' hK => by
 rw [if_pos (yes_of hg hR)]
 unfold Oper.wp
 rw [run_enter hR ho rfl Try.func13 rfl (by decide +kernel) w]
 have h2 := hR.opd hx
 generalize hv : a.eval x = v at h2
 cases h2 with
 | one _ _ h2 =>
  cases h2 with
  | c _ _ h2 =>
   have hRo : Ro w g.o (.sl 1 ds) v := h2
   obtain ⟨ad, n, c, ev, en, hB, hro, had⟩ := bytes_of hRo hby
   subst ev
   have hcall : Calls Try.prog 13 #[.slice ad n c] w fun e w' => ∃ (h : Int) (k : Nat), e = .returned (.pointer (some ⟨w.heap.size, 0, none⟩)) ∧
     w' = (w.drewN k).alloc (.cells #[.slice ad n c, .int .i64 0, .int .i64 h] 84) := by
    by_cases hz : n = 0
    ·subst hz; exact curNil ad c w
    ·obtain ⟨b, off, rfl⟩ := had (by omega)
     exact curNew b off n c (by omega) w hB
   have hargs : ([x].map a.eval).toArray = #[.slice ad n c] := by simp [hv]
   rw [hargs]
   refine hcall.mono fun e w' ⟨h, kk, he, hw⟩ => ?_
   subst he
   subst hw
   have hL : Later w (w.drewN kk) := ⟨rfl, rfl, rfl, Nat.le_refl _, fun _ _ => rfl⟩
   have hR1 := hR.later hL
   obtain ⟨g', hR', had'⟩ := hR1.box (k := k) hkp (cells := #[.slice ad n c, .int .i64 0, .int .i64 h]) (e := 84) (row := [C.ro (.sl 1 ds), .ro (.v (.int .i64 0)), .ro (.v (.int .i64 h))].map (boxC k)) (by simp) (fun q c' u hq hu => by
    rw [List.getElem?_map, Option.map_eq_some_iff] at hq
    obtain ⟨c1, hq, rfl⟩ := hq
    refine BoxC.of_val ?_
    match q, hq, hu with
    | 0, hq, hu =>
     cases hq; cases hu
     show Ro (w.drewN kk) (g.later w.heap.size (w.drewN kk).heap.size).o (.sl 1 ds) (.slice ad n c)
     refine Ro.mono (w := w) (w' := w.drewN kk) (o := g.o) (o' := (g.later w.heap.size (w.drewN kk).heap.size).o) (fun b hb => ⟨?_, rfl⟩) hRo
     have := hR.ltOf (b := b) (by rw [hb]; simp)
     simp [Gh.later, this, hb]
    | 1, hq, hu => cases hq; cases hu; exact Ro.v _ rfl
    | 2, hq, hu => cases hq; cases hu; exact Ro.v _ rfl
    | q + 3, hq, hu => simp at hq)
   refine hK _ _ (hq h _ _ g' ?_ Q' hQ)
   rw [hd]
   have hp : RepS ((w.drewN kk).alloc (.cells #[.slice ad n c, .int .i64 0, .int .i64 h] 84)) g' (.one (.ptr ⟨k, [], 0⟩)) (.pointer (some ⟨w.heap.size, 0, none⟩)) := by
    have := RepT.ptr (w := (w.drewN kk).alloc (.cells #[.slice ad n c, .int .i64 0, .int .i64 h] 84)) (g := g') ⟨k, [], 0⟩
    simp only [had', cellAddr, Nat.add_zero] at this
    exact .one _ _ this
   exact hR'.put hp (some k)
end
end Go.Proofs.Ytcmoifejjodgcaa.T

namespace Go.Proofs.Ytcmoifejjodgcaa.T
open Go
set_option linter.unusedVariables false
set_option linter.unusedSimpArgs false
set_option maxRecDepth 100000
set_option maxHeartbeats 1000000
def RDraw : Res → Prop := fun r => ∃ p : List Int, p.length = 12 ∧ (∀ x ∈ p, 0 ≤ x ∧ x < 10000) ∧ RL 1 (p.map dInt) r
theorem RDraw.ok {k : Nat} {r : Res} (h : RDraw r) : okS k r.row.length (r.val k) = true := by
 obtain ⟨p, _, _, rfl⟩ := h
 simp [okS, okV, okC]
theorem laws_big_f (ds : List D) : Fun Try.prog 4 [L 1 ds] (RV (.bool (decide (1048576 < (ds.length : Int))))) := by
 refine Fun.of Try.func4 rfl (by simp [Try.ntmps4]) fun w g0 => ?_
 simp only [Try.ntmps4, List.length_cons, List.length_nil, Nat.reduceAdd, Nat.reduceSub, List.replicate, List.cons_append, List.nil_append]
 refine TC.seq ?_
 refine TC.region ?_
 refine TL.vE (Val.assign 1 rfl rfl) ?_
 refine TL.nil ?_
 show TC _ _ _ _ _ _
 refine TC.seq ?_
 refine TC.region ?_
 refine TL.vE (Val.move 1 rfl rfl) ?_
 refine TL.vE (by first | exact Val.len rfl rfl rfl rfl | exact Val.lenS rfl rfl rfl) ?_
 refine TL.vE (Val.gtr rfl rfl rfl) ?_
 refine TL.vE (Val.assign 1 rfl rfl) ?_
 refine TL.nil ?_
 show TC _ _ _ _ _ _
 refine TC.ret ?_
 exact ⟨.inr rfl, [_], [_], _, rfl, by decide, rfl, by simp [refV, refC, valC], rfl, rfl⟩
theorem spec_DrawPlaces_f (ds : List D) (hby : isBytes ds) (hn : ds.length ≤ 1048576) : Fun Try.prog 5 [L 1 ds] (RDraw) := by
 refine Fun.of Try.func5 rfl (by simp [Try.ntmps5]) fun w g0 => ?_
 simp only [Try.ntmps5, List.length_cons, List.length_nil, Nat.reduceAdd, Nat.reduceSub, List.replicate, List.cons_append, List.nil_append]
 refine TC.seq ?_
 refine TC.region ?_
 refine TL.vE (Val.assign 1 rfl rfl) ?_
 refine TL.nil ?_
 show TC _ _ _ _ _ _
 refine TC.seq ?_
 refine TC.region ?_
 refine TL.vE (Val.move 1 rfl rfl) ?_
 refine TL.newCur (yes_none rfl) rfl rfl hby hn rfl (by decide) fun ch0 => ?_
 simp only [curRow]
 simp only [nrm, Nat.reduceBEq, Nat.reduceBNe, reduceIte]
 refine TL.vE (Val.assign 1 rfl rfl) ?_
 refine TL.nil ?_
 show TC _ _ _ _ _ _
 refine TC.seq ?_
 refine TC.region ?_
 refine TL.opK rfl fun K hK => ?_
 refine OpT.build0 (sz := 1) rfl rfl rfl rfl ?_
 simp only [nrm, Nat.reduceBEq, Nat.reduceBNe, reduceIte]
 refine hK _ ?_
 clear hK K
 refine TL.vE (Val.assign 1 rfl rfl) ?_
 refine TL.nil ?_
 show TC _ _ _ _ _ _
 refine TC.seq ?_
 refine TC.seq ?_
 refine TC.region ?_
 refine TL.vE (Val.assign 1 rfl rfl) ?_
 refine TL.nil ?_
 show TC _ _ _ _ _ _
 refine TC.block ?_
 refine TC.loop (fun μ st => ∃ (j : Nat) (p : List Int) (ci ch : Int), (j ≤ 12 ∧ p.length = j ∧ (∀ x ∈ p, 0 ≤ x ∧ x < 10000) ∧ 0 ≤ ci) ∧ μ = 12 - j ∧ Can st ⟨[.one .dead, .one .dead, .one .dead, .one (.ptr ⟨7, [], 0⟩), .one (.c (.ref ⟨4, [], 0⟩)), I j, .one .dead, .one .dead, .one .dead, .one .dead, .one .dead, .one .dead, .one .dead, .one .dead, .one .dead, .one .dead, .one .dead, .one .dead, .one .dead], [(4, ⟨false, [.own (.sl 1 (p.map dInt))]⟩), (7, ⟨true, [.ro (.sl 1 ds), .own (.v (.int .i64 ci)), .own (.v (.int .i64 ch))]⟩)]⟩) (12) ?_ fun μ st hI => ?_
 ·refine ⟨0, [], 0, ch0, ⟨by omega, rfl, by simp, by omega⟩, by simp, ?_⟩
  exact Can.name 8 4 (by simp only [St.name, nameS, nameV, nameC, nameR, List.map_cons, List.map_nil, Nat.reduceEqDiff, if_true, if_false, ne_eq, not_true, not_false, and_true, and_false, true_and, false_and, reduceIte]; rfl) (Can.too (.cons rfl rfl (.cons rfl rfl .nil)))
 ·obtain ⟨j, p, ci, ch, hyp, rfl, hcan⟩ := hI
  refine TC.can hcan ?_
  clear hcan
  refine TC.seq ?_
  refine TC.seq ?_
  refine TC.region ?_
  refine TL.vE (Val.move 1 rfl rfl) ?_
  refine TL.vE (Val.lss rfl rfl rfl) ?_
  refine TL.nil ?_
  show TC _ _ _ _ _ _
  refine TC.cond rfl (fun hb => ?_) (fun hb => ?_)
  ·refine TC.skip ?_
   show TC _ _ _ _ _ _
   refine TC.seq ?_
   refine TC.block ?_
   have hj : j < 12 := by simp at hb; omega
   have hpl := hyp.2.1
   refine TC.region ?_
   refine TL.vE (Val.move 1 rfl rfl) ?_
   refine TL.vE (Val.move 1 rfl rfl) ?_
   refine TL.below (yes_none rfl) rfl rfl rfl rfl hby hn hyp.2.2.2 fun z ci' ch' hz1 hz2 hci => ?_
   simp only [St.cur, curRow]
   simp only [nrm, Nat.reduceBEq, Nat.reduceBNe, reduceIte]
   refine TL.opK rfl fun K hK => ?_
   refine OpT.buildP rfl rfl (xs := [(Go.Operand.tmp 15)]) rfl rfl rfl rfl (sz := 1) rfl rfl rfl (by decide) (by decide) ?_
   simp only [nrm, Nat.reduceBEq, Nat.reduceBNe, reduceIte]
   refine hK _ ?_
   clear hK K
   refine TL.opK rfl fun K hK => ?_
   refine OpT.appendE rfl rfl rfl (sz := 1) rfl rfl rfl (by simp [isPlain, D.row, elD, cellD]) rfl rfl rfl rfl rfl rfl rfl (by simp; try omega) ?_
   simp only [nrm, Nat.reduceBEq, Nat.reduceBNe, reduceIte]
   refine hK _ ?_
   clear hK K
   refine TL.vE (Val.assign 1 rfl rfl) ?_
   refine TL.nil ?_
   show TC _ _ _ _ _ _
   refine TC.region ?_
   refine TL.vE (Val.move 1 rfl rfl) ?_
   refine TL.vE (Val.addO rfl rfl rfl) ?_
   refine TL.vE (Val.assign 1 rfl rfl) ?_
   refine TL.nil ?_
   first | refine Seq.normal ⟨_, ?_, j + 1, p ++ [z], ci', ch', ?_, rfl, ?_⟩ | refine Seq.normal (Q := fun _ _ => True) ⟨_, ?_, j + 1, p ++ [z], ci', ch', ?_, rfl, ?_⟩
   ·omega
   ·exact ⟨by omega, by simp [hpl], fun x hx => by rcases List.mem_append.1 hx with h | h; exact hyp.2.2.1 x h; rw [List.mem_singleton.1 h]; exact ⟨hz1, hz2⟩, hci⟩
   ·exact Can.name 17 4 (by simp only [St.name, nameS, nameV, nameC, nameR, List.map_cons, List.map_nil, Nat.reduceEqDiff, if_true, if_false, ne_eq, not_true, not_false, and_true, and_false, true_and, false_and, reduceIte]; rfl) (Can.too (.cons rfl (by simp [elD, cellD]) (.cons rfl rfl .nil)))
  ·refine TC.exit ?_
   show TC _ _ _ _ _ _
   refine TC.seq ?_
   have hj : j = 12 := by simp at hb; omega
   have hpl := hyp.2.1
   refine TC.region ?_
   refine TL.vE (Val.move 1 rfl rfl) ?_
   refine TL.vE (Val.assign 1 rfl rfl) ?_
   refine TL.nil ?_
   show TC _ _ _ _ _ _
   refine TC.ret ?_
   exact ⟨.inr rfl, [_], [_], _, rfl, by decide, rfl, by simp [refV, refC, valC], rfl, ⟨p, by omega, hyp.2.2.1, rfl⟩⟩
end Go.Proofs.Ytcmoifejjodgcaa.T

namespace Go.Proofs.Ytcmoifejjodgcaa.T
open Go
set_option linter.unusedVariables false
set_option linter.unusedSimpArgs false
set_option maxRecDepth 100000
set_option maxHeartbeats 8000000
theorem laws_FnWrittenBehind_f (ds : List D) (hby : isBytes ds) : Fun Try.prog 3 [L 1 ds] (RV (.bool true)) := by
 refine Fun.w 87 Try.func3 fun w g0 _ => ?_
 refine callP (laws_big_f ds).k ?_
 refine cnd (fun hb => ?_) (fun hb => ?_)
 ·exact resV (by first | rfl | (simp; done) | (exfalso; first | omega | (simp_all; done)))
 ·refine callE (α := List Int) (sz := 1) (F := fun p => p.map dInt) (Pr := fun p => p.length = 12 ∧ ∀ x ∈ p, 0 ≤ x ∧ x < 10000) (spec_DrawPlaces_f ds hby (by simp at hb; omega)).k (fun r hr => by obtain ⟨p, h1, h2, h3⟩ := hr; exact ⟨p, ⟨h1, h2⟩, h3⟩) fun p hp => ?_
  obtain ⟨hpl, hpr⟩ := hp
  obtain ⟨p0, h0p⟩ : ∃ x, p[0]? = some x := at_of (by omega)
  obtain ⟨p1, h1p⟩ : ∃ x, p[1]? = some x := at_of (by omega)
  obtain ⟨p2, h2p⟩ : ∃ x, p[2]? = some x := at_of (by omega)
  have hr0 := hpr p0 (List.mem_of_getElem? h0p)
  have hr1 := hpr p1 (List.mem_of_getElem? h1p)
  have hr2 := hpr p2 (List.mem_of_getElem? h2p)
  have hm2 : p2.tmod 99 = p2 % 99 := Int.tmod_eq_emod_of_nonneg hr2.1
  obtain ⟨⟨hw1, hw2, hw3⟩, hw4⟩ := wb_of hr0.1 hr1.1 hr2.1
  have q0 : Q (SmInsSSS haltAl) := ⟨⟨by simp [haltAl], fun x hx => by rw [List.mem_singleton.1 hx]; exact ⟨by simp, fun y hy => by rw [List.mem_singleton.1 hy]; simp [SmInsS]⟩⟩⟩
  have qh0 : Q (SmHost (hostNew haltAl)) := inferInstance
  have qv0 : Q (SmMove (moveNew 0)) := ⟨sm_moveNew 0⟩
  have c0 := spec_HostNew_f haltAl
  have c1 := impl_MoveNew_f 0
  have c2 := impl_MoveCopy_f (hostNew haltAl) (moveNew 0) (p0.tmod 8)
  have qh1 : Q (SmHost (wbHost (p0.tmod 8)).1) := by unfold wbHost; infer_instance
  have qv1 : Q (SmMove (wbHost (p0.tmod 8)).2) := by unfold wbHost; infer_instance
  have qh2 : Q (SmHost (wbPoke (p0.tmod 8) (p1.tmod 4) (1 + p2.tmod 99))) := by unfold wbPoke; exact ⟨sm_hostPoke qh1.h⟩
  have c3 := impl_MoveLeft_f (wbHost (p0.tmod 8)).1 (wbHost (p0.tmod 8)).2
  have c4 := impl_HostPoke_f (wbHost (p0.tmod 8)).1 0 (p0.tmod 8) (p1.tmod 4) (1 + p2.tmod 99)
  have c5 := impl_MoveLeft_f (wbPoke (p0.tmod 8) (p1.tmod 4) (1 + p2.tmod 99)) (wbHost (p0.tmod 8)).2
  have c6 := impl_MoveImage_f (wbPoke (p0.tmod 8) (p1.tmod 4) (1 + p2.tmod 99)) (wbHost (p0.tmod 8)).2
  have qi : Q (SmMon ((moveImage (wbPoke (p0.tmod 8) (p1.tmod 4) (1 + p2.tmod 99)) (wbHost (p0.tmod 8)).2).getD noMon)) := inferInstance
  change Fun _ _ _ (RG [.a (rHost (wbHost (p0.tmod 8)).1), .a (rMove (wbHost (p0.tmod 8)).2), _]) at c2
  change Fun _ _ _ (RG [.a (rHost (wbPoke (p0.tmod 8) (p1.tmod 4) (1 + p2.tmod 99))), _]) at c4
  generalize wbPoke (p0.tmod 8) (p1.tmod 4) (1 + p2.tmod 99) = h2 at *
  generalize (wbHost (p0.tmod 8)).1 = h1 at *
  generalize (wbHost (p0.tmod 8)).2 = v1 at *
  generalize (moveCopy (hostNew haltAl) (moveNew 0) (p0.tmod 8)).isSome = b1 at *
  generalize (hostPoke h1 0 (p0.tmod 8) (p1.tmod 4) (1 + p2.tmod 99)).isSome = b2 at *
  generalize hi : (moveImage h2 v1).getD noMon = xi at *
  generalize (moveImage h2 v1).isSome = b3 at *
  generalize hostNew haltAl = hh0 at *
  generalize moveNew 0 = vv0 at *
  generalize moveLeft h1 v1 = l1 at *
  generalize moveLeft h2 v1 = l2 at *
  have qo : Q (SmIntSS xi.Out) := inferInstance
  have c7 := spec_CellAt_f xi.Out (p0.tmod 8) (p1.tmod 4)
  rw [hw4] at c7
  first | refine ixm (by assumption) ?_ | refine bnd ?_ | refine bndi ?_ | refine ixkq (fun y17 hy17 qy17 ly17 => ?_) | refine ixiq (fun y17 hy17 qy17 ly17 => ?_)
  first | refine ixs ?_ | refine ixo (by assumption) ?_ | refine ixoq (fun z1 hz1 qz1 lz1 => ?_) | skip
  refine nz ?_
  refine callG (c0).k ?_
  refine regT [9, 10] [9, 10] [] (.quiet 2 1 (.quiet 0 0 (.fork (.alt 1 (.fork (.alt 3 (.quiet 4 1 (.quiet 5 1 (.quiet 6 1 (.quiet 7 1 (.fork (.alt 8 (.fork (.alt 9 (.fork (.alt 10 (.quiet 11 1 .done) .stop)) .stop)) .stop)))))) (.alt 8 (.fork (.alt 3 (.quiet 4 1 (.quiet 5 1 (.quiet 6 1 (.quiet 7 1 (.fork (.alt 9 (.fork (.alt 10 (.quiet 11 1 .done) .stop)) .stop)))))) .stop)) .stop))) (.alt 8 (.fork (.alt 1 (.fork (.alt 3 (.quiet 4 1 (.quiet 5 1 (.quiet 6 1 (.quiet 7 1 (.fork (.alt 9 (.fork (.alt 10 (.quiet 11 1 .done) .stop)) .stop)))))) .stop)) .stop)) .stop))))) ?_
  repeat' first | exact True.intro | refine And.intro ?_ ?_ | (intro _ _) | refine callG (c1).k ?_ | refine callG (c2).k ?_
  all_goals (
   refine callL (c3).k ?_
   refine regT [15] [15] [] (.quiet 1 1 (.quiet 2 1 (.quiet 6 1 (.quiet 0 0 (.quiet 3 0 (.quiet 4 0 (.quiet 5 0 (.quiet 7 0 (.quiet 8 0 (.quiet 9 0 (.quiet 10 0 (.fork (.alt 11 (.quiet 12 1 (.quiet 13 1 (.quiet 14 1 (.fork (.alt 15 .done .stop))))) .stop))))))))))))) ?_
   repeat' first | exact True.intro | refine And.intro ?_ ?_ | (intro _ _) | refine ixm (by assumption) ?_ | refine bnd ?_ | refine bndi ?_ | refine ixkq (fun y40 hy40 qy40 ly40 => ?_) | refine ixiq (fun y40 hy40 qy40 ly40 => ?_) | refine ixs ?_ | refine ixo (by assumption) ?_ | refine ixoq (fun z2 hz2 qz2 lz2 => ?_) | refine nz ?_ | refine ixkq (fun y44 hy44 qy44 ly44 => ?_) | refine ixiq (fun y44 hy44 qy44 ly44 => ?_) | refine ixoq (fun z3 hz3 qz3 lz3 => ?_) | refine rng ?_ | refine callG (c4).k ?_
   refine callL (c5).k ?_
   refine callG (c6).k ?_
   refine regQ ?_
   refine cnd (fun hg1 => ?_) (fun hg1 => ?_)
   ·refine len ?_
    refine cnd (fun hg6 => ?_) (fun hg6 => ?_)
    ·refine len ?_
     refine cnd (fun hg11 => ?_) (fun hg11 => ?_)
     ·first | refine ixm (by assumption) ?_ | refine bnd ?_ | refine bndi ?_ | refine ixkq (fun y76 hy76 qy76 ly76 => ?_) | refine ixiq (fun y76 hy76 qy76 ly76 => ?_)
      first | refine ixs ?_ | refine ixo (by assumption) ?_ | refine ixoq (fun z4 hz4 qz4 lz4 => ?_) | skip
      refine nz ?_
      refine callQ (c7).k ?_
      first | refine ixm (by assumption) ?_ | refine bnd ?_ | refine bndi ?_ | refine ixkq (fun y81 hy81 qy81 ly81 => ?_) | refine ixiq (fun y81 hy81 qy81 ly81 => ?_)
      first | refine ixs ?_ | refine ixo (by assumption) ?_ | refine ixoq (fun z5 hz5 qz5 lz5 => ?_) | skip
      refine nz ?_
      refine rng ?_
      exact resV (by first | rfl | (simp; done) | (exfalso; first | omega | (simp_all; done)))
     ·exact resV (by first | rfl | (simp; done) | (exfalso; first | omega | (simp_all; done)))
    ·exact resV (by first | rfl | (simp; done) | (exfalso; first | omega | (simp_all; done)))
   ·exact resV (by first | rfl | (simp; done) | (exfalso; first | omega | (simp_all; done))))
end Go.Proofs.Ytcmoifejjodgcaa.T

