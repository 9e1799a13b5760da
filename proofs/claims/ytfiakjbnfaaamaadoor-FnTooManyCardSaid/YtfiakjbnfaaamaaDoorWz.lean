/- The reference's drawing of numbers in the lifted walk. Condition of the rules: a list of bytes that is read only. -/
import Derived.Test.YtfiakjbnfaaamaaDoorWy
import Derived.Test.YtfiakjbnfaaamaaDoorT3
namespace Go.Proofs.YtfiakjbnfaaamaaDoor.T
open Go Go.RowKit
set_option linter.unusedVariables false
set_option linter.unusedSimpArgs false
set_option maxRecDepth 100000
set_option maxHeartbeats 1000000

abbrev curRow (ds : List D) (i h : Int) : List C := [.ro (.sl 1 ds), .own (.v (.int .i64 i)), .own (.v (.int .i64 h))]
/-- The cursor's root with other numbers. -/
def St.cur (st : St) (K : Nat) (ds : List D) (i h : Int) : St := (st.kill (fun pl => pl.k == K) (fun _ => false)).setRoot K ⟨true, curRow ds i h⟩

section
variable {w0 : World} {g0 : Gh} {st : St} {a : Act} {w w' : World} {g : Gh}

theorem Rel.touch (hR : Rel w0 g0 st a w g) {K : Nat} {ds : List D} {i h i' h' : Int} (hroot : st.root K = some ⟨true, curRow ds i h⟩) {v : Value} (hs : CurStep (g.ad K []).1 w w') (hc : Cur w' (g.ad K []).1 (g.ad K []).2 v i' h') (hv : v = g.cv K [] 0) :
    ∃ g', Rel w0 g0 (st.cur K ds i' h') a w' g' := by
  let g' : Gh := { g with cv := fun k p q => if k = K ∧ p = [] then (if q = 1 then .int .i64 i' else if q = 2 then .int .i64 h' else g.cv k p q) else g.cv k p q }
  obtain ⟨m1, m2, m3⟩ := hR.rt.mem K _ hroot rfl
  have hne : ∀ b, g.o b ≠ .box K → w'.heap[b]? = w.heap[b]? := fun b hb => hs.other b fun e => by subst e; exact hb m1
  have hcv : ∀ k p q, k ≠ K → g'.cv k p q = g.cv k p q := fun k p q h => if_neg fun e => h e.1
  have hA : Agree w g w' g' (fun pl => pl.k == K) (fun _ => false) := ⟨fun b hb => ⟨hb, hne b (by rw [hb]; simp)⟩, fun pl hp => hcv _ _ _ (by simpa using hp), fun pl hp => rfl⟩
  have hroots : ∀ k' r', (st.cur K ds i' h').root k' = some r' → (k' = K ∧ r' = ⟨true, curRow ds i' h'⟩) ∨ (k' ≠ K ∧ ∃ r1, st.root k' = some r1 ∧ r' = r1.kill fun pl => pl.k == K) := fun k' r' h => by
    unfold St.cur at h
    rw [St.root_setRoot] at h
    split at h
    · rename_i e1
      simp only [Option.some.injEq] at h
      exact .inl ⟨e1, h.symm⟩
    · rename_i e1
      rw [St.root_kill, Option.map_eq_some_iff] at h
      obtain ⟨r1, h1, h2⟩ := h
      exact .inr ⟨e1, r1, h1, h2.symm⟩
  refine ⟨g', hR.change hA rfl ⟨fun k' r' hk' q c hc' => ?_, fun k' r' hk' hm => ?_⟩ ?_⟩
  · rcases hroots k' r' hk' with ⟨rfl, rfl⟩ | ⟨h1, r1, h3, rfl⟩
    · match q, hc' with
      | 0, hc' =>
        cases hc'
        have h4 : Ro w g.o (.sl 1 ds) (g.cv k' [] 0) := hR.rt.cell k' _ hroot 0 _ rfl
        show Ro w' g'.o (.sl 1 ds) (g'.cv k' [] 0)
        simp only [g', and_self, if_true]
        exact Ro.mono hA.ro h4
      | 1, hc' =>
        cases hc'
        exact Ow.v [] 1 _ rfl (by simp [g'])
      | 2, hc' =>
        cases hc'
        exact Ow.v [] 2 _ rfl (by simp [g'])
      | q + 3, hc' => simp [curRow] at hc'
    · simp only [Rt.kill, List.getElem?_map, Option.map_eq_some_iff] at hc'
      obtain ⟨c1, h4, rfl⟩ := hc'
      have h5 := hR.rt.cell k' r1 h3 q c1 h4
      cases c1 with
      | ro d => show Ro w' g'.o d _; rw [hcv _ _ _ h1]; exact Ro.mono hA.ro h5
      | own d =>
        refine Ow.move (g' := g') h5 ⟨hcv _ _ _ h1, fun i r q' => hcv _ _ _ h1, fun i r => rfl, fun b hb => ⟨hb, hne b (by rw [hb]; simp)⟩, fun b i r q' hb => ⟨hb, hne b (by rw [hb]; simp)⟩⟩
      | ref pl =>
        have h6 : g.cv k' [] q = g.cv pl.k pl.p pl.q ∧ (g.cv k' [] q).oneCell' = true := h5
        simp only [C.kill]
        by_cases e : pl.k = K
        · rw [if_pos (by simpa using e)]; trivial
        · rw [if_neg (by simpa using e)]
          show g'.cv k' [] q = g'.cv pl.k pl.p pl.q ∧ (g'.cv k' [] q).oneCell' = true
          rw [hcv _ _ _ h1, hcv _ _ _ e]
          exact h6
      | dead => trivial
  · rcases hroots k' r' hk' with ⟨rfl, rfl⟩ | ⟨h1, r1, h3, rfl⟩
    · refine ⟨m1, hc.fz, fun q hq => ?_⟩
      match q, hq with
      | 0, _ =>
        show w'.cell? (cellAddr (g.ad k' []) 0) = some (g'.cv k' [] 0)
        have := hc.c0
        rw [hv] at this
        simpa [g', cellAddr] using this
      | 1, _ =>
        show w'.cell? (cellAddr (g.ad k' []) 1) = some (g'.cv k' [] 1)
        simpa [g', cellAddr] using hc.c1
      | 2, _ =>
        show w'.cell? (cellAddr (g.ad k' []) 2) = some (g'.cv k' [] 2)
        simpa [g', cellAddr] using hc.c2
      | q + 3, hq => exact absurd hq (by simp [curRow])
    · obtain ⟨n1, ⟨cs, t, n2⟩, n3⟩ := hR.rt.mem k' r1 h3 hm
      have hb : w'.heap[(g.ad k' []).1]? = w.heap[(g.ad k' []).1]? := hne _ (by rw [n1]; simpa using h1)
      refine ⟨n1, ⟨cs, t, by show w'.heap[(g.ad k' []).1]? = _; rw [hb]; exact n2⟩, fun q hq => ?_⟩
      show w'.cell? (cellAddr (g.ad k' []) q) = some (g'.cv k' [] q)
      rw [hcv _ _ _ h1, ← n3 q (by simpa [Rt.kill] using hq)]
      exact World.cell?_of_block (w := w) hb
  · have hk0 := hR.ks
    refine ⟨hs.os.trans hk0.os, hs.tape.trans hk0.tape, hs.output.trans hk0.output, by rw [hs.size]; exact hk0.size, fun b hb hx => ?_, fun b hb => hk0.fresh b (by rw [← hs.size]; exact hb), fun b hb hx => hk0.old b (by rw [← hs.size]; exact hb) hx, ⟨fun q => ?_, hk0.pin.2⟩, hk0.nobox⟩
    · obtain ⟨h1, h2⟩ := hk0.block b hb hx
      exact ⟨by rw [hne b (by rw [h2]; rcases hx with hx | hx <;> rw [hx] <;> simp)]; exact h1, h2⟩
    · have hpK : pinK ≠ K := fun e => by subst e; exact hk0.nobox _ m1
      rw [hcv _ _ _ hpK]; exact hk0.pin.1 q

/-- The bytes of a list of bytes. -/
def isBytes (ds : List D) : Prop := ∀ d ∈ ds, ∃ z : Nat, z < 256 ∧ d = .v (.int .u8 z)
theorem ro_inv {w : World} {o : Nat → Tag} {x u : Value} (h : Ro w o (.v x) u) : u = x := by
  cases h
  rfl
theorem bytes_of {w : World} {o : Nat → Tag} {ds : List D} {v : Value} (h : Ro w o (.sl 1 ds) v) (hb : isBytes ds) : ∃ ad n c, v = .slice ad n c ∧ n = ds.length ∧ Bytes w ad n ∧ (∀ b off, 0 < n → ad = some ⟨b, off, none⟩ → o b = .ro) ∧ (0 < n → ∃ b off, ad = some ⟨b, off, none⟩) := by
  cases h with
  | nil _ ad c => exact ⟨ad, 0, c, rfl, rfl, fun k hk => by omega, fun b off h => by omega, fun h => by omega⟩
  | sl _ _ b off n c us hn hm ho hrow hcell hel =>
    refine ⟨_, n, c, rfl, hn.symm, fun k hk => ⟨b, off, rfl, ?_⟩, fun b2 off2 _ e => ?_, fun _ => ⟨b, off, rfl⟩⟩
    · have hk' : k < ds.length := by omega
      obtain ⟨z, hz, hd⟩ := hb ds[k] (List.getElem_mem hk')
      have h1 := hel k ds[k] (List.getElem?_eq_getElem hk') 0 (.v (.int .u8 z)) (by rw [hd]; rfl)
      have h2 := hcell k (by omega)
      refine ⟨z, hz, ?_⟩
      rw [h2]
      have h3 := ro_inv h1
      simp only [Nat.mul_one, Nat.add_zero] at h3
      rw [h3]
    · simp only [Option.some.injEq, Addr.mk.injEq, and_true] at e
      rw [← e.1]; exact ho

theorem TL.below {ops : Array Oper} {o : Oper} {rest : List Oper} {Q : St → Prop} (hg : yes ops st o) {x y : Operand} {tys : Array TypeId}
    (ho : o.op = .call { callee := .value (.func 10), args := [x, y].toArray, argTypes := tys }) {K : Nat} (hx : T.opd 0 st x = some (.one (.ptr ⟨K, [], 0⟩))) (hy : T.opd 0 st y = some (I 10000))
    {ds : List D} {i h : Int} (hroot : st.root K = some ⟨true, curRow ds i h⟩) (hby : isBytes ds) (hn : ds.length ≤ 1048576) (hi : 0 ≤ i)
    (hq : ∀ z i' h', 0 ≤ z → z < 10000 → 0 ≤ i' → TL Tryd.prog w0 g0 ops rest ((st.cur K ds i' h').put o.dst (I z)) Q) : TL Tryd.prog w0 g0 ops (o :: rest) st Q := fun a w g hR Q' hQ => wpList_step fun K' hK => by
  rw [if_pos (yes_of hg hR)]
  unfold Oper.wp
  rw [run_enter hR ho rfl Tryd.func10 rfl (by decide +kernel) w]
  obtain ⟨m1, m2, m3⟩ := hR.rt.mem K _ hroot rfl
  have hRo : Ro w g.o (.sl 1 ds) (g.cv K [] 0) := hR.rt.cell K _ hroot 0 _ rfl
  have ho1 : Ow w g K [] 1 (.v (.int .i64 i)) := hR.rt.cell K _ hroot 1 _ rfl
  have ho2 : Ow w g K [] 2 (.v (.int .i64 h)) := hR.rt.cell K _ hroot 2 _ rfl
  have e1 : g.cv K [] 1 = .int .i64 i := by cases ho1; assumption
  have e2 : g.cv K [] 2 = .int .i64 h := by cases ho2; assumption
  obtain ⟨ad, n, c, ev, en, hB, hro, had⟩ := bytes_of hRo hby
  have hy' := hR.val hy
  have h2 := hR.opd hx
  have hargs : ([x, y].map a.eval).toArray = #[.pointer (some ⟨(g.ad K []).1, (g.ad K []).2, none⟩), .int .i64 10000] := by
    generalize hv : a.eval x = v at h2
    cases h2 with
    | one _ _ h2 =>
      cases h2 with
      | ptr _ => simp [hv, hy', cellAddr]
  rw [hargs]
  have c0 := m3 0 (by simp [curRow])
  have c1 := m3 1 (by simp [curRow])
  have c2 := m3 2 (by simp [curRow])
  rw [e1] at c1
  rw [e2] at c2
  rw [ev] at c0
  have hC : Cur w (g.ad K []).1 (g.ad K []).2 (.slice ad n c) i h := ⟨by simpa [cellAddr] using c0, by simpa [cellAddr] using c1, by simpa [cellAddr] using c2, m2, hi⟩
  refine (belowC (g.ad K []).1 (g.ad K []).2 ad n c i h (by omega) w hC hB fun b2 off e0 e e3 => ?_).mono fun e w' ⟨z, i', h', he, hz1, hz2, hs, hc⟩ => ?_
  · have := hro b2 off e0 e
    rw [e3, m1] at this
    cases this
  · subst he
    obtain ⟨g', hR'⟩ := hR.touch hroot hs hc ev.symm
    exact hK _ _ (hq z i' h' hz1 hz2 hc.nn _ _ _ (hR'.put (V_mk rfl) o.dst) Q' hQ)

theorem TL.newCur {ops : Array Oper} {o : Oper} {rest : List Oper} {Q : St → Prop} (hg : yes ops st o) {x : Operand} {tys : Array TypeId}
    (ho : o.op = .call { callee := .value (.func 9), args := [x].toArray, argTypes := tys }) {ds : List D} (hx : T.opd 0 st x = some (.one (.c (.ro (.sl 1 ds))))) (hby : isBytes ds) (hn : ds.length ≤ 1048576)
    {k : Nat} (hd : o.dst = some k) (hkp : k < 1000000)
    (hq : ∀ h, TL Tryd.prog w0 g0 ops rest ((st.fresh k ⟨true, curRow ds 0 h⟩).put (some k) (.one (.ptr ⟨k, [], 0⟩))) Q) : TL Tryd.prog w0 g0 ops (o :: rest) st Q := fun a w g hR Q' hQ => wpList_step fun K' hK => by
  rw [if_pos (yes_of hg hR)]
  unfold Oper.wp
  rw [run_enter hR ho rfl Tryd.func9 rfl (by decide +kernel) w]
  have h2 := hR.opd hx
  generalize hv : a.eval x = v at h2
  cases h2 with
  | one _ _ h2 =>
    cases h2 with
    | c _ _ h2 =>
      have hRo : Ro w g.o (.sl 1 ds) v := h2
      obtain ⟨ad, n, c, ev, en, hB, hro, had⟩ := bytes_of hRo hby
      subst ev
      have hcall : Calls Tryd.prog 9 #[.slice ad n c] w fun e w' => ∃ (h : Int) (k : Nat), e = .returned (.pointer (some ⟨w.heap.size, 0, none⟩)) ∧
          w' = (w.drewN k).alloc (.cells #[.slice ad n c, .int .i64 0, .int .i64 h] 48) := by
        by_cases hz : n = 0
        · subst hz; exact curNil ad c w
        · obtain ⟨b, off, rfl⟩ := had (by omega)
          exact curNew b off n c (by omega) w hB
      have hargs : ([x].map a.eval).toArray = #[.slice ad n c] := by simp [hv]
      rw [hargs]
      refine hcall.mono fun e w' ⟨h, kk, he, hw⟩ => ?_
      subst he
      subst hw
      have hL : Later w (w.drewN kk) := ⟨rfl, rfl, rfl, Nat.le_refl _, fun _ _ => rfl⟩
      have hR1 := hR.later hL
      obtain ⟨g', hR', had'⟩ := hR1.box (k := k) hkp (cells := #[.slice ad n c, .int .i64 0, .int .i64 h]) (e := 48) (row := [C.ro (.sl 1 ds), .ro (.v (.int .i64 0)), .ro (.v (.int .i64 h))].map (boxC k)) (by simp) (fun q c' u hq hu => by
        rw [List.getElem?_map, Option.map_eq_some_iff] at hq
        obtain ⟨c1, hq, rfl⟩ := hq
        refine BoxC.of_val ?_
        match q, hq, hu with
        | 0, hq, hu =>
          cases hq; cases hu
          show Ro (w.drewN kk) (g.later w.heap.size (w.drewN kk).heap.size).o (.sl 1 ds) (.slice ad n c)
          refine Ro.mono (w := w) (w' := w.drewN kk) (o := g.o) (o' := (g.later w.heap.size (w.drewN kk).heap.size).o) (fun b hb => ⟨?_, rfl⟩) hRo
          have := hR.ltOf (b := b) (by rw [hb]; simp)
          simp [Gh.later, this, hb]
        | 1, hq, hu => cases hq; cases hu; exact Ro.v _ rfl
        | 2, hq, hu => cases hq; cases hu; exact Ro.v _ rfl
        | q + 3, hq, hu => simp at hq)
      refine hK _ _ (hq h _ _ g' ?_ Q' hQ)
      rw [hd]
      have hp : RepS ((w.drewN kk).alloc (.cells #[.slice ad n c, .int .i64 0, .int .i64 h] 48)) g' (.one (.ptr ⟨k, [], 0⟩)) (.pointer (some ⟨w.heap.size, 0, none⟩)) := by
        have := RepT.ptr (w := (w.drewN kk).alloc (.cells #[.slice ad n c, .int .i64 0, .int .i64 h] 48)) (g := g') ⟨k, [], 0⟩
        simp only [had', cellAddr, Nat.add_zero] at this
        exact .one _ _ this
      exact hR'.put hp (some k)
end
end Go.Proofs.YtfiakjbnfaaamaaDoor.T
