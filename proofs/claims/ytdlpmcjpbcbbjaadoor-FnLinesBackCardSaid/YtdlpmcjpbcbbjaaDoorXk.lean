/- The lifted walk: functions that draw numbers from a cursor that they are handed (root pinB; the bytes behind it lie at root pinK). No condition. -/
import Derived.Test.YtdlpmcjpbcbbjaaDoorWz
namespace Go.Proofs.YtdlpmcjpbcbbjaaDoor.T
open Go Go.RowKit
set_option linter.unusedVariables false
set_option linter.unusedSimpArgs false
set_option maxRecDepth 100000
set_option maxHeartbeats 1000000

/-- A cursor's cells. -/
abbrev cur3 (c0 : C) (i h : Int) : List C := [c0, .own (.v (.int .i64 i)), .own (.v (.int .i64 h))]
abbrev refP : C := .ref ⟨pinK, [], 0⟩
/-- The cursor's first cell tells the bytes. -/
def CurAt (st : St) (K : Nat) (c0 : C) (ds : List D) : Prop := c0 = .ro (.sl 1 ds) ∨ (c0 = refP ∧ K ≠ pinK ∧ st.root pinK = some ⟨false, [.ro (.sl 1 ds)]⟩)
def St.curC (st : St) (K : Nat) (c0 : C) (i h : Int) : St := (st.kill (fun pl => pl.k == K) (fun _ => false)).setRoot K ⟨true, cur3 c0 i h⟩

/-- The world as the callee finds it. -/
structure CurIn (w : World) (g : Gh) (ds : List D) (i h : Int) : Prop where
  out : ∀ b, w.heap.size ≤ b → g.o b = .outer
  own : ∀ b, b < w.heap.size → g.o b = .ro ∨ (b = (g.ad pinB []).1 ∧ g.o b = .box pinB)
  c0 : Ro w g.o (.sl 1 ds) (g.cv pinK [] 0)
  one : (g.cv pinK [] 0).oneCell' = true
  e0 : g.cv pinB [] 0 = g.cv pinK [] 0
  e1 : g.cv pinB [] 1 = .int .i64 i
  e2 : g.cv pinB [] 2 = .int .i64 h
  tag : g.o (g.ad pinB []).1 = .box pinB
  blk : ∃ cs e, w.heap[(g.ad pinB []).1]? = some (.cells cs e (0, 0))
  cell : ∀ q, q < 3 → w.cell? (cellAddr (g.ad pinB []) q) = some (g.cv pinB [] q)

structure GivesC (w : World) (g : Gh) (k : Nat) (r : Res) (v : Value) (w' : World) (g' : Gh) (i' h' : Int) : Prop where
  os : w'.os = w.os
  tape : w'.tape = w.tape
  output : w'.output = w.output
  size : w.heap.size ≤ w'.heap.size
  block : ∀ b, b < w.heap.size → b ≠ (g.ad pinB []).1 → w'.heap[b]? = w.heap[b]?
  own : ∀ b, w.heap.size ≤ b → b < w'.heap.size → g'.o b = .ro ∨ (g'.o b).root? = some k
  old : ∀ b, (g'.o b).root? = some k → w.heap.size ≤ b ∧ b < w'.heap.size
  row : ∀ (q : Nat) d, r.row[q]? = some d → Ow w' g' k [] q d
  val : RepS w' g' (r.val k) v
  blk : ∃ cs e, w'.heap[(g.ad pinB []).1]? = some (.cells cs e (0, 0))
  c0 : w'.cell? (cellAddr (g.ad pinB []) 0) = some (g.cv pinK [] 0)
  c1 : w'.cell? (cellAddr (g.ad pinB []) 1) = some (.int .i64 i')
  c2 : w'.cell? (cellAddr (g.ad pinB []) 2) = some (.int .i64 h')

/-- THE CONTRACT of a function that draws. -/
def FunC (P : Program) (f : FuncId) (ds : List D) (pts : List TS) (R : Res → Prop) : Prop :=
  ∀ (w : World) (g : Gh) (args : Array Value) (k : Nat) (i h : Int), 0 ≤ i → CurIn w g ds i h → args.size = pts.length → (∀ (j : Nat) t u, pts[j]? = some t → args[j]? = some u → RepS w g t u) →
    Calls P f args w fun e w' => ∃ v r g' i' h', e = .returned v ∧ R r ∧ 0 ≤ i' ∧ GivesC w g k r v w' g' i' h'

/-- A drawn value that hangs on no memory. -/
abbrev RDr {α : Type} (T : α → TS) (p : α → Prop) : Res → Prop := fun r => ∃ x, p x ∧ r = ⟨[], fun _ => T x⟩

/-- How such a function ends. -/
def EndsC (P : Program) (fn : Func) (R : Res → Prop) (e : Exit) (st : St) : Prop :=
  (e = .normal ∨ e = .ret) ∧ ∃ (rvs : List ResultVar) (tvs : List TV) (row : List D) (i' h' : Int), fn.results = rvs.toArray ∧ rvs.length ≤ 4 ∧ rvs.map (resTV P st) = tvs.map some ∧
    (tvs.flatMap refV).Nodup ∧ contents st (tvs.flatMap refV) = some row ∧ st.root pinB = some ⟨true, cur3 refP i' h'⟩ ∧ 0 ≤ i' ∧ R ⟨row, fun k => resT (tvs.map (gathV (tvs.flatMap refV) k))⟩

/-- The state in which such a function's body begins. -/
abbrev stC (tm : List TS) (ds : List D) (i h : Int) : St := ⟨tm, [(pinB, ⟨true, cur3 refP i h⟩), (pinK, ⟨false, [.ro (.sl 1 ds)]⟩)]⟩

section
variable {P : Program} {w w' : World} {g0 g : Gh} {st : St} {a : Act} {ds : List D} {i h : Int}

theorem gives_c (hR : Rel w g0 st a w' g) (hI : CurIn w g0 ds i h) {srcs : List (Nat × Nat)} (hn : srcs.Nodup) {row : List D} (hc : contents st srcs = some row) {i' h' : Int}
    (hB : st.root pinB = some ⟨true, cur3 refP i' h'⟩) (k : Nat) {T : Nat → TS} {v : Value} (hv : RepS w' (g.gather srcs k) (T k) v) : GivesC w g0 k ⟨row, T⟩ v w' (g.gather srcs k) i' h' := by
  obtain ⟨m1, m2, m3⟩ := hR.rt.mem pinB _ hB rfl
  have had := hR.ks.pin.2
  rw [had] at m1 m2 m3
  have hblk : ∀ b, b < w.heap.size → b ≠ (g0.ad pinB []).1 → w'.heap[b]? = w.heap[b]? ∧ g.o b = .ro := fun b hb hne => by
    have h1 : g0.o b = .ro := by
      rcases hI.own b hb with h | h
      · exact h
      · exact absurd h.1 hne
    obtain ⟨h2, h3⟩ := hR.ks.block b hb (.inl h1)
    exact ⟨h2, h3.trans h1⟩
  have o1 : Ow w' g pinB [] 1 (.v (.int .i64 i')) := hR.rt.cell pinB _ hB 1 _ rfl
  have o2 : Ow w' g pinB [] 2 (.v (.int .i64 h')) := hR.rt.cell pinB _ hB 2 _ rfl
  have o0 : g.cv pinB [] 0 = g.cv pinK [] 0 ∧ (g.cv pinB [] 0).oneCell' = true := hR.rt.cell pinB _ hB 0 refP rfl
  have e1 : g.cv pinB [] 1 = .int .i64 i' := by cases o1; assumption
  have e2 : g.cv pinB [] 2 = .int .i64 h' := by cases o2; assumption
  have e0 : g.cv pinB [] 0 = g0.cv pinK [] 0 := o0.1.trans (hR.ks.pin.1 0)
  refine ⟨hR.ks.os, hR.ks.tape, hR.ks.output, hR.ks.size, fun b hb hne => (hblk b hb hne).1, fun b h1 h2 => ?_, fun b hb => ⟨?_, ?_⟩, fun q d hq => ?_, hv, m2, ?_, ?_, ?_⟩
  · simp only [Gh.gather]
    cases ht : g.o b with
    | ro => exact .inl rfl
    | outer =>
      have := (hR.ks.old b h2 ht).1
      omega
    | box k' => exact .inl rfl
    | lies k' p q =>
      cases p with
      | nil =>
        simp only
        split
        · exact .inr rfl
        · exact .inl rfl
      | cons x r =>
        obtain ⟨q1, i⟩ := x
        simp only
        split
        · exact .inr rfl
        · exact .inl rfl
  · rcases Nat.lt_or_ge b w.heap.size with h | h
    · by_cases hne : b = (g0.ad pinB []).1
      · subst hne
        simp only [Gh.gather, m1] at hb
        cases hb
      · have := (hblk b h hne).2
        simp only [Gh.gather, this] at hb
        cases hb
    · exact h
  · rcases Nat.lt_or_ge b w'.heap.size with h | h
    · exact h
    · have := hR.ks.fresh b h
      simp only [Gh.gather, this] at hb
      cases hb
  · obtain ⟨s, h1, h2⟩ := (contents_get hc).2 q d hq
    have hO : Ow w' g s.1 [] s.2 d := (hR.cellAt h2).1 d rfl
    have hi := idxOf_get hn h1
    refine Ow.move hO ⟨?_, fun i r q' => ?_, fun i r => ?_, fun b hb => ⟨?_, rfl⟩, fun b i r q' hb => ⟨?_, rfl⟩⟩
    · simp [Gh.gather, h1]
    · simp [Gh.gather, h1]
    · simp [Gh.gather, h1]
    · simp only [Gh.gather, hb, hi]
    · simp only [Gh.gather, hb, List.nil_append, hi]
  · rw [m3 0 (by simp), e0]
  · rw [m3 1 (by simp), e1]
  · rw [m3 2 (by simp), e2]

theorem FunC.of {f : FuncId} {fn : Func} {c : Code} {pts : List TS} {R : Res → Prop} (hf : P.funcs[f]? = some fn) (hb : fn.body = some c) (hn : pts.length ≤ fn.ntmps)
    (hw : ∀ w g0 i h, 0 ≤ i → TC P w g0 c (stC (pts ++ List.replicate (fn.ntmps - pts.length) (.one .dead)) ds i h) (EndsC P fn R)) : FunC P f ds pts R := by
  intro w g args k i h hi hI hsz hargs
  have hroot : ∀ k' r, (stC (pts ++ List.replicate (fn.ntmps - pts.length) (.one .dead)) ds i h).root k' = some r → (k' = pinB ∧ r = ⟨true, cur3 refP i h⟩) ∨ (k' = pinK ∧ r = ⟨false, [.ro (.sl 1 ds)]⟩) := fun k' r hr => by
    simp only [St.root, List.find?_cons, List.find?_nil] at hr
    split at hr
    · rename_i e
      simp only [Option.map_some, Option.some.injEq] at hr
      exact .inl ⟨(by simpa using e : pinB = k').symm, hr.symm⟩
    · split at hr
      · rename_i e
        simp only [Option.map_some, Option.some.injEq] at hr
        exact .inr ⟨(by simpa using e : pinK = k').symm, hr.symm⟩
      · cases hr
  refine calls_of_wp hf hb (wp_mono (hw w g i h hi _ w g ⟨fun i tv hi => ?_, ?_, rfl, ⟨fun k' r hk' q c hq => ?_, fun k' r hk' hm => ?_⟩, ⟨rfl, rfl, rfl, Nat.le_refl _, fun b hb _ => ⟨rfl, rfl⟩, fun b hb => hI.out b hb, fun b hb ho => ?_, ⟨fun _ => rfl, rfl⟩, fun b hb => ?_⟩⟩) fun e a w' ⟨st, g', hE, hR⟩ => ?_)
  · by_cases hlt : i < pts.length
    · rw [List.getElem?_append_left hlt] at hi
      have hi' : i < args.size := by omega
      have h1 : (args ++ Array.replicate (fn.ntmps - args.size) undef).getD i undef = args[i] := by
        rw [Array.getD_eq_getD_getElem?, Array.getElem?_append_left hi', Array.getElem?_eq_getElem hi']
        rfl
      show RepS w g tv ((args ++ Array.replicate (fn.ntmps - args.size) undef).getD i undef)
      rw [h1]
      exact hargs i tv _ hi (Array.getElem?_eq_getElem hi')
    · rw [List.getElem?_append_right (by omega), List.getElem?_replicate] at hi
      split at hi
      · simp only [Option.some.injEq] at hi
        subst hi
        exact .one _ _ (.dead _)
      · cases hi
  · show (args ++ Array.replicate (fn.ntmps - args.size) undef).size = _
    simp [hsz]
  · rcases hroot k' r hk' with ⟨rfl, rfl⟩ | ⟨rfl, rfl⟩
    · match q, hq with
      | 0, hq => cases hq; exact ⟨hI.e0, by rw [hI.e0]; exact hI.one⟩
      | 1, hq => cases hq; exact Ow.v [] 1 _ rfl hI.e1
      | 2, hq => cases hq; exact Ow.v [] 2 _ rfl hI.e2
      | q + 3, hq => simp at hq
    · match q, hq with
      | 0, hq => cases hq; exact hI.c0
      | q + 1, hq => simp at hq
  · rcases hroot k' r hk' with ⟨rfl, rfl⟩ | ⟨rfl, rfl⟩
    · exact ⟨hI.tag, hI.blk, fun q hq => hI.cell q (by simpa using hq)⟩
    · cases hm
  · rcases hI.own b hb with h1 | h1
    · rw [h1] at ho; cases ho
    · rw [ho] at h1; cases h1.2
  · rcases Nat.lt_or_ge b w.heap.size with h1 | h1
    · rcases hI.own b h1 with h2 | h2
      · rw [h2] at hb; cases hb
      · rw [h2.2] at hb
        simp at hb
    · rw [hI.out b h1] at hb; cases hb
  · obtain ⟨he, rvs, tvs, row, i', h', h1, h2, h3, h4, h5, h6, h7, h9⟩ := hE
    have hlen : rvs.length = tvs.length := by
      have := congrArg List.length h3
      simpa using this
    obtain ⟨us, hul, hur, hrep0⟩ := hR.resultList h3
    have hrun := run_results (P := P) h1 h2 a.tmps w' hul hur
    have hrep : ∀ (i : Nat) t u, tvs[i]? = some t → us[i]? = some u → RepT w' (g'.gather (tvs.flatMap refV) k) (gathV (tvs.flatMap refV) k t) u := fun i t u hi hu => gathV_rep (hrep0 i t u hi hu)
    have hval : RepS w' (g'.gather (tvs.flatMap refV) k) (resT (tvs.map (gathV (tvs.flatMap refV) k))) (tupV us) := by
      have htup : ∀ l : List Value, l.length = tvs.length → (∀ (i : Nat) t u, tvs[i]? = some t → l[i]? = some u → RepT w' (g'.gather (tvs.flatMap refV) k) (gathV (tvs.flatMap refV) k t) u) →
          RepS w' (g'.gather (tvs.flatMap refV) k) (.tup (tvs.map (gathV (tvs.flatMap refV) k))) (.tuple l.toArray) := fun l hl hh =>
        .tup _ _ (by simp [hl]) fun j t u hj hu => by
          rw [List.getElem?_map, Option.map_eq_some_iff] at hj
          obtain ⟨t', hj, rfl⟩ := hj
          exact hh j t' u hj (by simpa using hu)
      have hl := htup us (by omega) hrep
      have hlu : us.length = tvs.length := by omega
      clear hrun hur hrep0 h3 h5 h9 h4
      match us, tvs, hlu with
      | [], [], _ => exact hl
      | [t], [tv], _ => exact .one _ _ (hrep 0 tv _ rfl rfl)
      | _ :: _ :: _, _ :: _ :: _, _ => exact hl
    have hG := gives_c hR hI h4 h5 h6 k (T := fun k => resT (tvs.map (gathV (tvs.flatMap refV) k))) hval
    have hfin : ∃ v, (results fn a.tmps).run P w' = .ok v w' ∧ ∃ v_1 r g' i' h', Ending.returned v = Ending.returned v_1 ∧ R r ∧ 0 ≤ i' ∧ GivesC w g k r v_1 w' g' i' h' := ⟨_, hrun, _, _, _, _, _, rfl, h9, h7, hG⟩
    rcases he with rfl | rfl
    · exact ⟨hR.df, hfin⟩
    · exact ⟨hR.df, hfin⟩

/- THE CALLER's SIDE -/
def Gh.curG (g : Gh) (n K : Nat) : Gh where
  o b := if n ≤ b then .outer else if b = (g.ad K []).1 then .box pinB else .ro
  ad k' _ := if k' = pinB then g.ad K [] else (0, 0)
  cv k' _ q := if k' = pinB then g.cv K [] q else if k' = pinK then g.cv K [] 0 else undef

theorem sl_one {w : World} {o : Nat → Tag} {sz : Nat} {ds : List D} {v : Value} (h : Ro w o (.sl sz ds) v) : v.oneCell' = true := by
  cases h <;> rfl

section
variable {w0 : World} {K : Nat} {c0 : C}

theorem Rel.curRo (hR : Rel w0 g0 st a w g) (hroot : st.root K = some ⟨true, cur3 c0 i h⟩) (hc : CurAt st K c0 ds) : Ro w g.o (.sl 1 ds) (g.cv K [] 0) := by
  rcases hc with rfl | ⟨rfl, hk, hp⟩
  · exact hR.rt.cell K _ hroot 0 _ rfl
  · have h1 : g.cv K [] 0 = g.cv pinK [] 0 ∧ (g.cv K [] 0).oneCell' = true := hR.rt.cell K _ hroot 0 refP rfl
    rw [h1.1]
    exact hR.rt.cell pinK _ hp 0 _ rfl

theorem Rel.curIn (hR : Rel w0 g0 st a w g) (hroot : st.root K = some ⟨true, cur3 c0 i h⟩) (hc : CurAt st K c0 ds) : CurIn w (g.curG w.heap.size K) ds i h := by
  obtain ⟨m1, ⟨cs, t, m2⟩, m3⟩ := hR.rt.mem K _ hroot rfl
  have hlt := lt_of_heap m2
  have hro := hR.curRo hroot hc
  have o1 : Ow w g K [] 1 (.v (.int .i64 i)) := hR.rt.cell K _ hroot 1 _ rfl
  have o2 : Ow w g K [] 2 (.v (.int .i64 h)) := hR.rt.cell K _ hroot 2 _ rfl
  have e1 : g.cv K [] 1 = .int .i64 i := by cases o1; assumption
  have e2 : g.cv K [] 2 = .int .i64 h := by cases o2; assumption
  have hroT : ∀ b, g.o b = .ro → (g.curG w.heap.size K).o b = .ro := fun b hb => by
    have h1 := hR.roLt b hb
    simp only [Gh.curG, if_neg (Nat.not_le.2 h1)]
    rw [if_neg (fun e => by subst e; rw [m1] at hb; cases hb)]
  refine ⟨fun b hb => by simp [Gh.curG, hb], fun b hb => ?_, ?_, ?_, ?_, ?_, ?_, ?_, ?_, ?_⟩
  · simp only [Gh.curG, if_neg (Nat.not_le.2 hb), if_true]
    by_cases e : b = (g.ad K []).1
    · right; exact ⟨e, if_pos e⟩
    · left; exact if_neg e
  · show Ro w (g.curG w.heap.size K).o (.sl 1 ds) ((g.curG w.heap.size K).cv pinK [] 0)
    have : (g.curG w.heap.size K).cv pinK [] 0 = g.cv K [] 0 := by simp [Gh.curG]
    rw [this]
    exact Ro.mono (w := w) (fun b hb => ⟨hroT b hb, rfl⟩) hro
  · have : (g.curG w.heap.size K).cv pinK [] 0 = g.cv K [] 0 := by simp [Gh.curG]
    rw [this]; exact sl_one hro
  · simp [Gh.curG]
  · simpa [Gh.curG] using e1
  · simpa [Gh.curG] using e2
  · simp [Gh.curG, Nat.not_le.2 hlt]
  · have : (g.curG w.heap.size K).ad pinB [] = g.ad K [] := by simp [Gh.curG]
    rw [this]; exact ⟨cs, t, m2⟩
  · intro q hq
    have : (g.curG w.heap.size K).ad pinB [] = g.ad K [] := by simp [Gh.curG]
    rw [this, m3 q (by simpa using hq)]
    simp [Gh.curG]

/-- An argument as the callee sees it. -/
inductive SnapD (st : St) (K : Nat) : TS → TS → Prop
  | cur : SnapD st K (.one (.ptr ⟨K, [], 0⟩)) (.one (.ptr ⟨pinB, [], 0⟩))
  | ro (d : D) : SnapD st K (.one (.c (.ro d))) (.one (.c (.ro d)))
  | ref (pl : Pl) (d : D) (h : st.cellAt pl = some (.own d)) (hw : Whole d) (hk : pl.k ≠ K) : SnapD st K (.one (.c (.ref pl))) (.one (.c (.ro d)))
  | aggRo (ds : List D) : SnapD st K (.one (.agg (ds.map C.ro))) (.one (.agg (ds.map C.ro)))
inductive SnapsD (st : St) (K : Nat) : List TS → List TS → Prop
  | nil : SnapsD st K [] []
  | cons {t t' : TS} {ts ts' : List TS} (h : SnapD st K t t') (hs : SnapsD st K ts ts') : SnapsD st K (t :: ts) (t' :: ts')
theorem SnapsD.get {ts ts' : List TS} (h : SnapsD st K ts ts') : ts'.length = ts.length ∧ ∀ (i : Nat) t', ts'[i]? = some t' → ∃ t, ts[i]? = some t ∧ SnapD st K t t' := by
  induction h with
  | nil => exact ⟨rfl, fun i t' hi => by simp at hi⟩
  | cons h hs ih =>
    refine ⟨by simp [ih.1], fun i t' hi => ?_⟩
    cases i with
    | zero =>
      simp only [List.getElem?_cons_zero, Option.some.injEq] at hi
      subst hi
      exact ⟨_, rfl, h⟩
    | succ i => exact ih.2 i t' (by simpa using hi)

theorem Rel.snapC (hR : Rel w0 g0 st a w g) (hroot : st.root K = some ⟨true, cur3 c0 i h⟩) {t t' : TS} {u : Value} (hs : SnapD st K t t') (hu : RepS w g t u) : RepS w (g.curG w.heap.size K) t' u := by
  obtain ⟨m1, ⟨cs, t, m2⟩, m3⟩ := hR.rt.mem K _ hroot rfl
  have hro : ∀ d v, Ro w g.o d v → Ro w (g.curG w.heap.size K).o d v := fun d v hd => Ro.mono (w := w) (fun b hb => ⟨by
    have h1 := hR.roLt b hb
    simp only [Gh.curG, if_neg (Nat.not_le.2 h1)]
    rw [if_neg (fun e => by subst e; rw [m1] at hb; cases hb)], rfl⟩) hd
  cases hs with
  | cur =>
    cases hu with
    | one _ _ hu =>
      cases hu with
      | ptr _ =>
        have := RepT.ptr (w := w) (g := g.curG w.heap.size K) ⟨pinB, [], 0⟩
        have had : (g.curG w.heap.size K).ad pinB [] = g.ad K [] := by simp [Gh.curG]
        simp only [had] at this
        exact .one _ _ this
  | ro d =>
    cases hu with
    | one _ _ hu =>
      cases hu with
      | c _ _ hu => exact .one _ _ (.c (.ro d) _ (hro d _ hu))
  | ref pl d hc hw hk =>
    cases hu with
    | one _ _ hu =>
      cases hu with
      | c _ _ hu =>
        have h1 : u = g.cv pl.k pl.p pl.q := hu.1
        rw [h1]
        refine .one _ _ (.c (.ro d) _ (((hR.cellAt hc).1 d rfl).roAt hw fun b hb hlt => ?_))
        simp only [Gh.curG, if_neg (Nat.not_le.2 hlt)]
        rw [if_neg (fun e => by
          subst e
          rw [m1] at hb
          simp only [Tag.root?, Option.some.injEq] at hb
          exact hk hb.symm)]
  | aggRo ds =>
    cases hu with
    | one _ _ hu =>
      cases hu with
      | agg _ us hsz hv =>
        refine .one _ _ (.agg _ us hsz fun j c u hj hu => ?_)
        have h1 := hv j c u hj hu
        rw [List.getElem?_map, Option.map_eq_some_iff] at hj
        obtain ⟨d, hj, rfl⟩ := hj
        exact hro d _ h1

/-- The cursor has turned. -/
theorem Rel.turned (hR : Rel w0 g0 st a w g) {i' h' : Int} (hroot : st.root K = some ⟨true, cur3 c0 i h⟩) (hc : CurAt st K c0 ds) (hs : CurStep (g.ad K []).1 w w') (hcw : Cur w' (g.ad K []).1 (g.ad K []).2 (g.cv K [] 0) i' h') :
    ∃ g', Rel w0 g0 (st.curC K c0 i' h') a w' g' := by
  let g' : Gh := { g with cv := fun k p q => if k = K ∧ p = [] then (if q = 1 then .int .i64 i' else if q = 2 then .int .i64 h' else g.cv k p q) else g.cv k p q }
  obtain ⟨m1, m2, m3⟩ := hR.rt.mem K _ hroot rfl
  have hne : ∀ b, g.o b ≠ .box K → w'.heap[b]? = w.heap[b]? := fun b hb => hs.other b fun e => by subst e; exact hb m1
  have hcv : ∀ k p q, k ≠ K → g'.cv k p q = g.cv k p q := fun k p q h => if_neg fun e => h e.1
  have hA : Agree w g w' g' (fun pl => pl.k == K) (fun _ => false) := ⟨fun b hb => ⟨hb, hne b (by rw [hb]; simp)⟩, fun pl hp => hcv _ _ _ (by simpa using hp), fun pl hp => rfl⟩
  have hroots : ∀ k' r', (st.curC K c0 i' h').root k' = some r' → (k' = K ∧ r' = ⟨true, cur3 c0 i' h'⟩) ∨ (k' ≠ K ∧ ∃ r1, st.root k' = some r1 ∧ r' = r1.kill fun pl => pl.k == K) := fun k' r' h => by
    unfold St.curC at h
    rw [St.root_setRoot] at h
    split at h
    · rename_i e1
      simp only [Option.some.injEq] at h
      exact .inl ⟨e1, h.symm⟩
    · rename_i e1
      rw [St.root_kill, Option.map_eq_some_iff] at h
      obtain ⟨r1, h1, h2⟩ := h
      exact .inr ⟨e1, r1, h1, h2.symm⟩
  have hcv0 : g'.cv K [] 0 = g.cv K [] 0 := by simp [g']
  refine ⟨g', hR.change hA rfl ⟨fun k' r' hk' q c hc' => ?_, fun k' r' hk' hm => ?_⟩ ?_⟩
  · rcases hroots k' r' hk' with ⟨rfl, rfl⟩ | ⟨h1, r1, h3, rfl⟩
    · match q, hc' with
      | 0, hc' =>
        cases hc'
        rcases hc with rfl | ⟨rfl, hk, hp⟩
        · have h4 : Ro w g.o (.sl 1 ds) (g.cv k' [] 0) := hR.rt.cell k' _ hroot 0 _ rfl
          show Ro w' g'.o (.sl 1 ds) (g'.cv k' [] 0)
          rw [hcv0]
          exact Ro.mono hA.ro h4
        · have h4 : g.cv k' [] 0 = g.cv pinK [] 0 ∧ (g.cv k' [] 0).oneCell' = true := hR.rt.cell k' _ hroot 0 refP rfl
          show g'.cv k' [] 0 = g'.cv pinK [] 0 ∧ (g'.cv k' [] 0).oneCell' = true
          rw [hcv0, hcv pinK [] 0 (Ne.symm hk)]
          exact h4
      | 1, hc' =>
        cases hc'
        exact Ow.v [] 1 _ rfl (by simp [g'])
      | 2, hc' =>
        cases hc'
        exact Ow.v [] 2 _ rfl (by simp [g'])
      | q + 3, hc' => simp at hc'
    · simp only [Rt.kill, List.getElem?_map, Option.map_eq_some_iff] at hc'
      obtain ⟨c1, h4, rfl⟩ := hc'
      have h5 := hR.rt.cell k' r1 h3 q c1 h4
      cases c1 with
      | ro d => show Ro w' g'.o d _; rw [hcv _ _ _ h1]; exact Ro.mono hA.ro h5
      | own d =>
        refine Ow.move (g' := g') h5 ⟨hcv _ _ _ h1, fun i r q' => hcv _ _ _ h1, fun i r => rfl, fun b hb => ⟨hb, hne b (by rw [hb]; simp)⟩, fun b i r q' hb => ⟨hb, hne b (by rw [hb]; simp)⟩⟩
      | ref pl =>
        have h6 : g.cv k' [] q = g.cv pl.k pl.p pl.q ∧ (g.cv k' [] q).oneCell' = true := h5
        simp only [C.kill]
        by_cases e : pl.k = K
        · rw [if_pos (by simpa using e)]; trivial
        · rw [if_neg (by simpa using e)]
          show g'.cv k' [] q = g'.cv pl.k pl.p pl.q ∧ (g'.cv k' [] q).oneCell' = true
          rw [hcv _ _ _ h1, hcv _ _ _ e]
          exact h6
      | dead => trivial
  · rcases hroots k' r' hk' with ⟨rfl, rfl⟩ | ⟨h1, r1, h3, rfl⟩
    · refine ⟨m1, hcw.fz, fun q hq => ?_⟩
      match q, hq with
      | 0, _ =>
        show w'.cell? (cellAddr (g.ad k' []) 0) = some (g'.cv k' [] 0)
        have := hcw.c0
        rw [hcv0]
        simpa [cellAddr] using this
      | 1, _ =>
        show w'.cell? (cellAddr (g.ad k' []) 1) = some (g'.cv k' [] 1)
        simpa [g', cellAddr] using hcw.c1
      | 2, _ =>
        show w'.cell? (cellAddr (g.ad k' []) 2) = some (g'.cv k' [] 2)
        simpa [g', cellAddr] using hcw.c2
      | q + 3, hq => exact absurd hq (by simp)
    · obtain ⟨n1, ⟨cs, t, n2⟩, n3⟩ := hR.rt.mem k' r1 h3 hm
      have hb : w'.heap[(g.ad k' []).1]? = w.heap[(g.ad k' []).1]? := hne _ (by rw [n1]; simpa using h1)
      refine ⟨n1, ⟨cs, t, by show w'.heap[(g.ad k' []).1]? = _; rw [hb]; exact n2⟩, fun q hq => ?_⟩
      show w'.cell? (cellAddr (g.ad k' []) q) = some (g'.cv k' [] q)
      rw [hcv _ _ _ h1, ← n3 q (by simpa [Rt.kill] using hq)]
      exact World.cell?_of_block (w := w) hb
  · have hk0 := hR.ks
    have hKp : pinK ≠ K := fun e => by subst e; exact hk0.nobox _ m1
    refine ⟨hs.os.trans hk0.os, hs.tape.trans hk0.tape, hs.output.trans hk0.output, by rw [hs.size]; exact hk0.size, fun b hb hx => ?_, fun b hb => hk0.fresh b (by rw [← hs.size]; exact hb), fun b hb hx => hk0.old b (by rw [← hs.size]; exact hb) hx, ⟨fun q => ?_, hk0.pin.2⟩, hk0.nobox⟩
    · obtain ⟨h1, h2⟩ := hk0.block b hb hx
      exact ⟨by rw [hne b (by rw [h2]; rcases hx with hx | hx <;> rw [hx] <;> simp)]; exact h1, h2⟩
    · rw [hcv _ _ _ hKp]; exact hk0.pin.1 q

/-- The world behind a call, but for the cursor. -/
def World.backAt (w' w : World) (b : Nat) : World := { w' with heap := match w.heap[b]? with | some x => w'.heap.setIfInBounds b x | none => w'.heap }
theorem World.backAt_heap {w' w : World} {b : Nat} {x : Obj} (h : w.heap[b]? = some x) : (World.backAt w' w b).heap = w'.heap.setIfInBounds b x := by simp [World.backAt, h]

theorem CurAt.put (hc : CurAt st K c0 ds) (dst : Option Tmp) (t : TS) : CurAt (st.put dst t) K c0 ds := by
  rcases hc with h | ⟨h1, h2, h3⟩
  · exact .inl h
  · refine .inr ⟨h1, h2, ?_⟩
    rw [← h3]
    cases dst <;> rfl
theorem root_put (st : St) (dst : Option Tmp) (t : TS) (k : Nat) : (st.put dst t).root k = st.root k := by cases dst <;> rfl

theorem TL.drawP {ops : Array Oper} {o : Oper} {rest : List Oper} {Q : St → Prop} (hg : yes ops st o) {f : FuncId} {args : List Operand} {tys : Array TypeId} {fn : Func}
    (ho : o.op = .call { callee := .value (.func f), args := args.toArray, argTypes := tys }) (hf : P.funcs[f]? = some fn) (hb : fn.body.isNone = false)
    (hn : (fn.name == "runtime.NumGoroutine") = false) {ts ts' : List TS} (hx : opds st args = some ts) (hroot : st.root K = some ⟨true, cur3 c0 i h⟩) (hc0 : CurAt st K c0 ds) (hi : 0 ≤ i) (hs : SnapsD st K ts ts')
    {α : Type} {T : α → TS} {p : α → Prop} (hc : FunC P f ds ts' (RDr T p)) (hfr : ∀ x, ∃ v, freeS (T x) = some v) {S : α → Int → Int → St}
    (hS : ∀ x i' h', (st.put o.dst (T x)).curC K c0 i' h' = S x i' h')
    (hq : ∀ x i' h', p x → 0 ≤ i' → TL P w0 g0 ops rest (S x i' h') Q) : TL P w0 g0 ops (o :: rest) st Q := fun a w g hR Q' hQ => wpList_step fun K' hK => by
  rw [if_pos (yes_of hg hR)]
  have h1 := hR.opds hx
  have h2 := hs.get
  obtain ⟨m1, ⟨cs, t, m2⟩, m3⟩ := hR.rt.mem K _ hroot rfl
  have hlt := lt_of_heap m2
  have hcall := hc w (g.curG w.heap.size K) (args.map a.eval).toArray 0 i h hi (hR.curIn hroot hc0) (by simp [h1.1, h2.1]) (fun i t' u hi hu => by
    obtain ⟨t, h3, h4⟩ := h2.2 i t' hi
    exact hR.snapC hroot h4 (h1.2 i t u h3 (by simpa using hu)))
  unfold Oper.wp
  rw [run_enter hR ho rfl hf hb hn w]
  refine hcall.mono fun e w' ⟨v, r, g', i', h', he, ⟨x, hp, hr⟩, hi', hG⟩ => ?_
  subst he
  have had : (g.curG w.heap.size K).ad pinB [] = g.ad K [] := by simp [Gh.curG]
  have hcvk : (g.curG w.heap.size K).cv pinK [] 0 = g.cv K [] 0 := by simp [Gh.curG]
  obtain ⟨y, hy⟩ := hfr x
  have h5 := hG.val
  rw [hr] at h5
  have h6 := (freeS_inv hy).1 h5
  subst h6
  have hw1 := World.backAt_heap (w' := w') m2
  have hL : Later w (World.backAt w' w (g.ad K []).1) := by
    refine ⟨hG.os, hG.tape, hG.output, ?_, fun b hb => ?_⟩
    · rw [hw1]; simpa using hG.size
    · rw [hw1, Array.getElem?_setIfInBounds]
      by_cases e : (g.ad K []).1 = b
      · subst e
        rw [if_pos rfl, if_pos (by have := hG.size; omega), m2]
      · rw [if_neg e]
        exact hG.block b hb (by rw [had]; exact Ne.symm e)
  have hR1 := (hR.later hL).put ((freeS_inv hy).2 rfl) o.dst
  have hs1 : CurStep (g.ad K []).1 (World.backAt w' w (g.ad K []).1) w' := by
    refine ⟨rfl, rfl, rfl, by rw [hw1]; simp, fun b hb => ?_⟩
    rw [hw1, Array.getElem?_setIfInBounds, if_neg (Ne.symm hb)]
  have hcur : Cur w' (g.ad K []).1 (g.ad K []).2 (g.cv K [] 0) i' h' := by
    have c0 := hG.c0
    have c1 := hG.c1
    have c2 := hG.c2
    have cb := hG.blk
    rw [had] at c0 c1 c2 cb
    rw [hcvk] at c0
    exact ⟨by simpa [cellAddr] using c0, by simpa [cellAddr] using c1, by simpa [cellAddr] using c2, cb, hi'⟩
  obtain ⟨g2, hR2⟩ := Rel.turned hR1 (K := K) (c0 := c0) (ds := ds) (i := i) (h := h) (i' := i') (h' := h') (by rw [root_put]; exact hroot) (hc0.put _ _) hs1 hcur
  rw [hS] at hR2
  exact hK _ _ (hq x i' h' hp hi' _ _ _ hR2 Q' hQ)
end

/-- From a contract by the kit's walk. -/
theorem FunC.ofCur {f : FuncId} {p : Int → Prop} (hby : isBytes ds) (hn : ds.length ≤ 1048576)
    (hc : ∀ (b o : Nat) (ad : Option Addr) (n c : Nat) (i h : Int), n ≤ 1048576 → ∀ w : World, Cur w b o (.slice ad n c) i h → Bytes w ad n → (∀ b2 off, 0 < n → ad = some ⟨b2, off, none⟩ → b2 ≠ b) →
      Calls P f #[.pointer (some ⟨b, o, none⟩)] w fun e w' => ∃ x i' h', e = .returned (.int .i64 x) ∧ p x ∧ CurStep b w w' ∧ Cur w' b o (.slice ad n c) i' h') :
    FunC P f ds [.one (.ptr ⟨pinB, [], 0⟩)] (RDr I p) := fun w g args k i h hi hI hsz hargs => by
  obtain ⟨ad, n, c, ev, en, hB, hro, had⟩ := bytes_of hI.c0 hby
  have h1 : args = #[.pointer (some ⟨(g.ad pinB []).1, (g.ad pinB []).2, none⟩)] := by
    obtain ⟨l⟩ := args
    match l, hsz, hargs with
    | [u], _, hargs =>
      have h2 := hargs 0 _ u rfl rfl
      cases h2 with
      | one _ _ h2 => cases h2 with
        | ptr _ => simp [cellAddr]
  subst h1
  have c0 := hI.cell 0 (by omega)
  have c1 := hI.cell 1 (by omega)
  have c2 := hI.cell 2 (by omega)
  rw [hI.e0, ev] at c0
  rw [hI.e1] at c1
  rw [hI.e2] at c2
  have hC : Cur w (g.ad pinB []).1 (g.ad pinB []).2 (.slice ad n c) i h := ⟨by simpa [cellAddr] using c0, by simpa [cellAddr] using c1, by simpa [cellAddr] using c2, hI.blk, hi⟩
  refine (hc _ _ ad n c i h (by omega) w hC hB fun b2 off e0 e e3 => ?_).mono fun e w' ⟨x, i', h', he, hp, hs, hcw⟩ => ?_
  · have := hro b2 off e0 e
    rw [e3, hI.tag] at this
    cases this
  · refine ⟨_, _, { g with o := fun b => if b < w.heap.size then .ro else .outer }, i', h', he, ⟨x, hp, rfl⟩, hcw.nn, hs.os, hs.tape, hs.output, by rw [hs.size]; exact Nat.le_refl _, fun b hb hne => hs.other b hne, fun b h1 h2 => ?_, fun b hb => ?_, fun q d hq => by simp at hq, V_mk rfl, hcw.fz, ?_, ?_, ?_⟩
    · rw [hs.size] at h2; omega
    · simp only at hb
      split at hb <;> cases hb
    · rw [ev]; simpa [cellAddr] using hcw.c0
    · simpa [cellAddr] using hcw.c1
    · simpa [cellAddr] using hcw.c2
end

/-- The same for a function that is handed no cursor. -/
theorem OpT.callD {P : Program} {w0 : World} {g0 : Gh} {st : St} {o : Oper} {Q : St → Prop} {f : FuncId} {args : List Operand} {tys : Array TypeId} {fn : Func} (ho : o.op = .call { callee := .value (.func f), args := args.toArray, argTypes := tys })
    (hf : P.funcs[f]? = some fn) (hb : fn.body.isNone = false) (hn : (fn.name == "runtime.NumGoroutine") = false) {ts ts' : List TS} (hx : opds st args = some ts) (hs : Snaps st ts ts') {α : Type} {T : α → TS} {p : α → Prop}
    (hc : FunK P w0 g0 f ts' (RDr T p)) (hfr : ∀ x, ∃ v, freeS (T x) = some v) (hq : ∀ x, p x → Q (st.put o.dst (T x))) : OpT P w0 g0 o st Q := fun a w g hR K Q' hK => by
  have h1 := hR.opds hx
  have h2 := hs.get
  have hcall := hc w hR.ks.kept { g with o := allRo w } (args.map a.eval).toArray 0 rfl (by simp [h1.1, h2.1]) (fun i t' u hi hu => by
    obtain ⟨t, h3, h4⟩ := h2.2 i t' hi
    exact hR.snap h4 (h1.2 i t u h3 (by simpa using hu)) _ rfl)
  unfold Oper.wp
  rw [run_enter hR ho rfl hf hb hn w]
  refine hcall.mono fun e w' ⟨v, r, g', he, ⟨x, hp, hr⟩, hG⟩ => ?_
  subst he
  obtain ⟨y, hy⟩ := hfr x
  have h5 := hG.val
  rw [hr] at h5
  have h6 := (freeS_inv hy).1 h5
  subst h6
  have hR' := hR.later (w' := w') ⟨hG.os, hG.tape, hG.output, hG.size, hG.block⟩
  exact hK _ _ _ _ (hq x hp) (hR'.put ((freeS_inv hy).2 rfl) o.dst)

theorem spec_l01Byte_c {ds : List D} (hby : isBytes ds) (hn : ds.length ≤ 1048576) : FunC Tryd.prog 93 ds [.one (.ptr ⟨pinB, [], 0⟩)] (RDr I fun z => 0 ≤ z ∧ z < 256) :=
  FunC.ofCur hby hn fun b o ad n c i h hn w hc hb hne => (byteC b o ad n c i h hn w hc hb hne).mono fun e w' ⟨x, i', h', he, h1, h2, hs, hc⟩ => ⟨x, i', h', he, ⟨h1, h2⟩, hs, hc⟩
end Go.Proofs.YtdlpmcjpbcbbjaaDoor.T
