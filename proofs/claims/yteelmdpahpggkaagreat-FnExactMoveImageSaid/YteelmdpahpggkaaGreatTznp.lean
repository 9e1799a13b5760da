/- The lifted walk, part zn: calls of functions that are given lists for good, and return what they make of them. No condition. -/
import Derived.Test.YteelmdpahpggkaaGreatTzmp
namespace Go.Proofs.YteelmdpahpggkaaGreat.T
open Go
set_option linter.unusedVariables false
set_option linter.unusedSimpArgs false

/-- The result's owners; of what was handed over only the values are still known. -/
def Gh.gather3 (g : Gh) (srcs : List (Nat × Nat)) (k K : Nat) : Gh where
  o b := match g.o b with
    | .lies k' p q => match p with
      | [] => match idxOf (k', q) srcs with | some j => .lies k [] j | none => .ro
      | (q1, i) :: r => match idxOf (k', q1) srcs with | some j => .lies k ((j, i) :: r) q | none => .ro
    | .box _ => .ro
    | t => t
  ad k' p := if k' = K then g.ad K p else match p with | [] => (0, 0) | (j, i) :: r => match srcs[j]? with | some s => g.ad s.1 ((s.2, i) :: r) | none => (0, 0)
  cv k' p q := if k' = K then g.cv K p q else match p with | [] => (match srcs[q]? with | some s => g.cv s.1 [] s.2 | none => undef) | (j, i) :: r => match srcs[j]? with | some s => g.cv s.1 ((s.2, i) :: r) q | none => undef

section
variable {P : Program} {w w' : World} {g0 g : Gh} {st : St} {a : Act}

theorem gathC_rep3 {srcs : List (Nat × Nat)} {k K : Nat} (hkK : k ≠ K) {c : C} {u : Value} (h : RepV w' g c u) : RepV w' (g.gather3 srcs k K) (gathC srcs k c) u := by
  cases c with
  | ro d =>
    cases d with
    | v x =>
      have h3 : Ro w' g.o (.v x) u := h
      cases h3 with
      | v _ hp => exact Ro.v _ hp
    | _ => trivial
  | own d => trivial
  | ref pl =>
    obtain ⟨pk, pp, pq⟩ := pl
    simp only [gathC]
    split
    · rename_i j h1 h2
      have := idxOf_some h2
      refine ⟨?_, h.2⟩
      simp only [Gh.gather3, this, if_neg hkK]
      exact h.1
    · trivial
  | dead => trivial

theorem gathV_rep3 {srcs : List (Nat × Nat)} {k K : Nat} (hkK : k ≠ K) {t : TV} {u : Value} (h : RepT w' g t u) : RepT w' (g.gather3 srcs k K) (gathV srcs k t) u := by
  cases h with
  | c c u hv => exact .c _ u (gathC_rep3 hkK hv)
  | agg cs us hs hv =>
    refine .agg _ us (by simpa using hs) fun j c u h1 h2 => ?_
    rw [List.getElem?_map, Option.map_eq_some_iff] at h1
    obtain ⟨c', h1, rfl⟩ := h1
    exact gathC_rep3 hkK (hv j c' u h1 h2)
  | _ => exact .dead _

theorem Rel.gives3 {h : Hand} (hR : Rel w g0 st a w' g) (hH : Handed w g0 h) (hhm : h.mem = false) {srcs : List (Nat × Nat)} (hn : srcs.Nodup) {row : List D} (hc : contents st srcs = some row) {k : Nat} (hk : k < 1000000) {T : Nat → TS} {v : Value}
    (hv : RepS w' (g.gather3 srcs k h.k) (T k) v) : Gives2 w g0 h k (h.row.map fun _ => .hole) ⟨row, T⟩ v w' (g.gather3 srcs k h.k) := by
  have hkK : k ≠ h.k := by have := h.big; omega
  have hblk : ∀ b, b < w.heap.size → g0.o b = .ro → w'.heap[b]? = w.heap[b]? ∧ g.o b = .ro := fun b hb h1 => by
    obtain ⟨h2, h3⟩ := hR.ks.block b hb (.inl h1)
    exact ⟨h2, h3.trans h1⟩
  have hout : ∀ b, b < w'.heap.size → g.o b ≠ .outer := fun b hb ht => by
    obtain ⟨h1, h2⟩ := hR.ks.old b hb ht
    rcases hH.own b h1 with h3 | h3
    · rw [h3] at h2; cases h2
    · rw [h2] at h3; cases h3
  have htag : ∀ b, b < w'.heap.size → (g.gather3 srcs k h.k).o b = .ro ∨ ((g.gather3 srcs k h.k).o b).root? = some k := fun b hb => by
    simp only [Gh.gather3]
    cases ht : g.o b with
    | ro => exact .inl rfl
    | outer => exact absurd ht (hout b hb)
    | box k' => exact .inl rfl
    | lies k' p q =>
      cases p with
      | nil =>
        simp only
        split
        · exact .inr rfl
        · exact .inl rfl
      | cons x r =>
        obtain ⟨q1, i⟩ := x
        simp only
        split
        · exact .inr rfl
        · exact .inl rfl
  have hfresh : ∀ b, w'.heap.size ≤ b → (g.gather3 srcs k h.k).o b = .outer := fun b hb => by
    have := hR.ks.fresh b hb
    simp only [Gh.gather3, this]
  have hold : ∀ b, ((g.gather3 srcs k h.k).o b).root? ≠ none → b < w'.heap.size := fun b hb => by
    rcases Nat.lt_or_ge b w'.heap.size with h1 | h1
    · exact h1
    · rw [hfresh b h1] at hb; exact absurd rfl hb
  refine ⟨hR.ks.os, hR.ks.tape, hR.ks.output, hR.ks.size, fun b hb h1 => (hblk b hb h1).1, fun b h2 _ => ?_, fun b hb => ⟨?_, ?_⟩, fun q d hq => ?_, by simp, fun q d hq => ?_, fun hm q => ?_, fun hm => ?_, hv⟩
  · rcases htag b h2 with h | h
    · exact .inl h
    · exact .inr (.inl h)
  · exact hold b (by rcases hb with hb | hb <;> rw [hb] <;> simp)
  · rcases Nat.lt_or_ge b w.heap.size with h1 | h1
    · refine .inr fun h2 => ?_
      have := (hblk b h1 h2).2
      simp only [Gh.gather3, this] at hb
      rcases hb with hb | hb <;> cases hb
    · exact .inl h1
  · obtain ⟨s, h1, h2⟩ := (contents_get hc).2 q d hq
    have hO : Ow w' g s.1 [] s.2 d := (hR.cellAt h2).1 d rfl
    have hi := idxOf_get hn h1
    refine Ow.move hO ⟨?_, fun i r q' => ?_, fun i r => ?_, fun b hb => ⟨?_, rfl⟩, fun b i r q' hb => ⟨?_, rfl⟩⟩
    · simp [Gh.gather3, h1, hkK]
    · simp [Gh.gather3, h1, hkK]
    · simp [Gh.gather3, h1, hkK]
    · simp only [Gh.gather3, hb, hi]
    · simp only [Gh.gather3, hb, List.nil_append, hi]
  · rw [List.getElem?_map, Option.map_eq_some_iff] at hq
    obtain ⟨_, _, rfl⟩ := hq
    exact .hole [] q
  · have hK : h.k = pinK := by simp [Hand.k, hm]
    simp only [Gh.gather3, hK, if_true]
    exact hR.ks.pin.1 q
  · rw [hhm] at hm; cases hm

theorem Fun2.ofGive {f : FuncId} {fn : Func} {c : Code} {h : Hand} (hhm : h.mem = false) {pts : List TS} {R : Res → Prop} (hf : P.funcs[f]? = some fn) (hb : fn.body = some c) (hn : pts.length ≤ fn.ntmps)
    (hw : ∀ w g0, TC P w g0 c ⟨pts ++ List.replicate (fn.ntmps - pts.length) (.one .dead), [(h.k, ⟨h.mem, h.row.map C.own⟩)]⟩ (Ends P fn R)) : Fun2 P f h pts (fun row' r => row' = h.row.map (fun _ => .hole) ∧ R r) := by
  intro w g args k hk hH hsz hargs
  have hroot : ∀ k' r, (⟨pts ++ List.replicate (fn.ntmps - pts.length) (.one .dead), [(h.k, ⟨h.mem, h.row.map C.own⟩)]⟩ : St).root k' = some r → k' = h.k ∧ r = ⟨h.mem, h.row.map C.own⟩ := fun k' r hr => by
    simp only [St.root, List.find?_cons, List.find?_nil] at hr
    split at hr
    · rename_i e
      simp only [Option.map_some, Option.some.injEq] at hr
      exact ⟨(by simpa using e : h.k = k').symm, hr.symm⟩
    · cases hr
  refine calls_of_wp hf hb (wp_mono (hw w g _ w g ⟨fun i tv hi => ?_, ?_, rfl, ⟨fun k' r hk' q c hq => ?_, fun k' r hk' hm => ?_⟩, ⟨rfl, rfl, rfl, Nat.le_refl _, fun b hb _ => ⟨rfl, rfl⟩, fun b hb => hH.out b hb, fun b hb ho => ?_, ⟨fun _ => rfl, rfl⟩, hH.nobox⟩⟩) fun e a w' ⟨st, g', hE, hR⟩ => ?_)
  · by_cases hlt : i < pts.length
    · rw [List.getElem?_append_left hlt] at hi
      have hi' : i < args.size := by omega
      have h1 : (args ++ Array.replicate (fn.ntmps - args.size) undef).getD i undef = args[i] := by
        rw [Array.getD_eq_getD_getElem?, Array.getElem?_append_left hi', Array.getElem?_eq_getElem hi']
        rfl
      show RepS w g tv ((args ++ Array.replicate (fn.ntmps - args.size) undef).getD i undef)
      rw [h1]
      exact hargs i tv _ hi (Array.getElem?_eq_getElem hi')
    · rw [List.getElem?_append_right (by omega), List.getElem?_replicate] at hi
      split at hi
      · simp only [Option.some.injEq] at hi
        subst hi
        exact .one _ _ (.dead _)
      · cases hi
  · show (args ++ Array.replicate (fn.ntmps - args.size) undef).size = _
    simp [hsz]
  · obtain ⟨rfl, rfl⟩ := hroot k' r hk'
    rw [List.getElem?_map, Option.map_eq_some_iff] at hq
    obtain ⟨d, hq, rfl⟩ := hq
    exact hH.row q d hq
  · obtain ⟨rfl, rfl⟩ := hroot k' r hk'
    have hm' : h.mem = true := hm
    have hK : h.k = pinB := by simp [Hand.k, hm']
    rw [hK]
    obtain ⟨m1, m2, m3⟩ := hH.mem hm'
    exact ⟨m1, m2, fun q hq => m3 q (by simpa using hq)⟩
  · rcases hH.own b hb with h1 | h1
    · rw [h1] at ho; cases ho
    · rw [ho] at h1; cases h1
  · obtain ⟨he, rvs, tvs, row, h1, h2, h3, h4, h5, h9⟩ := hE
    have hkK : k ≠ h.k := by have := h.big; omega
    have hlen : rvs.length = tvs.length := by
      have := congrArg List.length h3
      simpa using this
    obtain ⟨us, hul, hur, hrep0⟩ := hR.resultList h3
    have hrun := run_results (P := P) h1 h2 a.tmps w' hul hur
    have hrep : ∀ (i : Nat) t u, tvs[i]? = some t → us[i]? = some u → RepT w' (g'.gather3 (tvs.flatMap refV) k h.k) (gathV (tvs.flatMap refV) k t) u := fun i t u hi hu => gathV_rep3 hkK (hrep0 i t u hi hu)
    have hval : RepS w' (g'.gather3 (tvs.flatMap refV) k h.k) (resT (tvs.map (gathV (tvs.flatMap refV) k))) (tupV us) := by
      have htup : ∀ l : List Value, l.length = tvs.length → (∀ (i : Nat) t u, tvs[i]? = some t → l[i]? = some u → RepT w' (g'.gather3 (tvs.flatMap refV) k h.k) (gathV (tvs.flatMap refV) k t) u) →
          RepS w' (g'.gather3 (tvs.flatMap refV) k h.k) (.tup (tvs.map (gathV (tvs.flatMap refV) k))) (.tuple l.toArray) := fun l hl hh =>
        .tup _ _ (by simp [hl]) fun j t u hj hu => by
          rw [List.getElem?_map, Option.map_eq_some_iff] at hj
          obtain ⟨t', hj, rfl⟩ := hj
          exact hh j t' u hj (by simpa using hu)
      have hl := htup us (by omega) hrep
      have hlu : us.length = tvs.length := by omega
      clear hrun hur hrep0 h3 h5 h9 h4
      match us, tvs, hlu with
      | [], [], _ => exact hl
      | [t], [tv], _ => exact .one _ _ (hrep 0 tv _ rfl rfl)
      | _ :: _ :: _, _ :: _ :: _, _ => exact hl
    have hG := hR.gives3 hH hhm h4 h5 hk (T := fun k => resT (tvs.map (gathV (tvs.flatMap refV) k))) hval
    have hfin : ∃ v, (results fn a.tmps).run P w' = .ok v w' ∧ ∃ v_1 row'_1 r g', Ending.returned v = Ending.returned v_1 ∧ (row'_1 = h.row.map (fun _ => .hole) ∧ R r) ∧ Gives2 w g h k row'_1 r v_1 w' g' := ⟨_, hrun, _, _, _, _, rfl, ⟨rfl, h9⟩, hG⟩
    rcases he with rfl | rfl
    · exact ⟨hR.df, hfin⟩
    · exact ⟨hR.df, hfin⟩
end

/- THE CALL -/
section
variable {P : Program} {w0 : World} {g0 : Gh} {st : St} {a : Act} {w w' : World} {g : Gh}
end
end Go.Proofs.YteelmdpahpggkaaGreat.T

