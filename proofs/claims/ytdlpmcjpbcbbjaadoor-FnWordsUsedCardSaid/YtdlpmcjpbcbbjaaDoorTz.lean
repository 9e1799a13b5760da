/- The lifted walk, part z: calls of functions that write what they are handed: lists (root pinK), or a box (root pinB). No condition. -/
import Derived.Test.YtdlpmcjpbcbbjaaDoorTy
namespace Go.Proofs.YtdlpmcjpbcbbjaaDoor.T
open Go
set_option linter.unusedVariables false
set_option linter.unusedSimpArgs false

/-- What is handed over: the cells of lists, or a whole box. -/
structure Hand where
  mem : Bool
  row : List D
def Hand.k (h : Hand) : Nat := if h.mem then pinB else pinK

theorem Hand.big (h : Hand) : 1000000 ≤ h.k := by unfold Hand.k; split <;> decide

/-- The world as the callee finds it. -/
structure Handed (w : World) (g : Gh) (h : Hand) : Prop where
  out : ∀ b, w.heap.size ≤ b → g.o b = .outer
  own : ∀ b, b < w.heap.size → g.o b = .ro ∨ (g.o b).root? = some h.k
  nobox : ∀ b, g.o b ≠ .box pinK
  row : ∀ (q : Nat) d, h.row[q]? = some d → Ow w g h.k [] q d
  mem : h.mem = true → g.o (g.ad pinB []).1 = .box pinB ∧ (∃ cs e, w.heap[(g.ad pinB []).1]? = some (.cells cs e (0, 0))) ∧ ∀ q, q < h.row.length → w.cell? (cellAddr (g.ad pinB []) q) = some (g.cv pinB [] q)

structure Gives2 (w : World) (g : Gh) (h : Hand) (k : Nat) (row' : List D) (r : Res) (v : Value) (w' : World) (g' : Gh) : Prop where
  os : w'.os = w.os
  tape : w'.tape = w.tape
  output : w'.output = w.output
  size : w.heap.size ≤ w'.heap.size
  block : ∀ b, b < w.heap.size → g.o b = .ro → w'.heap[b]? = w.heap[b]?
  own : ∀ b, b < w'.heap.size → (w.heap.size ≤ b ∨ g.o b ≠ .ro) → g'.o b = .ro ∨ (g'.o b).root? = some k ∨ (g'.o b).root? = some h.k
  old : ∀ b, ((g'.o b).root? = some k ∨ (g'.o b).root? = some h.k) → b < w'.heap.size ∧ (w.heap.size ≤ b ∨ g.o b ≠ .ro)
  row : ∀ (q : Nat) d, r.row[q]? = some d → Ow w' g' k [] q d
  hlen : row'.length = h.row.length
  hrow : ∀ (q : Nat) d, row'[q]? = some d → Ow w' g' h.k [] q d
  pinl : h.mem = false → ∀ q, g'.cv pinK [] q = g.cv pinK [] q
  pinb : h.mem = true → g'.ad pinB [] = g.ad pinB [] ∧ g'.o (g'.ad pinB []).1 = .box pinB ∧ (∃ cs e, w'.heap[(g'.ad pinB []).1]? = some (.cells cs e (0, 0))) ∧ ∀ q, q < row'.length → w'.cell? (cellAddr (g'.ad pinB []) q) = some (g'.cv pinB [] q)
  val : RepS w' g' (r.val k) v

/-- THE CONTRACT of a function that writes what it is handed: R tells the handed cells and the result behind the call. -/
def Fun2 (P : Program) (f : FuncId) (h : Hand) (pts : List TS) (R : List D → Res → Prop) : Prop :=
  ∀ (w : World) (g : Gh) (args : Array Value) (k : Nat), k < 1000000 → Handed w g h → args.size = pts.length → (∀ (i : Nat) t u, pts[i]? = some t → args[i]? = some u → RepS w g t u) →
    Calls P f args w fun e w' => ∃ v row' r g', e = .returned v ∧ R row' r ∧ Gives2 w g h k row' r v w' g'

/-- How such a function ends. -/
def Ends2 (P : Program) (fn : Func) (h : Hand) (R : List D → Res → Prop) (e : Exit) (st : St) : Prop :=
  (e = .normal ∨ e = .ret) ∧ ∃ (rvs : List ResultVar) (tvs : List TV) (row row' : List D), fn.results = rvs.toArray ∧ rvs.length ≤ 4 ∧ rvs.map (resTV P st) = tvs.map some ∧
    (tvs.flatMap refV).Nodup ∧ contents st (tvs.flatMap refV) = some row ∧ st.root h.k = some ⟨h.mem, row'.map C.own⟩ ∧ row'.length = h.row.length ∧ ((tvs.flatMap refV).all fun s => s.1 != h.k) = true ∧
    R row' ⟨row, fun k => resT (tvs.map (gathV (tvs.flatMap refV) k))⟩

/-- The result's owners; what was handed over stays its own. -/
def Gh.gather2 (g : Gh) (srcs : List (Nat × Nat)) (k K : Nat) : Gh where
  o b := match g.o b with
    | .lies k' p q => if k' = K then .lies K p q else match p with
      | [] => match idxOf (k', q) srcs with | some j => .lies k [] j | none => .ro
      | (q1, i) :: r => match idxOf (k', q1) srcs with | some j => .lies k ((j, i) :: r) q | none => .ro
    | .box k' => if k' = K then .box K else .ro
    | t => t
  ad k' p := if k' = K then g.ad K p else match p with | [] => (0, 0) | (j, i) :: r => match srcs[j]? with | some s => g.ad s.1 ((s.2, i) :: r) | none => (0, 0)
  cv k' p q := if k' = K then g.cv K p q else match p with | [] => (match srcs[q]? with | some s => g.cv s.1 [] s.2 | none => undef) | (j, i) :: r => match srcs[j]? with | some s => g.cv s.1 ((s.2, i) :: r) q | none => undef

section
variable {P : Program} {w w' : World} {g0 g : Gh} {st : St} {a : Act}

theorem gathC_rep2 {srcs : List (Nat × Nat)} {k K : Nat} (hkK : k ≠ K) {c : C} {u : Value} (h : RepV w' g c u) : RepV w' (g.gather2 srcs k K) (gathC srcs k c) u := by
  cases c with
  | ro d =>
    cases d with
    | v x =>
      have h3 : Ro w' g.o (.v x) u := h
      cases h3 with
      | v _ hp => exact Ro.v _ hp
    | _ => trivial
  | own d => trivial
  | ref pl =>
    obtain ⟨pk, pp, pq⟩ := pl
    simp only [gathC]
    split
    · rename_i j h1 h2
      have := idxOf_some h2
      refine ⟨?_, h.2⟩
      simp only [Gh.gather2, this, if_neg hkK]
      exact h.1
    · trivial
  | dead => trivial

theorem gathV_rep2 {srcs : List (Nat × Nat)} {k K : Nat} (hkK : k ≠ K) {t : TV} {u : Value} (h : RepT w' g t u) : RepT w' (g.gather2 srcs k K) (gathV srcs k t) u := by
  cases h with
  | c c u hv => exact .c _ u (gathC_rep2 hkK hv)
  | agg cs us hs hv =>
    refine .agg _ us (by simpa using hs) fun j c u h1 h2 => ?_
    rw [List.getElem?_map, Option.map_eq_some_iff] at h1
    obtain ⟨c', h1, rfl⟩ := h1
    exact gathC_rep2 hkK (hv j c' u h1 h2)
  | _ => exact .dead _

theorem Rel.gives2 {h : Hand} (hR : Rel w g0 st a w' g) (hH : Handed w g0 h) {srcs : List (Nat × Nat)} (hn : srcs.Nodup) {row row' : List D} (hc : contents st srcs = some row) (hr : st.root h.k = some ⟨h.mem, row'.map C.own⟩)
    (hl : row'.length = h.row.length) (hne : (srcs.all fun s => s.1 != h.k) = true) {k : Nat} (hk : k < 1000000) {T : Nat → TS} {v : Value} (hv : RepS w' (g.gather2 srcs k h.k) (T k) v) :
    Gives2 w g0 h k row' ⟨row, T⟩ v w' (g.gather2 srcs k h.k) := by
  have hkK : k ≠ h.k := by have := h.big; omega
  have hblk : ∀ b, b < w.heap.size → g0.o b = .ro → w'.heap[b]? = w.heap[b]? ∧ g.o b = .ro := fun b hb h1 => by
    obtain ⟨h2, h3⟩ := hR.ks.block b hb (.inl h1)
    exact ⟨h2, h3.trans h1⟩
  have hout : ∀ b, b < w'.heap.size → g.o b ≠ .outer := fun b hb ht => by
    obtain ⟨h1, h2⟩ := hR.ks.old b hb ht
    rcases hH.own b h1 with h3 | h3
    · rw [h3] at h2; cases h2
    · rw [h2] at h3; cases h3
  refine ⟨hR.ks.os, hR.ks.tape, hR.ks.output, hR.ks.size, fun b hb h1 => (hblk b hb h1).1, fun b h2 _ => ?_, fun b hb => ⟨?_, ?_⟩, fun q d hq => ?_, hl, fun q d hq => ?_, fun hm q => ?_, fun hm => ?_, hv⟩
  · simp only [Gh.gather2]
    cases ht : g.o b with
    | ro => exact .inl rfl
    | outer => exact absurd ht (hout b h2)
    | box k' =>
      simp only
      split
      · exact .inr (.inr rfl)
      · exact .inl rfl
    | lies k' p q =>
      simp only
      split
      · exact .inr (.inr rfl)
      · cases p with
        | nil =>
          simp only
          split
          · exact .inr (.inl rfl)
          · exact .inl rfl
        | cons x r =>
          obtain ⟨q1, i⟩ := x
          simp only
          split
          · exact .inr (.inl rfl)
          · exact .inl rfl
  · rcases Nat.lt_or_ge b w'.heap.size with h1 | h1
    · exact h1
    · have := hR.ks.fresh b h1
      simp only [Gh.gather2, this] at hb
      rcases hb with hb | hb <;> cases hb
  · rcases Nat.lt_or_ge b w.heap.size with h1 | h1
    · refine .inr fun h2 => ?_
      have := (hblk b h1 h2).2
      simp only [Gh.gather2, this] at hb
      rcases hb with hb | hb <;> cases hb
    · exact .inl h1
  · obtain ⟨s, h1, h2⟩ := (contents_get hc).2 q d hq
    have hsk : s.1 ≠ h.k := by simpa using List.all_eq_true.1 hne s (List.mem_of_getElem? h1)
    have hO : Ow w' g s.1 [] s.2 d := (hR.cellAt h2).1 d rfl
    have hi := idxOf_get hn h1
    refine Ow.move hO ⟨?_, fun i r q' => ?_, fun i r => ?_, fun b hb => ⟨?_, rfl⟩, fun b i r q' hb => ⟨?_, rfl⟩⟩
    · simp [Gh.gather2, h1, hkK]
    · simp [Gh.gather2, h1, hkK]
    · simp [Gh.gather2, h1, hkK]
    · simp only [Gh.gather2, hb, hi, if_neg hsk]
    · simp only [Gh.gather2, hb, List.nil_append, hi, if_neg hsk]
  · have hO : Ow w' g h.k [] q d := hR.rt.cell h.k _ hr q (.own d) (by simp [hq])
    refine Ow.move hO ⟨?_, fun i r q' => ?_, fun i r => ?_, fun b hb => ⟨?_, rfl⟩, fun b i r q' hb => ⟨?_, rfl⟩⟩
    · simp [Gh.gather2]
    · simp [Gh.gather2]
    · simp [Gh.gather2]
    · simp [Gh.gather2, hb]
    · simp [Gh.gather2, hb]
  · have hK : h.k = pinK := by simp [Hand.k, hm]
    simp only [Gh.gather2, hK, if_true]
    exact hR.ks.pin.1 q
  · have hK : h.k = pinB := by simp [Hand.k, hm]
    obtain ⟨m1, m2, m3⟩ := hR.rt.mem h.k _ hr hm
    rw [hK] at m1 m2 m3
    have had : (g.gather2 srcs k h.k).ad pinB [] = g.ad pinB [] := by simp [Gh.gather2, hK]
    rw [had]
    refine ⟨hR.ks.pin.2, by simp only [Gh.gather2, m1, hK, if_true], m2, fun q hq => ?_⟩
    have := m3 q (by simpa using hq)
    rw [this]
    simp [Gh.gather2, hK]

theorem Fun2.of {f : FuncId} {fn : Func} {c : Code} {h : Hand} {pts : List TS} {R : List D → Res → Prop} (hf : P.funcs[f]? = some fn) (hb : fn.body = some c) (hn : pts.length ≤ fn.ntmps)
    (hw : ∀ w g0, TC P w g0 c ⟨pts ++ List.replicate (fn.ntmps - pts.length) (.one .dead), [(h.k, ⟨h.mem, h.row.map C.own⟩)]⟩ (Ends2 P fn h R)) : Fun2 P f h pts R := by
  intro w g args k hk hH hsz hargs
  have hroot : ∀ k' r, (⟨pts ++ List.replicate (fn.ntmps - pts.length) (.one .dead), [(h.k, ⟨h.mem, h.row.map C.own⟩)]⟩ : St).root k' = some r → k' = h.k ∧ r = ⟨h.mem, h.row.map C.own⟩ := fun k' r hr => by
    simp only [St.root, List.find?_cons, List.find?_nil] at hr
    split at hr
    · rename_i e
      simp only [Option.map_some, Option.some.injEq] at hr
      exact ⟨(by simpa using e : h.k = k').symm, hr.symm⟩
    · cases hr
  refine calls_of_wp hf hb (wp_mono (hw w g _ w g ⟨fun i tv hi => ?_, ?_, rfl, ⟨fun k' r hk' q c hq => ?_, fun k' r hk' hm => ?_⟩, ⟨rfl, rfl, rfl, Nat.le_refl _, fun b hb _ => ⟨rfl, rfl⟩, fun b hb => hH.out b hb, fun b hb ho => ?_, ⟨fun _ => rfl, rfl⟩, hH.nobox⟩⟩) fun e a w' ⟨st, g', hE, hR⟩ => ?_)
  · by_cases hlt : i < pts.length
    · rw [List.getElem?_append_left hlt] at hi
      have hi' : i < args.size := by omega
      have h1 : (args ++ Array.replicate (fn.ntmps - args.size) undef).getD i undef = args[i] := by
        rw [Array.getD_eq_getD_getElem?, Array.getElem?_append_left hi', Array.getElem?_eq_getElem hi']
        rfl
      show RepS w g tv ((args ++ Array.replicate (fn.ntmps - args.size) undef).getD i undef)
      rw [h1]
      exact hargs i tv _ hi (Array.getElem?_eq_getElem hi')
    · rw [List.getElem?_append_right (by omega), List.getElem?_replicate] at hi
      split at hi
      · simp only [Option.some.injEq] at hi
        subst hi
        exact .one _ _ (.dead _)
      · cases hi
  · show (args ++ Array.replicate (fn.ntmps - args.size) undef).size = _
    simp [hsz]
  · obtain ⟨rfl, rfl⟩ := hroot k' r hk'
    rw [List.getElem?_map, Option.map_eq_some_iff] at hq
    obtain ⟨d, hq, rfl⟩ := hq
    exact hH.row q d hq
  · obtain ⟨rfl, rfl⟩ := hroot k' r hk'
    have hm' : h.mem = true := hm
    have hK : h.k = pinB := by simp [Hand.k, hm']
    rw [hK]
    obtain ⟨m1, m2, m3⟩ := hH.mem hm'
    exact ⟨m1, m2, fun q hq => m3 q (by simpa using hq)⟩
  · rcases hH.own b hb with h1 | h1
    · rw [h1] at ho; cases ho
    · rw [ho] at h1; cases h1
  · obtain ⟨he, rvs, tvs, row, row', h1, h2, h3, h4, h5, h6, h7, h8, h9⟩ := hE
    have hkK : k ≠ h.k := by have := h.big; omega
    have hlen : rvs.length = tvs.length := by
      have := congrArg List.length h3
      simpa using this
    obtain ⟨us, hul, hur, hrep0⟩ := hR.resultList h3
    have hrun := run_results (P := P) h1 h2 a.tmps w' hul hur
    have hrep : ∀ (i : Nat) t u, tvs[i]? = some t → us[i]? = some u → RepT w' (g'.gather2 (tvs.flatMap refV) k h.k) (gathV (tvs.flatMap refV) k t) u := fun i t u hi hu => gathV_rep2 hkK (hrep0 i t u hi hu)
    have hval : RepS w' (g'.gather2 (tvs.flatMap refV) k h.k) (resT (tvs.map (gathV (tvs.flatMap refV) k))) (tupV us) := by
      have htup : ∀ l : List Value, l.length = tvs.length → (∀ (i : Nat) t u, tvs[i]? = some t → l[i]? = some u → RepT w' (g'.gather2 (tvs.flatMap refV) k h.k) (gathV (tvs.flatMap refV) k t) u) →
          RepS w' (g'.gather2 (tvs.flatMap refV) k h.k) (.tup (tvs.map (gathV (tvs.flatMap refV) k))) (.tuple l.toArray) := fun l hl hh =>
        .tup _ _ (by simp [hl]) fun j t u hj hu => by
          rw [List.getElem?_map, Option.map_eq_some_iff] at hj
          obtain ⟨t', hj, rfl⟩ := hj
          exact hh j t' u hj (by simpa using hu)
      have hl := htup us (by omega) hrep
      have hlu : us.length = tvs.length := by omega
      clear hrun hur hrep0 h3 h5 h9 h8 h4
      match us, tvs, hlu with
      | [], [], _ => exact hl
      | [t], [tv], _ => exact .one _ _ (hrep 0 tv _ rfl rfl)
      | _ :: _ :: _, _ :: _ :: _, _ => exact hl
    have hG := hR.gives2 hH h4 h5 h6 h7 h8 hk (T := fun k => resT (tvs.map (gathV (tvs.flatMap refV) k))) hval
    have hfin : ∃ v, (results fn a.tmps).run P w' = .ok v w' ∧ ∃ v_1 row'_1 r g', Ending.returned v = Ending.returned v_1 ∧ R row'_1 r ∧ Gives2 w g h k row'_1 r v_1 w' g' := ⟨_, hrun, _, _, _, _, rfl, h9, hG⟩
    rcases he with rfl | rfl
    · exact ⟨hR.df, hfin⟩
    · exact ⟨hR.df, hfin⟩
end

/- THE CALLER's SIDE -/
def topOf (pl : Pl) : Nat := match pl.p with | [] => pl.q | (q, _) :: _ => q

def Gh.hand (g : Gh) (n : Nat) (srcs : List (Nat × Nat)) (bx : Option Nat) (K : Nat) : Gh where
  o b := if n ≤ b then .outer else match g.o b with
    | .lies k' p q => (match p with
      | [] => match idxOf (k', q) srcs with | some j => .lies K [] j | none => .ro
      | (q1, i) :: r => match idxOf (k', q1) srcs with | some j => .lies K ((j, i) :: r) q | none => .ro)
    | .box k' => if bx = some k' then .box K else .ro
    | _ => .ro
  ad k' p := if k' = K then (match p with | [] => g.ad (bx.getD 0) [] | (j, i) :: r => match srcs[j]? with | some s => g.ad s.1 ((s.2, i) :: r) | none => (0, 0)) else g.ad k' p
  cv k' p q := if k' = K then (match p with | [] => (match srcs[q]? with | some s => g.cv s.1 [] s.2 | none => undef) | (j, i) :: r => match srcs[j]? with | some s => g.cv s.1 ((s.2, i) :: r) q | none => undef) else g.cv k' p q

def backT (srcs : List (Nat × Nat)) (bx : Option Nat) (K kd : Nat) : Tag → Tag
  | .lies k' p q => if k' = K then (match p with
      | [] => match srcs[q]? with | some s => .lies s.1 [] s.2 | none => .ro
      | (j, i) :: r => match srcs[j]? with | some s => .lies s.1 ((s.2, i) :: r) q | none => .ro)
    else if k' = kd then .lies kd p q else .ro
  | .box k' => if k' = K then (match bx with | some kb => .box kb | none => .ro) else .ro
  | _ => .ro

def Tag.isRo : Tag → Bool
  | .ro => true
  | _ => false
theorem isRo_iff {t : Tag} : t.isRo = true ↔ t = .ro := by cases t <;> simp [Tag.isRo]

def Gh.back (g gc g' : Gh) (n n' : Nat) (srcs : List (Nat × Nat)) (bx : Option Nat) (K kd : Nat) : Gh where
  o b := if b < n ∧ (gc.o b).isRo = true then g.o b else if b < n' then backT srcs bx K kd (g'.o b) else .outer
  ad k' p := if k' = kd then g'.ad kd p else match p with
    | [] => g.ad k' []
    | (q, i) :: r => match idxOf (k', q) srcs with | some j => g'.ad K ((j, i) :: r) | none => g.ad k' ((q, i) :: r)
  cv k' p q := if k' = kd then g'.cv kd p q else match p with
    | [] => (match idxOf (k', q) srcs with | some j => g'.cv K [] j | none => g.cv k' [] q)
    | (q1, i) :: r => match idxOf (k', q1) srcs with | some j => g'.cv K ((j, i) :: r) q | none => g.cv k' ((q1, i) :: r) q

def killR (srcs : List (Nat × Nat)) (mem : Bool) (kd : Nat) (pl : Pl) : Bool := pl.k == kd || (srcs.contains (pl.k, topOf pl) && (mem || !pl.p.isEmpty))
def killP (srcs : List (Nat × Nat)) (kd : Nat) (pl : Pl) : Bool := pl.k == kd || (srcs.contains (pl.k, topOf pl) && !pl.p.isEmpty)

def handRow (srcs : List (Nat × Nat)) (rows : List D) (pr : Pl → Bool) (k : Nat) : Nat → List C → List C
  | _, [] => []
  | q, c :: l => (match idxOf (k, q) srcs with | some j => (match rows[j]? with | some d => .own d | none => .dead) | none => c.kill pr) :: handRow srcs rows pr k (q + 1) l

theorem handRow_get (srcs : List (Nat × Nat)) (rows : List D) (pr : Pl → Bool) (k : Nat) : ∀ (l : List C) (q0 q : Nat) (c' : C), (handRow srcs rows pr k q0 l)[q]? = some c' →
    ∃ c, l[q]? = some c ∧ c' = (match idxOf (k, q0 + q) srcs with | some j => (match rows[j]? with | some d => .own d | none => .dead) | none => c.kill pr)
  | [], q0, q, c', h => by simp [handRow] at h
  | c :: l, q0, 0, c', h => by
    simp only [handRow, List.getElem?_cons_zero, Option.some.injEq] at h
    exact ⟨c, rfl, h.symm⟩
  | c :: l, q0, q + 1, c', h => by
    simp only [handRow, List.getElem?_cons_succ] at h
    obtain ⟨c1, h1, h2⟩ := handRow_get srcs rows pr k l (q0 + 1) q c' h
    exact ⟨c1, by simpa using h1, by rw [h2, show q0 + 1 + q = q0 + (q + 1) by omega]⟩
theorem handRow_len (srcs : List (Nat × Nat)) (rows : List D) (pr : Pl → Bool) (k : Nat) : ∀ (l : List C) (q0 : Nat), (handRow srcs rows pr k q0 l).length = l.length
  | [], _ => rfl
  | c :: l, q0 => by simp [handRow, handRow_len srcs rows pr k l]

/-- The caller's state behind such a call; whatever had the result's name is forgotten. -/
def St.handed (st : St) (srcs : List (Nat × Nat)) (mem : Bool) (rows : List D) (kd : Nat) : St :=
  ⟨st.tmps.map (TS.kill (killR srcs mem kd) (killP srcs kd)), (st.roots.filter fun x => x.1 != kd).map fun x => (x.1, ⟨x.2.mem, handRow srcs rows (killR srcs mem kd) x.1 0 x.2.row⟩)⟩

theorem root_handed (st : St) (srcs : List (Nat × Nat)) (mem : Bool) (rows : List D) (kd k : Nat) : (st.handed srcs mem rows kd).root k =
    if k = kd then none else (st.root k).map fun r => ⟨r.mem, handRow srcs rows (killR srcs mem kd) k 0 r.row⟩ := by
  obtain ⟨tm, roots⟩ := st
  simp only [St.root, St.handed]
  induction roots with
  | nil => simp
  | cons x l ih =>
    obtain ⟨i, r⟩ := x
    by_cases h1 : i = kd
    · subst h1
      simp only [List.filter_cons, bne_self_eq_false, Bool.false_eq_true, if_false, ih]
      by_cases h2 : k = i
      · simp [h2]
      · have : (i == k) = false := by simpa using fun e => h2 e.symm
        simp [h2, List.find?_cons, this]
    · have h1' : (i != kd) = true := by simpa using h1
      simp only [List.filter_cons, h1', if_true, List.map_cons, List.find?_cons]
      by_cases h2 : i = k
      · subst h2
        simp [h1]
      · have : (i == k) = false := by simpa using h2
        simp only [this, ih]

/-- The whole box, cell by cell. -/
def boxSrc (kb n : Nat) : List (Nat × Nat) := (List.range n).map fun q => (kb, q)

/-- What the caller must have. -/
structure CanHand (st : St) (h : Hand) (srcs : List (Nat × Nat)) (bx : Option Nat) (kd : Nat) : Prop where
  nodup : srcs.Nodup
  cont : contents st srcs = some h.row
  kdl : kd < 1000000
  nkd : ∀ s ∈ srcs, s.1 ≠ kd
  box : if h.mem then ∃ kb r, bx = some kb ∧ st.root kb = some r ∧ r.mem = true ∧ srcs = boxSrc kb h.row.length ∧ r.row.length = h.row.length ∧ kb ≠ kd else bx = none

/-- A cell as it is handed over. -/
inductive GiveC (st : St) (srcs : List (Nat × Nat)) (K : Nat) : C → C → Prop
  | ro (d : D) : GiveC st srcs K (.ro d) (.ro d)
  | hand {k q j : Nat} (h : idxOf (k, q) srcs = some j) : GiveC st srcs K (.ref ⟨k, [], q⟩) (.ref ⟨K, [], j⟩)
  | snap {pl : Pl} {d : D} (h : st.cellAt pl = some (.own d)) (hw : Whole d) (hn : (srcs.all fun s => s.1 != pl.k) = true) : GiveC st srcs K (.ref pl) (.ro d)
inductive GiveCs (st : St) (srcs : List (Nat × Nat)) (K : Nat) : List C → List C → Prop
  | nil : GiveCs st srcs K [] []
  | cons {c c' : C} {l l' : List C} (h : GiveC st srcs K c c') (hl : GiveCs st srcs K l l') : GiveCs st srcs K (c :: l) (c' :: l')
inductive GiveS (st : St) (srcs : List (Nat × Nat)) (bx : Option Nat) (K : Nat) : TS → TS → Prop
  | c {c c' : C} (h : GiveC st srcs K c c') : GiveS st srcs bx K (.one (.c c)) (.one (.c c'))
  | agg {cs cs' : List C} (h : GiveCs st srcs K cs cs') : GiveS st srcs bx K (.one (.agg cs)) (.one (.agg cs'))
  | ptr {kb q : Nat} (h : bx = some kb) : GiveS st srcs bx K (.one (.ptr ⟨kb, [], q⟩)) (.one (.ptr ⟨K, [], q⟩))
  | cptr (ds : List D) : GiveS st srcs bx K (.one (.cptr ds)) (.one (.cptr ds))
  | fn (f : FuncId) : GiveS st srcs bx K (.fn f []) (.fn f [])
inductive GivesAll (st : St) (srcs : List (Nat × Nat)) (bx : Option Nat) (K : Nat) : List TS → List TS → Prop
  | nil : GivesAll st srcs bx K [] []
  | cons {t t' : TS} {ts ts' : List TS} (h : GiveS st srcs bx K t t') (hs : GivesAll st srcs bx K ts ts') : GivesAll st srcs bx K (t :: ts) (t' :: ts')

theorem GiveCs.get {st : St} {srcs : List (Nat × Nat)} {K : Nat} {cs cs' : List C} (h : GiveCs st srcs K cs cs') : cs'.length = cs.length ∧ ∀ (j : Nat) c', cs'[j]? = some c' → ∃ c, cs[j]? = some c ∧ GiveC st srcs K c c' := by
  induction h with
  | nil => exact ⟨rfl, fun j c h => by simp at h⟩
  | cons h hl ih =>
    refine ⟨by simp [ih.1], fun j c' hj => ?_⟩
    cases j with
    | zero =>
      simp only [List.getElem?_cons_zero, Option.some.injEq] at hj
      subst hj
      exact ⟨_, rfl, h⟩
    | succ j => exact ih.2 j c' (by simpa using hj)
theorem GivesAll.get {st : St} {srcs : List (Nat × Nat)} {bx : Option Nat} {K : Nat} {ts ts' : List TS} (h : GivesAll st srcs bx K ts ts') : ts'.length = ts.length ∧ ∀ (i : Nat) t', ts'[i]? = some t' → ∃ t, ts[i]? = some t ∧ GiveS st srcs bx K t t' := by
  induction h with
  | nil => exact ⟨rfl, fun i t' hi => by simp at hi⟩
  | cons h hs ih =>
    refine ⟨by simp [ih.1], fun i t' hi => ?_⟩
    cases i with
    | zero =>
      simp only [List.getElem?_cons_zero, Option.some.injEq] at hi
      subst hi
      exact ⟨_, rfl, h⟩
    | succ i => exact ih.2 i t' (by simpa using hi)

section
variable {P : Program} {w0 : World} {g0 : Gh} {st : St} {a : Act} {w w' : World} {g g' : Gh} {h : Hand} {srcs : List (Nat × Nat)} {bx : Option Nat} {kd : Nat}

theorem hand_o (g : Gh) (n : Nat) (srcs : List (Nat × Nat)) (bx : Option Nat) (K : Nat) {b : Nat} (hb : b < n) (h : g.o b = .ro ∨ g.o b = .outer) : (g.hand n srcs bx K).o b = .ro := by
  simp only [Gh.hand, if_neg (Nat.not_le.2 hb)]
  rcases h with h | h <;> rw [h]

theorem CanHand.boxNone (hC : CanHand st h srcs bx kd) (hm : h.mem = false) : bx = none := by
  have := hC.box
  rw [hm] at this
  simpa using this
theorem CanHand.boxSome (hC : CanHand st h srcs bx kd) (hm : h.mem = true) : ∃ kb r, bx = some kb ∧ st.root kb = some r ∧ r.mem = true ∧ srcs = boxSrc kb h.row.length ∧ r.row.length = h.row.length ∧ kb ≠ kd := by
  have := hC.box
  rw [hm] at this
  simpa using this

theorem Rel.handed (hR : Rel w0 g0 st a w g) (hC : CanHand st h srcs bx kd) : Handed w (g.hand w.heap.size srcs bx h.k) h := by
  refine ⟨fun b hb => by simp [Gh.hand, hb], fun b hb => ?_, fun b => ?_, fun q d hq => ?_, fun hm => ?_⟩
  · simp only [Gh.hand, if_neg (Nat.not_le.2 hb)]
    split
    · split
      · split
        · exact .inr rfl
        · exact .inl rfl
      · split
        · exact .inr rfl
        · exact .inl rfl
    · split
      · exact .inr rfl
      · exact .inl rfl
    · exact .inl rfl
  · intro hb
    simp only [Gh.hand] at hb
    split at hb
    · cases hb
    · split at hb
      · split at hb <;> split at hb <;> cases hb
      · rename_i k' hk'
        split at hb
        · rename_i e
          simp only [Tag.box.injEq] at hb
          cases hm : h.mem with
          | false => rw [hC.boxNone hm] at e; cases e
          | true => simp [Hand.k, hm] at hb
        · cases hb
      · cases hb
  · obtain ⟨s, h1, h2⟩ := (contents_get hC.cont).2 q d hq
    have hO : Ow w g s.1 [] s.2 d := (hR.cellAt h2).1 d rfl
    have hi := idxOf_get hC.nodup h1
    have hlt : ∀ b, g.o b ≠ .outer → b < w.heap.size := fun b hb => by
      rcases Nat.lt_or_ge b w.heap.size with h | h
      · exact h
      · exact absurd (hR.ks.fresh b h) hb
    refine Ow.move hO ⟨?_, fun i r q' => ?_, fun i r => ?_, fun b hb => ⟨?_, rfl⟩, fun b i r q' hb => ⟨?_, rfl⟩⟩
    · simp [Gh.hand, h1]
    · simp [Gh.hand, h1]
    · simp [Gh.hand, h1]
    · have := hlt b (by rw [hb]; simp)
      simp only [Gh.hand, if_neg (Nat.not_le.2 this), hb, hi]
    · have := hlt b (by rw [hb]; simp)
      simp only [Gh.hand, if_neg (Nat.not_le.2 this), hb, List.nil_append, hi]
  · obtain ⟨kb, r, e1, e2, e3, e4, e5, e6⟩ := hC.boxSome hm
    have hK : h.k = pinB := by simp [Hand.k, hm]
    obtain ⟨m1, ⟨cs, e, m2⟩, m3⟩ := hR.rt.mem kb r e2 e3
    have had : (g.hand w.heap.size srcs bx h.k).ad pinB [] = g.ad kb [] := by simp [Gh.hand, hK, e1]
    have hlt := lt_of_heap m2
    rw [had]
    refine ⟨by simp only [Gh.hand, if_neg (Nat.not_le.2 hlt), m1, e1, if_true, hK], ⟨cs, e, m2⟩, fun q hq => ?_⟩
    rw [m3 q (by omega)]
    simp [Gh.hand, hK, e4, boxSrc, hq]

theorem Rel.giveC (hR : Rel w0 g0 st a w g) (hC : CanHand st h srcs bx kd) {c c' : C} {u : Value} (hg : GiveC st srcs h.k c c') (hu : RepV w g c u) : RepV w (g.hand w.heap.size srcs bx h.k) c' u := by
  cases hg with
  | ro d => exact Ro.mono (w := w) (fun b hb => ⟨hand_o g _ _ _ _ (hR.roLt b hb) (.inl hb), rfl⟩) hu
  | hand hi =>
    refine ⟨?_, hu.2⟩
    simp only [Gh.hand, if_true, idxOf_some hi]
    exact hu.1
  | @snap pl d hc hw hn =>
    have h1 : u = g.cv pl.k pl.p pl.q := hu.1
    rw [h1]
    refine ((hR.cellAt hc).1 d rfl).roAt hw fun b hb hlt => ?_
    have hno : ∀ q, idxOf (pl.k, q) srcs = none := fun q => by
      cases hi : idxOf (pl.k, q) srcs with
      | none => rfl
      | some j =>
        have := List.all_eq_true.1 hn _ (List.mem_of_getElem? (idxOf_some hi))
        simp at this
    simp only [Gh.hand, if_neg (Nat.not_le.2 hlt)]
    cases ht : g.o b with
    | lies k' p q =>
      rw [ht] at hb
      have e : k' = pl.k := by simpa [Tag.root?] using hb
      subst e
      cases p with
      | nil => simp [hno]
      | cons x r => simp [hno]
    | box k' =>
      rw [ht] at hb
      have e : k' = pl.k := by simpa [Tag.root?] using hb
      subst e
      simp only
      split
      · rename_i e
        exfalso
        cases hm : h.mem with
        | false => rw [hC.boxNone hm] at e; cases e
        | true =>
          obtain ⟨kb, r, e1, e2, e3, e4, e5, e6⟩ := hC.boxSome hm
          rw [e1] at e
          simp only [Option.some.injEq] at e
          have hroot : st.root pl.k = some r := e ▸ e2
          have hrow : h.row ≠ [] := fun e0 => by
            rw [e0] at e5
            have : r.row = [] := List.eq_nil_of_length_eq_zero (by simpa using e5)
            simp only [St.cellAt, hroot, this] at hc
            split at hc
            · simp at hc
            · simp at hc
          have hl : 0 < h.row.length := List.length_pos_iff.2 hrow
          have := List.all_eq_true.1 hn (kb, 0) (by rw [e4, boxSrc]; exact List.mem_map.2 ⟨0, List.mem_range.2 hl, rfl⟩)
          simp [e] at this
      · rfl
    | ro => rfl
    | outer => rfl

theorem Rel.giveS (hR : Rel w0 g0 st a w g) (hC : CanHand st h srcs bx kd) {t t' : TS} {u : Value} (hg : GiveS st srcs bx h.k t t') (hu : RepS w g t u) : RepS w (g.hand w.heap.size srcs bx h.k) t' u := by
  cases hg with
  | c hc =>
    cases hu with
    | one _ _ hu => cases hu with
      | c _ _ hu => exact .one _ _ (.c _ _ (hR.giveC hC hc hu))
  | agg hcs =>
    cases hu with
    | one _ _ hu => cases hu with
      | agg _ us hs hv =>
        refine .one _ _ (.agg _ us (by rw [hcs.get.1]; exact hs) fun j c' u hj hu => ?_)
        obtain ⟨c, h1, h2⟩ := hcs.get.2 j c' hj
        exact hR.giveC hC h2 (hv j c u h1 hu)
  | @ptr kb q hb =>
    cases hu with
    | one _ _ hu => cases hu with
      | ptr _ =>
        have := RepT.ptr (w := w) (g := g.hand w.heap.size srcs bx h.k) ⟨h.k, [], q⟩
        have had : (g.hand w.heap.size srcs bx h.k).ad h.k [] = g.ad kb [] := by simp [Gh.hand, hb]
        simp only [had] at this
        exact .one _ _ this
  | cptr ds =>
    cases hu with
    | one _ _ hu => cases hu with
      | cptr _ b off us ho hcell =>
        have hro : ∀ b, g.o b = .ro → (g.hand w.heap.size srcs bx h.k).o b = .ro ∧ w.heap[b]? = w.heap[b]? := fun b hb => ⟨hand_o g _ _ _ _ (hR.roLt b hb) (.inl hb), rfl⟩
        exact .one _ _ (.cptr ds b off us (hro b ho).1 fun j d hj => ⟨(hcell j d hj).1, (hcell j d hj).2.mono hro⟩)
  | fn f =>
    cases hu with
    | fn _ _ us hs hh => exact .fn f [] us hs fun j t u h1 _ => by simp at h1

theorem boxSrc_get {kb n q : Nat} (hq : q < n) : idxOf (kb, q) (boxSrc kb n) = some q := by
  refine idxOf_get ?_ (by simp [boxSrc, hq])
  unfold boxSrc List.Nodup
  rw [List.pairwise_map]
  exact List.nodup_range.imp fun hne e => hne (by simpa using e)

/-- THE CALLER BEHIND THE CALL. -/
theorem Rel.called2 (hR : Rel w0 g0 st a w g) (hC : CanHand st h srcs bx kd) {rows : List D} {r : Res} {v : Value} (hG : Gives2 w (g.hand w.heap.size srcs bx h.k) h kd rows r v w' g') :
    ∃ g2, Rel w0 g0 (st.handed srcs h.mem rows kd) a w' g2 ∧ (∀ (q : Nat) d, r.row[q]? = some d → Ow w' g2 kd [] q d) ∧
      (∀ t u, okS kd r.row.length t = true → RepS w' g' t u → RepS w' g2 t u) := by
  generalize hgc : g.hand w.heap.size srcs bx h.k = gc at hG
  have hK1 : pinK ≠ kd := by have := hC.kdl; simp only [pinK]; omega
  have hB1 : pinB ≠ kd := by have := hC.kdl; simp only [pinB]; omega
  have hkK : kd ≠ h.k := by have := hC.kdl; have := h.big; omega
  have hgro : ∀ b, b < w.heap.size → (g.o b = .ro ∨ g.o b = .outer) → gc.o b = .ro := fun b hb h1 => by subst hgc; exact hand_o g _ _ _ _ hb h1
  have hlt : ∀ b, g.o b ≠ .outer → b < w.heap.size := fun b hb => by
    rcases Nat.lt_or_ge b w.heap.size with h | h
    · exact h
    · exact absurd (hR.ks.fresh b h) hb
  generalize hg2 : g.back gc g' w.heap.size w'.heap.size srcs bx h.k kd = g2
  have hkeep : ∀ b, b < w.heap.size → gc.o b = .ro → g2.o b = g.o b ∧ w'.heap[b]? = w.heap[b]? := fun b hb h1 => by
    refine ⟨?_, hG.block b hb h1⟩
    subst hg2
    simp only [Gh.back]
    exact if_pos ⟨hb, isRo_iff.2 h1⟩
  have hnew : ∀ b, b < w'.heap.size → (w.heap.size ≤ b ∨ gc.o b ≠ .ro) → g2.o b = backT srcs bx h.k kd (g'.o b) := fun b hb h1 => by
    subst hg2
    simp only [Gh.back]
    rw [if_neg (fun ⟨h2, h3⟩ => by
      rcases h1 with h1 | h1
      · omega
      · exact h1 (isRo_iff.1 h3)), if_pos hb]
  have hro : ∀ b, g.o b = .ro → g2.o b = .ro ∧ w'.heap[b]? = w.heap[b]? := fun b hb => by
    have h1 := hlt b (by rw [hb]; simp)
    obtain ⟨h2, h3⟩ := hkeep b h1 (hgro b h1 (.inl hb))
    exact ⟨h2.trans hb, h3⟩
  -- what the hand-over left alone
  have hcv0 : ∀ k' q, k' ≠ kd → idxOf (k', q) srcs = none → g2.cv k' [] q = g.cv k' [] q := fun k' q h1 h2 => by
    subst hg2; simp only [Gh.back, if_neg h1, h2]
  have hcv1 : ∀ k' q1 i r q, k' ≠ kd → idxOf (k', q1) srcs = none → g2.cv k' ((q1, i) :: r) q = g.cv k' ((q1, i) :: r) q := fun k' q1 i r q h1 h2 => by
    subst hg2; simp only [Gh.back, if_neg h1, h2]
  have had0 : ∀ k', k' ≠ kd → g2.ad k' [] = g.ad k' [] := fun k' h1 => by
    subst hg2; simp only [Gh.back, if_neg h1]
  have had1 : ∀ k' q1 i r, k' ≠ kd → idxOf (k', q1) srcs = none → g2.ad k' ((q1, i) :: r) = g.ad k' ((q1, i) :: r) := fun k' q1 i r h1 h2 => by
    subst hg2; simp only [Gh.back, if_neg h1, h2]
  have hcvh : ∀ k' q j, k' ≠ kd → idxOf (k', q) srcs = some j → g2.cv k' [] q = g'.cv h.k [] j := fun k' q j h1 h2 => by
    subst hg2; simp only [Gh.back, if_neg h1, h2]
  have hpin : h.mem = false → ∀ k' q j, k' ≠ kd → idxOf (k', q) srcs = some j → g2.cv k' [] q = g.cv k' [] q := fun hm k' q j h1 h2 => by
    have hK : h.k = pinK := by simp [Hand.k, hm]
    rw [hcvh k' q j h1 h2, hK, hG.pinl hm, ← hgc]
    simp [Gh.hand, hK, idxOf_some h2]
  have hcont : ∀ k' q, srcs.contains (k', q) = false → idxOf (k', q) srcs = none := fun k' q h1 => by
    cases hi : idxOf (k', q) srcs with
    | none => rfl
    | some j =>
      have := List.mem_of_getElem? (idxOf_some hi)
      rw [List.contains_iff_mem.2 this] at h1
      cases h1
  have hA : Agree w g w' g2 (killR srcs h.mem kd) (killP srcs kd) := by
    refine ⟨hro, fun pl hp => ?_, fun pl hp => ?_⟩
    · obtain ⟨k', p, q⟩ := pl
      simp only [killR, Bool.or_eq_false_iff, Bool.and_eq_false_iff, beq_eq_false_iff_ne] at hp
      obtain ⟨h1, h2⟩ := hp
      cases p with
      | nil =>
        cases hi : idxOf (k', q) srcs with
        | none => exact hcv0 k' q h1 hi
        | some j =>
          rcases h2 with h2 | h2
          · rw [hcont k' q h2] at hi; cases hi
          · exact hpin (by simpa using h2) k' q j h1 hi
      | cons x r =>
        obtain ⟨q1, i⟩ := x
        rcases h2 with h2 | h2
        · exact hcv1 k' q1 i r q h1 (hcont k' q1 h2)
        · simp at h2
    · obtain ⟨k', p, q⟩ := pl
      simp only [killP, Bool.or_eq_false_iff, Bool.and_eq_false_iff, beq_eq_false_iff_ne] at hp
      obtain ⟨h1, h2⟩ := hp
      cases p with
      | nil => exact had0 k' h1
      | cons x r =>
        obtain ⟨q1, i⟩ := x
        rcases h2 with h2 | h2
        · exact had1 k' q1 i r h1 (hcont k' q1 h2)
        · simp at h2
  have hK : Keeps w0 g0 w' g2 := by
    have hk := hR.ks
    refine ⟨hG.os.trans hk.os, hG.tape.trans hk.tape, hG.output.trans hk.output, Nat.le_trans hk.size hG.size, fun b hb hx => ?_, fun b hb => ?_, fun b hb hx => ?_, ⟨fun q => ?_, ?_⟩, fun b hb => ?_⟩
    · obtain ⟨h1, h2⟩ := hk.block b hb hx
      have h3 : b < w.heap.size := by have := hk.size; omega
      obtain ⟨h4, h5⟩ := hkeep b h3 (hgro b h3 (by rw [h2]; exact hx))
      exact ⟨h5.trans h1, h4.trans h2⟩
    · have h1 : ¬ b < w.heap.size := by have := hG.size; omega
      subst hg2
      simp only [Gh.back, if_neg (fun hh : b < w.heap.size ∧ _ => h1 hh.1), if_neg (Nat.not_lt.2 hb)]
    · by_cases h1 : b < w.heap.size ∧ gc.o b = .ro
      · rw [(hkeep b h1.1 h1.2).1] at hx
        exact hk.old b h1.1 hx
      · rw [hnew b hb (by rcases Nat.lt_or_ge b w.heap.size with h2 | h2; exact .inr (fun h3 => h1 ⟨h2, h3⟩); exact .inl h2)] at hx
        exfalso
        revert hx
        cases g'.o b with
        | lies k' p q =>
          simp only [backT]
          split
          · split <;> split <;> simp
          · split <;> simp
        | box k' =>
          simp only [backT]
          split
          · split <;> simp
          · simp
        | _ => simp [backT]
    · cases hi : idxOf (pinK, q) srcs with
      | none => rw [hcv0 pinK q hK1 hi]; exact hk.pin.1 q
      | some j =>
        cases hm : h.mem with
        | false => rw [hpin hm pinK q j hK1 hi]; exact hk.pin.1 q
        | true =>
          exfalso
          obtain ⟨kb, r, e1, e2, e3, e4, e5, e6⟩ := hC.boxSome hm
          have := idxOf_some hi
          rw [e4, boxSrc, List.getElem?_map, Option.map_eq_some_iff] at this
          obtain ⟨x, _, hx⟩ := this
          simp only [Prod.mk.injEq] at hx
          have hm1 := (hR.rt.mem kb r e2 e3).1
          rw [hx.1] at hm1
          exact hk.nobox _ hm1
    · rw [had0 pinB hB1]; exact hk.pin.2
    · by_cases hb2 : b < w'.heap.size
      · by_cases h1 : b < w.heap.size ∧ gc.o b = .ro
        · rw [(hkeep b h1.1 h1.2).1] at hb
          exact hk.nobox b hb
        · rw [hnew b hb2 (by rcases Nat.lt_or_ge b w.heap.size with h2 | h2; exact .inr (fun h3 => h1 ⟨h2, h3⟩); exact .inl h2)] at hb
          revert hb
          cases g'.o b with
          | lies k' p q =>
            simp only [backT]
            split
            · split <;> split <;> simp
            · split <;> simp
          | box k' =>
            simp only [backT]
            split
            · cases hbx : bx with
              | none => simp
              | some kb =>
                intro hb
                simp only [Tag.box.injEq] at hb
                cases hm : h.mem with
                | false => rw [hC.boxNone hm] at hbx; cases hbx
                | true =>
                  obtain ⟨kb2, r, e1, e2, e3, e4, e5, e6⟩ := hC.boxSome hm
                  rw [e1] at hbx
                  simp only [Option.some.injEq] at hbx
                  have hm1 := (hR.rt.mem _ r e2 e3).1
                  rw [hbx, hb] at hm1
                  exact hk.nobox _ hm1
            · simp
          | _ => simp [backT]
      · have h1 : ¬ b < w.heap.size := by have := hG.size; omega
        subst hg2
        simp only [Gh.back, if_neg (fun hh : b < w.heap.size ∧ _ => h1 hh.1), if_neg hb2] at hb
        cases hb
  -- what was handed over, at its old place
  have hback : ∀ k' q j d, k' ≠ kd → idxOf (k', q) srcs = some j → rows[j]? = some d → Ow w' g2 k' [] q d := fun k' q j d h1 h2 h3 => by
    have hs := idxOf_some h2
    have hnd := hC.nodup
    refine Ow.move (hG.hrow j d h3) ⟨hcvh k' q j h1 h2, fun i r q' => ?_, fun i r => ?_, fun b hb => ⟨?_, rfl⟩, fun b i r q' hb => ⟨?_, rfl⟩⟩
    · subst hg2; simp only [Gh.back, if_neg h1, List.nil_append, h2]
    · subst hg2; simp only [Gh.back, if_neg h1, List.nil_append, h2]
    · obtain ⟨o1, o2⟩ := hG.old b (.inr (by rw [hb]; rfl))
      rw [hnew b o1 o2, hb]
      simp only [backT, if_true, hs]
    · obtain ⟨o1, o2⟩ := hG.old b (.inr (by rw [hb]; rfl))
      rw [hnew b o1 o2, hb]
      simp only [backT, List.nil_append, if_true, hs]
  have hsame : ∀ k' q d, k' ≠ kd → idxOf (k', q) srcs = none → Ow w g k' [] q d → Ow w' g2 k' [] q d := fun k' q d h1 h2 h3 => by
    have hb0 : ∀ b p q', g.o b = .lies k' p q' → (p = [] ∧ q' = q ∨ ∃ i r, p = (q, i) :: r) → g2.o b = g.o b ∧ w'.heap[b]? = w.heap[b]? := fun b p q' hb hp => by
      have hl := hlt b (by rw [hb]; simp)
      refine hkeep b hl ?_
      subst hgc
      simp only [Gh.hand, if_neg (Nat.not_le.2 hl), hb]
      rcases hp with ⟨rfl, rfl⟩ | ⟨i, r, rfl⟩
      · simp only [h2]
      · simp only [h2]
    refine Ow.move h3 ⟨hcv0 k' q h1 h2, fun i r q' => hcv1 k' q i r q' h1 h2, fun i r => had1 k' q i r h1 h2, fun b hb => ?_, fun b i r q' hb => ?_⟩
    · have := hb0 b [] q hb (.inl ⟨rfl, rfl⟩)
      exact ⟨this.1.trans hb, this.2⟩
    · have := hb0 b _ q' hb (.inr ⟨i, r, rfl⟩)
      exact ⟨this.1.trans hb, this.2⟩
  refine ⟨g2, hR.change hA rfl ⟨fun k' r' hk' q c hq => ?_, fun k' r' hk' hm => ?_⟩ hK, fun q d hq => ?_, fun t u ht hu => ?_⟩
  · rw [root_handed] at hk'
    split at hk'
    · cases hk'
    · rename_i hne
      rw [Option.map_eq_some_iff] at hk'
      obtain ⟨r1, h1, rfl⟩ := hk'
      obtain ⟨c1, h2, rfl⟩ := handRow_get srcs rows _ k' r1.row 0 q c hq
      rw [Nat.zero_add]
      cases hi : idxOf (k', q) srcs with
      | some j =>
        simp only
        cases hd : rows[j]? with
        | none => trivial
        | some d => exact hback k' q j d hne hi hd
      | none =>
        simp only
        have hc := hR.rt.cell k' r1 h1 q c1 h2
        have hcv := hcv0 k' q hne hi
        cases c1 with
        | ro d => show Ro w' g2.o d (g2.cv k' [] q); rw [hcv]; exact Ro.mono hro hc
        | own d => exact hsame k' q d hne hi hc
        | ref pl =>
          have h3 : g.cv k' [] q = g.cv pl.k pl.p pl.q ∧ (g.cv k' [] q).oneCell' = true := hc
          simp only [C.kill]
          cases hp : killR srcs h.mem kd pl with
          | true => trivial
          | false =>
            show g2.cv k' [] q = g2.cv pl.k pl.p pl.q ∧ (g2.cv k' [] q).oneCell' = true
            rw [hcv, hA.cv pl hp]
            exact h3
        | dead => trivial
  · rw [root_handed] at hk'
    split at hk'
    · cases hk'
    · rename_i hne
      rw [Option.map_eq_some_iff] at hk'
      obtain ⟨r1, h1, rfl⟩ := hk'
      obtain ⟨m1, ⟨cs, e, m2⟩, m3⟩ := hR.rt.mem k' r1 h1 hm
      have hl := lt_of_heap m2
      rw [had0 k' hne]
      by_cases hbx : bx = some k'
      · have hm' : h.mem = true := by
          cases hmm : h.mem with
          | true => rfl
          | false => rw [hC.boxNone hmm] at hbx; cases hbx
        obtain ⟨kb, r2, e1, e2, e3, e4, e5, e6⟩ := hC.boxSome hm'
        rw [e1] at hbx
        simp only [Option.some.injEq] at hbx
        subst hbx
        obtain ⟨p1, p2, ⟨cs2, ee2, p3⟩, p4⟩ := hG.pinb hm'
        have hKB : h.k = pinB := by simp [Hand.k, hm']
        have hcad : gc.ad pinB [] = g.ad kb [] := by subst hgc; simp [Gh.hand, hKB, e1]
        rw [p1, hcad] at p2 p3 p4
        have hgo : gc.o (g.ad kb []).1 ≠ .ro := by
          subst hgc
          simp only [Gh.hand, if_neg (Nat.not_le.2 hl), m1, e1, if_true]
          simp
        refine ⟨?_, ⟨cs2, ee2, p3⟩, fun q hq => ?_⟩
        · rw [hnew _ (by have := hG.size; omega) (.inr hgo), p2]
          simp [backT, hKB, e1]
        · rw [h1] at e2
          simp only [Option.some.injEq] at e2
          subst e2
          simp only [handRow_len] at hq
          rw [p4 q (by rw [hG.hlen, ← e5]; exact hq)]
          rw [hcvh kb q q hne (by rw [e4]; exact boxSrc_get (by omega)), hKB]
      · have hgo : gc.o (g.ad k' []).1 = .ro := by
          subst hgc
          simp only [Gh.hand, if_neg (Nat.not_le.2 hl), m1, if_neg hbx]
        obtain ⟨k1, k2⟩ := hkeep _ hl hgo
        refine ⟨k1.trans m1, ⟨cs, e, k2.trans m2⟩, fun q hq => ?_⟩
        simp only [handRow_len] at hq
        rw [cellAddr, cell_eq k2]
        have h5 := m3 q hq
        rw [cellAddr] at h5
        rw [h5]
        cases hi : idxOf (k', q) srcs with
        | none => rw [hcv0 k' q hne hi]
        | some j =>
          cases hmm : h.mem with
          | false => rw [hpin hmm k' q j hne hi]
          | true =>
            exfalso
            obtain ⟨kb, r2, e1, e2, e3, e4, e5, e6⟩ := hC.boxSome hmm
            have := idxOf_some hi
            rw [e4, boxSrc, List.getElem?_map, Option.map_eq_some_iff] at this
            obtain ⟨x, _, hx⟩ := this
            simp only [Prod.mk.injEq] at hx
            exact hbx (by rw [e1, hx.1])
  · refine Ow.move (hG.row q d hq) ⟨?_, fun i r q' => ?_, fun i r => ?_, fun b hb => ⟨?_, rfl⟩, fun b i r q' hb => ⟨?_, rfl⟩⟩
    · subst hg2; simp only [Gh.back, if_true]
    · subst hg2; simp only [Gh.back, if_true]
    · subst hg2; simp only [Gh.back, if_true]
    · obtain ⟨o1, o2⟩ := hG.old b (.inl (by rw [hb]; rfl))
      rw [hnew b o1 o2, hb]
      simp [backT, hkK]
    · obtain ⟨o1, o2⟩ := hG.old b (.inl (by rw [hb]; rfl))
      rw [hnew b o1 o2, hb]
      simp [backT, hkK]
  · have hcvk : ∀ p q, g2.cv kd p q = g'.cv kd p q := fun p q => by subst hg2; simp only [Gh.back, if_true]
    have hCC : ∀ c u, okC kd r.row.length c = true → RepV w' g' c u → RepV w' g2 c u := fun c u h1 h2 => by
      cases c with
      | ro d =>
        cases d with
        | v x =>
          have h3 : Ro w' g'.o (.v x) u := h2
          cases h3 with
          | v _ hp => exact Ro.v _ hp
        | _ => cases h1
      | own d => exact h2
      | ref pl =>
        simp only [okC, Bool.and_eq_true, beq_iff_eq] at h1
        obtain ⟨⟨h3, _⟩, _⟩ := h1
        show u = g2.cv pl.k pl.p pl.q ∧ u.oneCell' = true
        rw [h3, hcvk, ← h3]
        exact h2
      | dead => trivial
    have hT : ∀ t u, okV kd r.row.length t = true → RepT w' g' t u → RepT w' g2 t u := fun t u h1 h2 => by
      cases h2 with
      | c c u hv => exact .c c u (hCC c u h1 hv)
      | agg cs us hs hv => exact .agg cs us hs fun j c u h3 h4 => hCC c u (List.all_eq_true.1 h1 c (List.mem_of_getElem? h3)) (hv j c u h3 h4)
      | ptr pl => cases h1
      | tab pls b off hro hcell => cases h1
      | ptab pls b off hro hcell => cases h1
      | cptr ds b off us ho hcell => cases h1
      | dead u => exact .dead u
    cases hu with
    | one t u hh => exact .one t _ (hT t _ ht hh)
    | tup ts us hs hh => exact .tup ts us hs fun j t u h3 h4 => hT t u (List.all_eq_true.1 ht t (List.mem_of_getElem? h3)) (hh j t u h3 h4)
    | fn f caps us hs hh => cases ht
end
end Go.Proofs.YtdlpmcjpbcbbjaaDoor.T
