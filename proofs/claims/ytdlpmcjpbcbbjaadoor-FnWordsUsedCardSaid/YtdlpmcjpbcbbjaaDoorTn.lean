/- The lifted walk, part n: a function's body and its results make its contract. No condition. -/
import Derived.Test.YtdlpmcjpbcbbjaaDoorTm
namespace Go.Proofs.YtdlpmcjpbcbbjaaDoor.T
open Go
set_option linter.unusedVariables false
set_option linter.unusedSimpArgs false

/-- The roots' cells that a value refers to. -/
def refC : C → List (Nat × Nat)
  | .ref pl => [(pl.k, pl.q)]
  | _ => []
def refV : TV → List (Nat × Nat)
  | .c x => refC x
  | .agg cs => cs.flatMap refC
  | _ => []

def idxOf (s : Nat × Nat) : List (Nat × Nat) → Option Nat
  | [] => none
  | x :: l => if x = s then some 0 else (idxOf s l).map (· + 1)

theorem idxOf_some {s : Nat × Nat} : ∀ {l : List (Nat × Nat)} {j : Nat}, idxOf s l = some j → l[j]? = some s
  | [], j, h => by cases h
  | x :: l, j, h => by
    simp only [idxOf] at h
    split at h
    · rename_i e
      simp only [Option.some.injEq] at h
      subst h; subst e
      rfl
    · rw [Option.map_eq_some_iff] at h
      obtain ⟨i, h1, rfl⟩ := h
      rw [List.getElem?_cons_succ]
      exact idxOf_some h1

theorem idxOf_get {s : Nat × Nat} : ∀ {l : List (Nat × Nat)} {j : Nat}, l.Nodup → l[j]? = some s → idxOf s l = some j
  | [], j, _, h => by simp at h
  | x :: l, 0, hn, h => by
    simp only [List.getElem?_cons_zero, Option.some.injEq] at h
    simp [idxOf, h]
  | x :: l, j + 1, hn, h => by
    rw [List.getElem?_cons_succ] at h
    have hne : x ≠ s := fun e => by
      subst e
      exact (List.nodup_cons.1 hn).1 (List.mem_of_getElem? h)
    simp only [idxOf, if_neg hne, idxOf_get (List.nodup_cons.1 hn).2 h, Option.map_some]

/-- The value told from the result's root. -/
def gathC (srcs : List (Nat × Nat)) (k : Nat) : C → C
  | .ro (.v x) => .ro (.v x)
  | .ref pl => match pl.p, idxOf (pl.k, pl.q) srcs with
    | [], some j => .ref ⟨k, [], j⟩
    | _, _ => .dead
  | _ => .dead
def gathV (srcs : List (Nat × Nat)) (k : Nat) : TV → TV
  | .c x => .c (gathC srcs k x)
  | .agg cs => .agg (cs.map (gathC srcs k))
  | _ => .dead

def contents (st : St) : List (Nat × Nat) → Option (List D)
  | [] => some []
  | s :: l => match st.cellAt ⟨s.1, [], s.2⟩, contents st l with
    | some (.own d), some ds => some (d :: ds)
    | _, _ => none

theorem contents_get {st : St} : ∀ {l : List (Nat × Nat)} {ds : List D}, contents st l = some ds → ds.length = l.length ∧ ∀ (j : Nat) d, ds[j]? = some d → ∃ s, l[j]? = some s ∧ st.cellAt ⟨s.1, [], s.2⟩ = some (.own d)
  | [], ds, h => by
    simp only [contents, Option.some.injEq] at h
    subst h
    exact ⟨rfl, fun j d hj => by simp at hj⟩
  | s :: l, ds, h => by
    simp only [contents] at h
    split at h
    · rename_i d ds' h1 h2
      simp only [Option.some.injEq] at h
      subst h
      have ih := contents_get h2
      refine ⟨by simp [ih.1], fun j d' hj => ?_⟩
      cases j with
      | zero =>
        simp only [List.getElem?_cons_zero, Option.some.injEq] at hj
        subst hj
        exact ⟨s, rfl, h1⟩
      | succ j => exact ih.2 j d' (by simpa using hj)
    · cases h

def Gh.gather (g : Gh) (srcs : List (Nat × Nat)) (k : Nat) : Gh where
  o b := match g.o b with
    | .lies k' p q => match p with
      | [] => match idxOf (k', q) srcs with | some j => .lies k [] j | none => .ro
      | (q1, i) :: r => match idxOf (k', q1) srcs with | some j => .lies k ((j, i) :: r) q | none => .ro
    | .box _ => .ro
    | t => t
  ad _ p := match p with | [] => (0, 0) | (j, i) :: r => match srcs[j]? with | some s => g.ad s.1 ((s.2, i) :: r) | none => (0, 0)
  cv _ p q := match p with | [] => (match srcs[q]? with | some s => g.cv s.1 [] s.2 | none => undef) | (j, i) :: r => match srcs[j]? with | some s => g.cv s.1 ((s.2, i) :: r) q | none => undef

section
variable {P : Program} {w w' : World} {g0 g : Gh} {st : St} {a : Act}

theorem Rel.gives (hR : Rel w g0 st a w' g) (h0 : g0.o = allRo w) {srcs : List (Nat × Nat)} (hn : srcs.Nodup) {row : List D} (hc : contents st srcs = some row) (k : Nat) {T : Nat → TS} {v : Value}
    (hv : RepS w' (g.gather srcs k) (T k) v) : Gives w k ⟨row, T⟩ v w' (g.gather srcs k) := by
  have hblk : ∀ b, b < w.heap.size → w'.heap[b]? = w.heap[b]? ∧ g.o b = .ro := fun b hb => by
    have h1 : g0.o b = .ro := by rw [h0]; simp [allRo, hb]
    obtain ⟨h2, h3⟩ := hR.ks.block b hb (.inl h1)
    exact ⟨h2, h3.trans h1⟩
  refine ⟨hR.ks.os, hR.ks.tape, hR.ks.output, hR.ks.size, fun b hb => (hblk b hb).1, fun b h1 h2 => ?_, fun b hb => ⟨?_, ?_⟩, fun q d hq => ?_, hv⟩
  · simp only [Gh.gather]
    cases ht : g.o b with
    | ro => exact .inl rfl
    | outer =>
      have := (hR.ks.old b h2 ht).1
      omega
    | box k' => exact .inl rfl
    | lies k' p q =>
      cases p with
      | nil =>
        simp only
        split
        · exact .inr rfl
        · exact .inl rfl
      | cons x r =>
        obtain ⟨q1, i⟩ := x
        simp only
        split
        · exact .inr rfl
        · exact .inl rfl
  · rcases Nat.lt_or_ge b w.heap.size with h | h
    · have := (hblk b h).2
      simp only [Gh.gather, this] at hb
      cases hb
    · exact h
  · rcases Nat.lt_or_ge b w'.heap.size with h | h
    · exact h
    · have := hR.ks.fresh b h
      simp only [Gh.gather, this] at hb
      cases hb
  · obtain ⟨s, h1, h2⟩ := (contents_get hc).2 q d hq
    have hO : Ow w' g s.1 [] s.2 d := (hR.cellAt h2).1 d rfl
    have hi := idxOf_get hn h1
    refine Ow.move hO ⟨?_, fun i r q' => ?_, fun i r => ?_, fun b hb => ⟨?_, rfl⟩, fun b i r q' hb => ⟨?_, rfl⟩⟩
    · simp [Gh.gather, h1]
    · simp [Gh.gather, h1]
    · simp [Gh.gather, h1]
    · simp only [Gh.gather, hb, hi]
    · simp only [Gh.gather, hb, List.nil_append, hi]

theorem gathC_rep {srcs : List (Nat × Nat)} {k : Nat} {c : C} {u : Value} (h : RepV w' g c u) : RepV w' (g.gather srcs k) (gathC srcs k c) u := by
  cases c with
  | ro d =>
    cases d with
    | v x =>
      have h3 : Ro w' g.o (.v x) u := h
      cases h3 with
      | v _ hp => exact Ro.v _ hp
    | _ => trivial
  | own d => trivial
  | ref pl =>
    obtain ⟨pk, pp, pq⟩ := pl
    simp only [gathC]
    split
    · rename_i j h1 h2
      have := idxOf_some h2
      refine ⟨?_, h.2⟩
      simp only [Gh.gather, this]
      exact h.1
    · trivial
  | dead => trivial

theorem gathV_rep {srcs : List (Nat × Nat)} {k : Nat} {t : TV} {u : Value} (h : RepT w' g t u) : RepT w' (g.gather srcs k) (gathV srcs k t) u := by
  cases h with
  | c c u hv => exact .c _ u (gathC_rep hv)
  | agg cs us hs hv =>
    refine .agg _ us (by simpa using hs) fun j c u h1 h2 => ?_
    rw [List.getElem?_map, Option.map_eq_some_iff] at h1
    obtain ⟨c', h1, rfl⟩ := h1
    exact gathC_rep (hv j c' u h1 h2)
  | _ => exact .dead _

/-- One result, or several. -/
def resT : List TV → TS
  | [t] => .one t
  | l => .tup l

/-- A result as the state tells it. -/
def resTV (P : Program) (st : St) : ResultVar → Option TV
  | .tmp t => match st.tmps[t]? with | some (.one tv) => some tv | _ => none
  | .cell a ty => match st.tmps[a]? with
    | some (.one (.ptr pl)) => if st.isMem pl = true then (match aggT P ty with
      | some false => (st.cellAt pl).map fun c => .c (valC pl c)
      | some true => (match sizeT P ty with | some n => (st.cellsAt pl.k pl.p pl.q n).map .agg | none => none)
      | none => none) else none
    | _ => none

/-- One value, or several. -/
def tupV : List Value → Value
  | [v] => v
  | l => .tuple l.toArray

def resOf (tmps : Array Value) : ResultVar → Sem Value
  | .tmp t => pure (tmps.getD t undef)
  | .cell a t => do loadVar t (← asAddr (tmps.getD a undef))

theorem Rel.result (hR : Rel w g0 st a w' g) {rv : ResultVar} {tv : TV} (h : resTV P st rv = some tv) :
    ∃ u, (resOf a.tmps rv).run P w' = .ok u w' ∧ RepT w' g tv u := by
  cases rv with
  | tmp t =>
    simp only [resTV] at h
    split at h
    · rename_i tv' h1
      simp only [Option.some.injEq] at h
      subst h
      have h2 := hR.tm t _ h1
      generalize hv : a.tmps.getD t undef = u at h2
      cases h2 with
      | one _ _ h2 => exact ⟨u, (by show (pure (a.tmps.getD t undef) : Sem Value).run P w' = _; rw [hv]; rfl), h2⟩
    · cases h
  | cell c t =>
    simp only [resTV] at h
    split at h
    · rename_i pl h1
      split at h
      · rename_i hm
        have h2 := hR.tm c _ h1
        generalize hv : a.tmps.getD c undef = v at h2
        cases h2 with
        | one _ _ h2 =>
          cases h2 with
          | ptr _ =>
            split at h
            · rename_i ht
              rw [Option.map_eq_some_iff] at h
              obtain ⟨c', hc, rfl⟩ := h
              have h3 := hR.cellAt hc
              refine ⟨_, ?_, .c _ _ h3.2.1⟩
              show Sem.run P (do loadVar t (← asAddr (a.tmps.getD c undef))) w' = _
              rw [hv]
              simp [asAddr, loadVar, run_isAgg' ht, h3.2.2.1 hm]
            · rename_i ht
              split at h
              · rename_i n hs
                rw [Option.map_eq_some_iff] at h
                obtain ⟨l, hl, rfl⟩ := h
                obtain ⟨h2, h3, h4⟩ := hR.cellsAt hl hm
                refine ⟨.agg ((List.range n).map fun j => g.cv pl.k pl.p (pl.q + j)).toArray, ?_, .agg _ _ (by simp [h2]) fun j c u hj hu => ?_⟩
                · have hrun := run_loadCells (P := P) w' (cellAddr (g.ad pl.k pl.p) pl.q) n (fun j => g.cv pl.k pl.p (pl.q + j)) (fun j hj => by rw [addr_add]; exact h3 j hj)
                  show Sem.run P (do loadVar t (← asAddr (a.tmps.getD c undef))) w' = _
                  rw [hv]
                  simp [asAddr, loadVar, run_isAgg' ht, run_sizeOf' hs, hrun]
                · rw [List.getElem?_toArray, List.getElem?_map, Option.map_eq_some_iff] at hu
                  obtain ⟨j', h5, rfl⟩ := hu
                  rw [List.getElem?_range (by rw [← h2]; exact (List.getElem?_eq_some_iff.1 hj).1)] at h5
                  simp only [Option.some.injEq] at h5
                  subst h5
                  exact h4 j c hj
              · cases h
            · cases h
      · cases h
    · cases h

/-- How a function ends: in the state that its return or its body's end finds. -/
def Ends (P : Program) (fn : Func) (R : Res → Prop) (e : Exit) (st : St) : Prop :=
  (e = .normal ∨ e = .ret) ∧ ∃ (rvs : List ResultVar) (tvs : List TV) (row : List D), fn.results = rvs.toArray ∧ rvs.length ≤ 4 ∧ rvs.map (resTV P st) = tvs.map some ∧
    (tvs.flatMap refV).Nodup ∧ contents st (tvs.flatMap refV) = some row ∧ R ⟨row, fun k => resT (tvs.map (gathV (tvs.flatMap refV) k))⟩

theorem run_results {fn : Func} {rvs : List ResultVar} (h : fn.results = rvs.toArray) (hl : rvs.length ≤ 4) (tmps : Array Value) (w : World) {us : List Value} (hu : us.length = rvs.length)
    (hr : ∀ (i : Nat) rv u, rvs[i]? = some rv → us[i]? = some u → (resOf tmps rv).run P w = .ok u w) :
    (results fn tmps).run P w = .ok (tupV us) w := by
  have hres : results fn tmps = (do let vs ← rvs.toArray.mapM (resOf tmps); pure (if h : vs.size = 1 then vs[0] else .tuple vs)) := by rw [← h]; rfl
  rw [hres]
  match rvs, us, hl, hu, hr with
  | [], [], _, _, _ => simp [tupV]
  | [r1], [u1], _, _, hr =>
    have h1 := hr 0 r1 u1 rfl rfl
    simp [h1, tupV]
  | [r1, r2], [u1, u2], _, _, hr =>
    have h1 := hr 0 r1 u1 rfl rfl
    have h2 := hr 1 r2 u2 rfl rfl
    simp [h1, h2, tupV]
  | [r1, r2, r3], [u1, u2, u3], _, _, hr =>
    have h1 := hr 0 r1 u1 rfl rfl
    have h2 := hr 1 r2 u2 rfl rfl
    have h3 := hr 2 r3 u3 rfl rfl
    simp [h1, h2, h3, tupV]
  | [r1, r2, r3, r4], [u1, u2, u3, u4], _, _, hr =>
    have h1 := hr 0 r1 u1 rfl rfl
    have h2 := hr 1 r2 u2 rfl rfl
    have h3 := hr 2 r3 u3 rfl rfl
    have h4 := hr 3 r4 u4 rfl rfl
    simp [h1, h2, h3, h4, tupV]
  | _ :: _ :: _ :: _ :: _ :: _, _, hl, _, _ => simp at hl

/-- Results at hand, one by one. -/
theorem Rel.resultList (hR : Rel w g0 st a w' g) : ∀ {rvs : List ResultVar} {tvs : List TV}, rvs.map (resTV P st) = tvs.map some → ∃ us : List Value, us.length = rvs.length ∧
    (∀ (i : Nat) rv u, rvs[i]? = some rv → us[i]? = some u → (resOf a.tmps rv).run P w' = .ok u w') ∧
    ∀ (i : Nat) t u, tvs[i]? = some t → us[i]? = some u → RepT w' g t u
  | [], [], _ => ⟨[], rfl, fun i rv u h => by simp at h, fun i t u h => by simp at h⟩
  | [], t :: l, h => by simp at h
  | r :: l, [], h => by simp at h
  | rv :: rvs, tv :: tvs, h => by
    simp only [List.map_cons, List.cons.injEq] at h
    obtain ⟨u, h1, h2⟩ := hR.result h.1
    obtain ⟨us, h3, h4, h5⟩ := Rel.resultList hR h.2
    refine ⟨u :: us, by simp [h3], fun i rv' u' hi hu => ?_, fun i t u' hi hu => ?_⟩
    · cases i with
      | zero =>
        simp only [List.getElem?_cons_zero, Option.some.injEq] at hi hu
        subst hi; subst hu
        exact h1
      | succ i => exact h4 i rv' u' (by simpa using hi) (by simpa using hu)
    · cases i with
      | zero =>
        simp only [List.getElem?_cons_zero, Option.some.injEq] at hi hu
        subst hi; subst hu
        exact h2
      | succ i => exact h5 i t u' (by simpa using hi) (by simpa using hu)

/-- A FUNCTION'S CONTRACT, FROM ITS BODY. -/
theorem FunAt.of {f : FuncId} {fn : Func} {c : Code} {pts : List TS} {R : Res → Prop} {w : World} (hf : P.funcs[f]? = some fn) (hb : fn.body = some c) (hn : pts.length ≤ fn.ntmps)
    (h : ∀ g0 : Gh, g0.o = allRo w → TC P w g0 c ⟨pts ++ List.replicate (fn.ntmps - pts.length) (.one .dead), []⟩ (Ends P fn R)) : FunAt P f pts R w := by
  intro g args k hg hsz hargs
  refine calls_of_wp hf hb (wp_mono (h g hg _ w g ⟨fun i tv hi => ?_, ?_, rfl, ⟨fun k r hk => ?_, fun k r hk => ?_⟩, ⟨rfl, rfl, rfl, Nat.le_refl _, fun b hb _ => ⟨rfl, rfl⟩, fun b hb => ?_, fun b hb ho => ?_, ⟨fun _ => rfl, rfl⟩, fun b => ?_⟩⟩) fun e a w' ⟨st, g', hE, hR⟩ => ?_)
  · by_cases hlt : i < pts.length
    · rw [List.getElem?_append_left hlt] at hi
      have hi' : i < args.size := by omega
      have h1 : (args ++ Array.replicate (fn.ntmps - args.size) undef).getD i undef = args[i] := by
        rw [Array.getD_eq_getD_getElem?, Array.getElem?_append_left hi', Array.getElem?_eq_getElem hi']
        rfl
      show RepS w g tv ((args ++ Array.replicate (fn.ntmps - args.size) undef).getD i undef)
      rw [h1]
      exact hargs i tv _ hi (Array.getElem?_eq_getElem hi')
    · rw [List.getElem?_append_right (by omega), List.getElem?_replicate] at hi
      split at hi
      · simp only [Option.some.injEq] at hi
        subst hi
        exact .one _ _ (.dead _)
      · cases hi
  · show (args ++ Array.replicate (fn.ntmps - args.size) undef).size = _
    simp [hsz]
  · simp [St.root] at hk
  · simp [St.root] at hk
  · rw [hg]; simp [allRo]; omega
  · rw [hg] at ho; simp [allRo, hb] at ho
  · rw [hg]; simp only [allRo]; split <;> simp
  · obtain ⟨he, rvs, tvs, row, h1, h2, h3, h4, h5, h6⟩ := hE
    have hlen : rvs.length = tvs.length := by
      have := congrArg List.length h3
      simpa using this
    obtain ⟨us, hul, hur, hrep0⟩ := hR.resultList h3
    have hrun := run_results (P := P) h1 h2 a.tmps w' hul hur
    have hrep : ∀ (i : Nat) t u, tvs[i]? = some t → us[i]? = some u → RepT w' (g'.gather (tvs.flatMap refV) k) (gathV (tvs.flatMap refV) k t) u := fun i t u hi hu => gathV_rep (hrep0 i t u hi hu)
    have hval : RepS w' (g'.gather (tvs.flatMap refV) k) (resT (tvs.map (gathV (tvs.flatMap refV) k))) (tupV us) := by
      have htup : ∀ l : List Value, l.length = tvs.length → (∀ (i : Nat) t u, tvs[i]? = some t → l[i]? = some u → RepT w' (g'.gather (tvs.flatMap refV) k) (gathV (tvs.flatMap refV) k t) u) →
          RepS w' (g'.gather (tvs.flatMap refV) k) (.tup (tvs.map (gathV (tvs.flatMap refV) k))) (.tuple l.toArray) := fun l hl hh =>
        .tup _ _ (by simp [hl]) fun j t u hj hu => by
          rw [List.getElem?_map, Option.map_eq_some_iff] at hj
          obtain ⟨t', hj, rfl⟩ := hj
          exact hh j t' u hj (by simpa using hu)
      have hl := htup us (by omega) hrep
      have hlu : us.length = tvs.length := by omega
      clear hrun hur hrep0 h3 h5 h6
      match us, tvs, hlu with
      | [], [], _ => exact hl
      | [t], [tv], _ => exact .one _ _ (hrep 0 tv _ rfl rfl)
      | _ :: _ :: _, _ :: _ :: _, _ => exact hl
    have hG := hR.gives hg h4 h5 k (T := fun k => resT (tvs.map (gathV (tvs.flatMap refV) k))) hval
    have hfin : ∃ v, (results fn a.tmps).run P w' = .ok v w' ∧ ∃ v_1 r g', Ending.returned v = Ending.returned v_1 ∧ R r ∧ Gives w k r v_1 w' g' := ⟨_, hrun, _, _, _, rfl, h6, hG⟩
    rcases he with rfl | rfl
    · exact ⟨hR.df, hfin⟩
    · exact ⟨hR.df, hfin⟩

theorem Fun.of {f : FuncId} {fn : Func} {c : Code} {pts : List TS} {R : Res → Prop} (hf : P.funcs[f]? = some fn) (hb : fn.body = some c) (hn : pts.length ≤ fn.ntmps)
    (h : ∀ w g0, TC P w g0 c ⟨pts ++ List.replicate (fn.ntmps - pts.length) (.one .dead), []⟩ (Ends P fn R)) : Fun P f pts R :=
  fun w => FunAt.of hf hb hn fun g0 _ => h w g0

theorem FunW.of {C : World → Prop} (hk : ∀ w w', C w → w.heap.size ≤ w'.heap.size → (∀ b, b < w.heap.size → w'.heap[b]? = w.heap[b]?) → C w') {f : FuncId} {fn : Func} {c : Code} {pts : List TS} {R : Res → Prop} (hf : P.funcs[f]? = some fn) (hb : fn.body = some c) (hn : pts.length ≤ fn.ntmps)
    (h : ∀ w g0, (∀ w', Kept w g0 w' → C w') → TC P w g0 c ⟨pts ++ List.replicate (fn.ntmps - pts.length) (.one .dead), []⟩ (Ends P fn R)) : FunW C P f pts R :=
  fun w hC => FunAt.of hf hb hn fun g0 hg => h w g0 fun w' hw => hk w w' hC hw.1 fun b hlt => hw.2 b hlt (by rw [hg]; simp [allRo, hlt])
end
end Go.Proofs.YtdlpmcjpbcbbjaaDoor.T
