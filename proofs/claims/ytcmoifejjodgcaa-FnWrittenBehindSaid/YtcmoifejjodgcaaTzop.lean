
import Derived.Test.YtcmoifejjodgcaaTzkp
namespace Go.Proofs.Ytcmoifejjodgcaa.T
open Go
set_option linter.unusedVariables false
set_option linter.unusedSimpArgs false
inductive Ord where
 | done : Ord
 | quiet : Nat → Nat → Ord → Ord
 | fork : Ord → Ord
 | alt : Nat → Ord → Ord → Ord
 | stop : Ord
def Ord.alts : Ord → List Nat
 | .alt i _ u => i :: u.alts
 | _ => []
def quietOk (ops : Array Oper) (ws bs s : List Nat) (i b : Nat) (listed : Array Bool) : Bool := match b with
 | 0 => (Region.ready .any ops listed).contains i && Region.free .any ops listed i && !ws.contains i && ws.all (fun k => listed.getD k false || reaches .any ops ops.size k i)
 | _ => (Region.ready .any ops listed).contains i && Region.free .any ops listed i && !ws.contains i && ws.all (fun k => bs.contains k || (listed.getD k false || reaches .any ops ops.size k i)) &&
     (List.range ops.size).all (fun j => j == i && s.all (fun x => ((ops[j]?).bind (·.dst)) != some x) || j != i && (listed.getD j true || s.all fun x => ((ops[j]?).bind (·.dst)) != some x))
def Ord.ok (ops : Array Oper) (ws bs s : List Nat) : Ord → Nat → Array Bool → Bool
 | .done, _, listed => (Region.ready .any ops listed).isEmpty
 | .quiet i b t, n + 1, listed => quietOk ops ws bs s i b listed && t.ok ops ws bs s n (listed.setIfInBounds i true)
 | .quiet _ _ _, 0, _ => false
 | .fork t, n, listed => (Region.ready .any ops listed == t.alts) && t.ok ops ws bs s n listed
 | .alt i t u, n + 1, listed => (Region.ready .any ops listed).contains i && t.ok ops ws bs s n (listed.setIfInBounds i true) && u.ok ops ws bs s (n + 1) listed
 | .alt _ _ _, 0, _ => false
 | .stop, _, _ => true
def stepV (P : Program) (ops : Array Oper) (Q : Exit → Act → World → Prop) (ws bs s : List Nat) (i : Nat) (K : Act → World → Prop) (a : Act) (w : World) : Prop :=
 if ws.contains i = true then (if bs.contains i = true then sOp P ops s i K a w else wpOp P ops Q i K a w) else mOp P ops i K a w
section
variable {P : Program} {w0 : World} {g0 : Gh} {st : St}
def TT (P : Program) (w0 : World) (g0 : Gh) (ops : Array Oper) (ws bs s : List Nat) (t : Ord) (st : St) (Q : St → Prop) : Prop :=
 ∀ fuel listed, Region.noSelect ops = true → Closed .any ops listed → t.ok ops ws bs s fuel listed = true → ∀ a w g, Rel w0 g0 st a w g → ∀ (Q' : Exit → Act → World → Prop), (∀ st' a' w' g', Q st' → Rel w0 g0 st' a' w' g' → Q' .normal a' w') →
  wpAnyV P .any ops Q' ws bs s fuel listed a w
def TA (P : Program) (w0 : World) (g0 : Gh) (ops : Array Oper) (ws bs s : List Nat) (t : Ord) (st : St) (Q : St → Prop) : Prop :=
 ∀ fuel listed, Region.noSelect ops = true → Closed .any ops listed → t.ok ops ws bs s (fuel + 1) listed = true → ∀ a w g, Rel w0 g0 st a w g → ∀ (Q' : Exit → Act → World → Prop), (∀ st' a' w' g', Q st' → Rel w0 g0 st' a' w' g' → Q' .normal a' w') →
  ∀ i ∈ t.alts, stepV P ops Q' ws bs s i (wpAnyV P .any ops Q' ws bs s fuel (listed.setIfInBounds i true)) a w
theorem TC.regionT {i : Nat} {ops : Array Oper} {Q : Exit → St → Prop} (ws bs s : List Nat) (t : Ord) (hm : P.follows .mixedOrders = true) (hB : (Region.noSelect ops && t.ok ops ws bs s ops.size (Array.replicate ops.size false)) = true) (h : TT P w0 g0 ops ws bs s t st (fun st' => Q .normal st')) :
  TC P w0 g0 (.region i ops true) st Q := fun a w g hR => by
 simp only [Bool.and_eq_true] at hB
 obtain ⟨h1, h3⟩ := hB
 have hR' : Rel w0 g0 st a { w with drawn := w.drawn + 1 } g := hR.drew
 refine wp_region_any hm (wpAny_of_V (ws := ws) (bs := bs) (s := s) _ _ _ _ ?_)
 refine h _ _ h1 (fun j o ho hj => ?_) h3 a _ g hR' _ fun st' a' w' g' hq hr => ⟨st', g', hq, hr⟩
 simp [Array.getElem?_replicate] at hj
 split at hj <;> simp at hj
theorem TT.nil {ops : Array Oper} {ws bs s : List Nat} {Q : St → Prop} (h : Q st) : TT P w0 g0 ops ws bs s .done st Q := fun fuel listed hs hc he a w g hR Q' hQ => by
 have h0 : Region.ready .any ops listed = [] := by simpa [Ord.ok, List.isEmpty_iff] using he
 cases fuel with
 | zero => exact ⟨h0, hQ st a w g h hR⟩
 | succ n => exact ⟨fun _ => hQ st a w g h hR, fun i hi => by rw [h0] at hi; cases hi⟩
theorem TT.fork {ops : Array Oper} {ws bs s : List Nat} {t : Ord} {Q : St → Prop} (h : TA P w0 g0 ops ws bs s t st Q) (hne : t.alts ≠ []) : TT P w0 g0 ops ws bs s (.fork t) st Q := fun fuel listed hs hc he a w g hR Q' hQ => by
 simp only [Ord.ok, Bool.and_eq_true, beq_iff_eq] at he
 cases fuel with
 | zero =>
  cases t with
  | alt i t u => simp [Ord.ok] at he
  | _ => exact absurd rfl hne
 | succ n =>
  refine ⟨fun h0 => absurd (he.1.symm.trans h0) hne, fun i hi => ?_⟩
  rw [he.1] at hi
  exact h n listed hs hc he.2 a w g hR Q' hQ i hi
theorem TA.stop {ops : Array Oper} {ws bs s : List Nat} {Q : St → Prop} : TA P w0 g0 ops ws bs s .stop st Q := fun fuel listed hs hc he a w g hR Q' hQ i hi => by cases hi
theorem TA.alt {ops : Array Oper} {ws bs s : List Nat} {i : Nat} {t u : Ord} {Q : St → Prop}
  (h : ∀ (Q' : Exit → Act → World → Prop) (K : Act → World → Prop), (∀ st' a' w' g', TT P w0 g0 ops ws bs s t st' Q → Rel w0 g0 st' a' w' g' → K a' w') → ∀ a w g, Rel w0 g0 st a w g → stepV P ops Q' ws bs s i K a w) (hu : TA P w0 g0 ops ws bs s u st Q) :
  TA P w0 g0 ops ws bs s (.alt i t u) st Q := fun fuel listed hs hc he a w g hR Q' hQ j hj => by
 simp only [Ord.ok, Bool.and_eq_true] at he
 obtain ⟨⟨h1, h2⟩, h3⟩ := he
 rcases List.mem_cons.1 hj with rfl | hj
 ·exact h Q' _ (fun st' a' w' g' hq hR' => hq fuel _ hs (hc.set (by simpa using h1)) h2 a' w' g' hR' Q' hQ) a w g hR
 ·exact hu fuel listed hs hc h3 a w g hR Q' hQ j hj
theorem TT.quiet0 {ops : Array Oper} {ws bs s : List Nat} {i : Nat} {t : Ord} {st' : St} {Q : St → Prop} {o : Oper} {tl : List Oper} (hne : ws.contains i = false) (hd0 : ops.toList.drop i = o :: tl)
  (h : ∀ a w g, Rel w0 g0 st a w g → ∃ v, YV P ops o v a w ∧ Rel w0 g0 st' (a.put o.dst v) w g) (hq : TT P w0 g0 ops ws bs s t st' Q) : TT P w0 g0 ops ws bs s (.quiet i 0 t) st Q := fun fuel listed hs hc he a w g hR Q' hQ => by
 cases fuel with
 | zero => simp [Ord.ok] at he
 | succ n =>
  have hi := at_drop hd0
  simp only [Ord.ok, quietOk, Bool.and_eq_true] at he
  obtain ⟨h1, h2⟩ := he
  obtain ⟨v, hy, hR'⟩ := h a w g hR
  have hri : i ∈ Region.ready .any ops listed := by simpa using h1.1.1.1
  have hnext := hq n (listed.setIfInBounds i true) hs (hc.set hri) h2 _ w g hR' Q' hQ
  exact wpAnyV_first (n := ops.size) hi (Region.noSelect_spec hs) hne _ listed a w hc (fun k hk => by simpa using List.all_eq_true.1 h1.2 k hk) (Region.free_spec hi h1.1.1.2) hri hy hnext
theorem TT.quietS {ops : Array Oper} {ws bs s : List Nat} {i b : Nat} {t : Ord} {st' : St} {Q : St → Prop} {o : Oper} {tl : List Oper} (hne : ws.contains i = false) (hd0 : ops.toList.drop i = o :: tl)
  (h : ∀ a w g, Rel w0 g0 st a w g → ∃ v, YS P ops s o v a w ∧ Rel w0 g0 st' (a.put o.dst v) w g) (hq : TT P w0 g0 ops ws bs s t st' Q) : TT P w0 g0 ops ws bs s (.quiet i (b + 1) t) st Q := fun fuel listed hs hc he a w g hR Q' hQ => by
 cases fuel with
 | zero => simp [Ord.ok] at he
 | succ n =>
  have hi := at_drop hd0
  simp only [Ord.ok, quietOk, Bool.and_eq_true] at he
  obtain ⟨h1, h2⟩ := he
  obtain ⟨v, hy, hR'⟩ := h a w g hR
  have hri : i ∈ Region.ready .any ops listed := by simpa using h1.1.1.1.1
  have hnext := hq n (listed.setIfInBounds i true) hs (hc.set hri) h2 _ w g hR' Q' hQ
  have hds : ∀ j oj, ops[j]? = some oj → (j = i → ∀ x ∈ s, oj.dst ≠ some x) ∧ (j ≠ i → listed.getD j true = false → ∀ x ∈ s, oj.dst ≠ some x) := fun j oj hj => by
   have h3 := List.all_eq_true.1 h1.2 j (List.mem_range.2 (Array.getElem?_eq_some_iff.1 hj).1)
   rw [hj] at h3
   simp only [Option.bind_some, Bool.or_eq_true, Bool.and_eq_true, beq_iff_eq, bne_iff_ne, List.all_eq_true] at h3
   refine ⟨fun e => ?_, fun e hl => ?_⟩
   ·rcases h3 with h3 | h3
    ·exact h3.2
    ·exact absurd e h3.1
   ·rcases h3 with h3 | h3
    ·exact absurd h3.1 e
    ·rcases h3.2 with h4 | h4
     ·rw [hl] at h4; cases h4
     ·exact h4
  exact wpAnyV_firstS (n := ops.size) hi (Region.noSelect_spec hs) hne ((hds i o hi).1 rfl) _ listed a w hc (fun k hk => by simpa using List.all_eq_true.1 h1.1.2 k hk) (Region.free_spec hi h1.1.1.1.2) (fun j oj hj hji hl => (hds j oj hj).2 hji hl) hri hy hnext
theorem TT.valE {ops : Array Oper} {ws bs s : List Nat} {i : Nat} {l : Ord} {st' : St} {Q : St → Prop} {o : Oper} {t : TS} {tl : List Oper} (hne : ws.contains i = false) (hd0 : ops.toList.drop i = o :: tl) (hg : yes ops st o) (h : Val P w0 g0 o st t) (hp : st.put o.dst t = st')
  (hq : TT P w0 g0 ops ws bs s l st' Q) : TT P w0 g0 ops ws bs s (.quiet i 0 l) st Q := TT.quiet0 hne hd0 (fun a w g hR => by
 obtain ⟨v, hr, hv⟩ := h a w g hR
 exact ⟨v, .inl ⟨yes_of hg hR, fun w' hw' => hr w' hw'.2.2.2.2⟩, hp ▸ hR.put hv o.dst⟩) hq
theorem TT.valS {ops : Array Oper} {ws bs s : List Nat} {i b : Nat} {l : Ord} {st' : St} {Q : St → Prop} {o : Oper} {t : TS} {tl : List Oper} (hne : ws.contains i = false) (hd0 : ops.toList.drop i = o :: tl) (hg : yes ops st o) (h : ValS P w0 g0 s o st t) (hp : st.put o.dst t = st')
  (hq : TT P w0 g0 ops ws bs s l st' Q) : TT P w0 g0 ops ws bs s (.quiet i (b + 1) l) st Q := TT.quietS hne hd0 (fun a w g hR => by
 obtain ⟨v, hr, hv⟩ := h a w g hR
 exact ⟨v, .inl ⟨yes_of hg hR, hr⟩, hp ▸ hR.put hv o.dst⟩) hq
theorem TA.opK {ops : Array Oper} {ws bs s : List Nat} {i : Nat} {l u : Ord} {Q : St → Prop} {o : Oper} {tl : List Oper} (hin : ws.contains i = true ∧ bs.contains i = false) (hd0 : ops.toList.drop i = o :: tl) (hg : yes ops st o)
  (h : ∀ K : St → Prop, (∀ st', TT P w0 g0 ops ws bs s l st' Q → K st') → OpT P w0 g0 o st K) (hu : TA P w0 g0 ops ws bs s u st Q) : TA P w0 g0 ops ws bs s (.alt i l u) st Q := TA.alt (fun Q' K hK a w g hR => by
 unfold stepV
 rw [if_pos hin.1, if_neg (by rw [hin.2]; decide)]
 unfold wpOp
 simp only [at_drop hd0, yes_of hg hR, if_true]
 exact .inl (h _ (fun _ h => h) a w g hR _ _ fun st' a' w' g' hq hR' => hK st' a' w' g' hq hR')) hu
theorem TA.opM {ops : Array Oper} {ws bs s : List Nat} {i : Nat} {l u : Ord} {Q : St → Prop} {o : Oper} {tl : List Oper} (hne : ws.contains i = false) (hd0 : ops.toList.drop i = o :: tl) (hg : yes ops st o)
  (h : ∀ K : St → Prop, (∀ st', TT P w0 g0 ops ws bs s l st' Q → K st') → OpM P w0 g0 o st K) (hu : TA P w0 g0 ops ws bs s u st Q) : TA P w0 g0 ops ws bs s (.alt i l u) st Q := TA.alt (fun Q' K hK a w g hR => by
 unfold stepV
 rw [if_neg (by rw [hne]; decide)]
 unfold mOp
 simp only [at_drop hd0, yes_of hg hR, if_true]
 exact h _ (fun _ h => h) a w g hR _ fun st' a' w' g' hq hR' => hK st' a' w' g' hq hR') hu
end
end Go.Proofs.Ytcmoifejjodgcaa.T

namespace Go.Proofs.Ytcmoifejjodgcaa.T
open Go
set_option linter.unusedVariables false
set_option linter.unusedSimpArgs false
def Gh.gather3 (g : Gh) (srcs : List (Nat × Nat)) (k K : Nat) : Gh where
 o b := match g.o b with
  | .lies k' p q => match p with
   | [] => match idxOf (k', q) srcs with | some j => .lies k [] j | none => .ro
   | (q1, i) :: r => match idxOf (k', q1) srcs with | some j => .lies k ((j, i) :: r) q | none => .ro
  | .box _ => .ro
  | t => t
 ad k' p := if k' = K then g.ad K p else match p with | [] => (0, 0) | (j, i) :: r => match srcs[j]? with | some s => g.ad s.1 ((s.2, i) :: r) | none => (0, 0)
 cv k' p q := if k' = K then g.cv K p q else match p with | [] => (match srcs[q]? with | some s => g.cv s.1 [] s.2 | none => undef) | (j, i) :: r => match srcs[j]? with | some s => g.cv s.1 ((s.2, i) :: r) q | none => undef
section
variable {P : Program} {w w' : World} {g0 g : Gh} {st : St} {a : Act}
theorem gathC_rep3 {srcs : List (Nat × Nat)} {k K : Nat} (hkK : k ≠ K) {c : C} {u : Value} (h : RepV w' g c u) : RepV w' (g.gather3 srcs k K) (gathC srcs k c) u := by
 cases c with
 | ro d =>
  cases d with
  | v x =>
   have h3 : Ro w' g.o (.v x) u := h
   cases h3 with
   | v _ hp => exact Ro.v _ hp
  | _ => trivial
 | own d => trivial
 | ref pl =>
  obtain ⟨pk, pp, pq⟩ := pl
  simp only [gathC]
  split
  ·rename_i j h1 h2
   have := idxOf_some h2
   refine ⟨?_, h.2⟩
   simp only [Gh.gather3, this, if_neg hkK]
   exact h.1
  ·trivial
 | dead => trivial
theorem gathV_rep3 {srcs : List (Nat × Nat)} {k K : Nat} (hkK : k ≠ K) {t : TV} {u : Value} (h : RepT w' g t u) : RepT w' (g.gather3 srcs k K) (gathV srcs k t) u := by
 cases h with
 | c c u hv => exact .c _ u (gathC_rep3 hkK hv)
 | agg cs us hs hv =>
  refine .agg _ us (by simpa using hs) fun j c u h1 h2 => ?_
  rw [List.getElem?_map, Option.map_eq_some_iff] at h1
  obtain ⟨c', h1, rfl⟩ := h1
  exact gathC_rep3 hkK (hv j c' u h1 h2)
 | _ => exact .dead _
theorem Rel.gives3 {h : Hand} (hR : Rel w g0 st a w' g) (hH : Handed w g0 h) (hhm : h.mem = false) {srcs : List (Nat × Nat)} (hn : srcs.Nodup) {row : List D} (hc : contents st srcs = some row) {k : Nat} (hk : k < 1000000) {T : Nat → TS} {v : Value}
  (hv : RepS w' (g.gather3 srcs k h.k) (T k) v) : Gives2 w g0 h k (h.row.map fun _ => .hole) ⟨row, T⟩ v w' (g.gather3 srcs k h.k) := by
 have hkK : k ≠ h.k := by have := h.big; omega
 have hblk : ∀ b, b < w.heap.size → g0.o b = .ro → w'.heap[b]? = w.heap[b]? ∧ g.o b = .ro := fun b hb h1 => by
  obtain ⟨h2, h3⟩ := hR.ks.block b hb (.inl h1)
  exact ⟨h2, h3.trans h1⟩
 have hout : ∀ b, b < w'.heap.size → g.o b ≠ .outer := fun b hb ht => by
  obtain ⟨h1, h2⟩ := hR.ks.old b hb ht
  rcases hH.own b h1 with h3 | h3
  ·rw [h3] at h2; cases h2
  ·rw [h2] at h3; cases h3
 have htag : ∀ b, b < w'.heap.size → (g.gather3 srcs k h.k).o b = .ro ∨ ((g.gather3 srcs k h.k).o b).root? = some k := fun b hb => by
  simp only [Gh.gather3]
  cases ht : g.o b with
  | ro => exact .inl rfl
  | outer => exact absurd ht (hout b hb)
  | box k' => exact .inl rfl
  | lies k' p q =>
   cases p with
   | nil =>
    simp only
    split
    ·exact .inr rfl
    ·exact .inl rfl
   | cons x r =>
    obtain ⟨q1, i⟩ := x
    simp only
    split
    ·exact .inr rfl
    ·exact .inl rfl
 have hfresh : ∀ b, w'.heap.size ≤ b → (g.gather3 srcs k h.k).o b = .outer := fun b hb => by
  have := hR.ks.fresh b hb
  simp only [Gh.gather3, this]
 have hold : ∀ b, ((g.gather3 srcs k h.k).o b).root? ≠ none → b < w'.heap.size := fun b hb => by
  rcases Nat.lt_or_ge b w'.heap.size with h1 | h1
  ·exact h1
  ·rw [hfresh b h1] at hb; exact absurd rfl hb
 refine ⟨hR.ks.os, hR.ks.tape, hR.ks.output, hR.ks.size, fun b hb h1 => (hblk b hb h1).1, fun b h2 _ => ?_, fun b hb => ⟨?_, ?_⟩, fun q d hq => ?_, by simp, fun q d hq => ?_, fun hm q => ?_, fun hm => ?_, hv⟩
 ·rcases htag b h2 with h | h
  ·exact .inl h
  ·exact .inr (.inl h)
 ·exact hold b (by rcases hb with hb | hb <;> rw [hb] <;> simp)
 ·rcases Nat.lt_or_ge b w.heap.size with h1 | h1
  ·refine .inr fun h2 => ?_
   have := (hblk b h1 h2).2
   simp only [Gh.gather3, this] at hb
   rcases hb with hb | hb <;> cases hb
  ·exact .inl h1
 ·obtain ⟨s, h1, h2⟩ := (contents_get hc).2 q d hq
  have hO : Ow w' g s.1 [] s.2 d := (hR.cellAt h2).1 d rfl
  have hi := idxOf_get hn h1
  refine Ow.move hO ⟨?_, fun i r q' => ?_, fun i r => ?_, fun b hb => ⟨?_, rfl⟩, fun b i r q' hb => ⟨?_, rfl⟩⟩
  ·simp [Gh.gather3, h1, hkK]
  ·simp [Gh.gather3, h1, hkK]
  ·simp [Gh.gather3, h1, hkK]
  ·simp only [Gh.gather3, hb, hi]
  ·simp only [Gh.gather3, hb, List.nil_append, hi]
 ·rw [List.getElem?_map, Option.map_eq_some_iff] at hq
  obtain ⟨_, _, rfl⟩ := hq
  exact .hole [] q
 ·have hK : h.k = pinK := by simp [Hand.k, hm]
  simp only [Gh.gather3, hK, if_true]
  exact hR.ks.pin.1 q
 ·rw [hhm] at hm; cases hm
theorem Fun2.ofGive {f : FuncId} {fn : Func} {c : Code} {h : Hand} (hhm : h.mem = false) {pts : List TS} {R : Res → Prop} (hf : P.funcs[f]? = some fn) (hb : fn.body = some c) (hn : pts.length ≤ fn.ntmps)
  (hw : ∀ w g0, TC P w g0 c ⟨pts ++ List.replicate (fn.ntmps - pts.length) (.one .dead), [(h.k, ⟨h.mem, h.row.map C.own⟩)]⟩ (Ends P fn R)) : Fun2 P f h pts (fun row' r => row' = h.row.map (fun _ => .hole) ∧ R r) := by
 intro w g args k hk hH hsz hargs
 have hroot : ∀ k' r, (⟨pts ++ List.replicate (fn.ntmps - pts.length) (.one .dead), [(h.k, ⟨h.mem, h.row.map C.own⟩)]⟩ : St).root k' = some r → k' = h.k ∧ r = ⟨h.mem, h.row.map C.own⟩ := fun k' r hr => by
  simp only [St.root, List.find?_cons, List.find?_nil] at hr
  split at hr
  ·rename_i e
   simp only [Option.map_some, Option.some.injEq] at hr
   exact ⟨(by simpa using e : h.k = k').symm, hr.symm⟩
  ·cases hr
 refine calls_of_wp hf hb (wp_mono (hw w g _ w g ⟨fun i tv hi => ?_, ?_, rfl, ⟨fun k' r hk' q c hq => ?_, fun k' r hk' hm => ?_⟩, ⟨rfl, rfl, rfl, Nat.le_refl _, fun b hb _ => ⟨rfl, rfl⟩, fun b hb => hH.out b hb, fun b hb ho => ?_, ⟨fun _ => rfl, rfl⟩, hH.nobox⟩⟩) fun e a w' ⟨st, g', hE, hR⟩ => ?_)
 ·by_cases hlt : i < pts.length
  ·rw [List.getElem?_append_left hlt] at hi
   have hi' : i < args.size := by omega
   have h1 : (args ++ Array.replicate (fn.ntmps - args.size) undef).getD i undef = args[i] := by
    rw [Array.getD_eq_getD_getElem?, Array.getElem?_append_left hi', Array.getElem?_eq_getElem hi']
    rfl
   show RepS w g tv ((args ++ Array.replicate (fn.ntmps - args.size) undef).getD i undef)
   rw [h1]
   exact hargs i tv _ hi (Array.getElem?_eq_getElem hi')
  ·rw [List.getElem?_append_right (by omega), List.getElem?_replicate] at hi
   split at hi
   ·simp only [Option.some.injEq] at hi
    subst hi
    exact .one _ _ (.dead _)
   ·cases hi
 ·show (args ++ Array.replicate (fn.ntmps - args.size) undef).size = _
  simp [hsz]
 ·obtain ⟨rfl, rfl⟩ := hroot k' r hk'
  rw [List.getElem?_map, Option.map_eq_some_iff] at hq
  obtain ⟨d, hq, rfl⟩ := hq
  exact hH.row q d hq
 ·obtain ⟨rfl, rfl⟩ := hroot k' r hk'
  have hm' : h.mem = true := hm
  have hK : h.k = pinB := by simp [Hand.k, hm']
  rw [hK]
  obtain ⟨m1, m2, m3⟩ := hH.mem hm'
  exact ⟨m1, m2, fun q hq => m3 q (by simpa using hq)⟩
 ·rcases hH.own b hb with h1 | h1
  ·rw [h1] at ho; cases ho
  ·rw [ho] at h1; cases h1
 ·obtain ⟨he, rvs, tvs, row, h1, h2, h3, h4, h5, h9⟩ := hE
  have hkK : k ≠ h.k := by have := h.big; omega
  have hlen : rvs.length = tvs.length := by
   have := congrArg List.length h3
   simpa using this
  obtain ⟨us, hul, hur, hrep0⟩ := hR.resultList h3
  have hrun := run_results (P := P) h1 h2 a.tmps w' hul hur
  have hrep : ∀ (i : Nat) t u, tvs[i]? = some t → us[i]? = some u → RepT w' (g'.gather3 (tvs.flatMap refV) k h.k) (gathV (tvs.flatMap refV) k t) u := fun i t u hi hu => gathV_rep3 hkK (hrep0 i t u hi hu)
  have hval : RepS w' (g'.gather3 (tvs.flatMap refV) k h.k) (resT (tvs.map (gathV (tvs.flatMap refV) k))) (tupV us) := by
   have htup : ∀ l : List Value, l.length = tvs.length → (∀ (i : Nat) t u, tvs[i]? = some t → l[i]? = some u → RepT w' (g'.gather3 (tvs.flatMap refV) k h.k) (gathV (tvs.flatMap refV) k t) u) →
     RepS w' (g'.gather3 (tvs.flatMap refV) k h.k) (.tup (tvs.map (gathV (tvs.flatMap refV) k))) (.tuple l.toArray) := fun l hl hh =>
    .tup _ _ (by simp [hl]) fun j t u hj hu => by
     rw [List.getElem?_map, Option.map_eq_some_iff] at hj
     obtain ⟨t', hj, rfl⟩ := hj
     exact hh j t' u hj (by simpa using hu)
   have hl := htup us (by omega) hrep
   have hlu : us.length = tvs.length := by omega
   clear hrun hur hrep0 h3 h5 h9 h4
   match us, tvs, hlu with
   | [], [], _ => exact hl
   | [t], [tv], _ => exact .one _ _ (hrep 0 tv _ rfl rfl)
   | _ :: _ :: _, _ :: _ :: _, _ => exact hl
  have hG := hR.gives3 hH hhm h4 h5 hk (T := fun k => resT (tvs.map (gathV (tvs.flatMap refV) k))) hval
  have hfin : ∃ v, (results fn a.tmps).run P w' = .ok v w' ∧ ∃ v_1 row'_1 r g', Ending.returned v = Ending.returned v_1 ∧ (row'_1 = h.row.map (fun _ => .hole) ∧ R r) ∧ Gives2 w g h k row'_1 r v_1 w' g' := ⟨_, hrun, _, _, _, _, rfl, ⟨rfl, h9⟩, hG⟩
  rcases he with rfl | rfl
  ·exact ⟨hR.df, hfin⟩
  ·exact ⟨hR.df, hfin⟩
end
section
variable {P : Program} {w0 : World} {g0 : Gh} {st : St} {a : Act} {w w' : World} {g : Gh}
end
end Go.Proofs.Ytcmoifejjodgcaa.T

namespace Go.Proofs.Ytcmoifejjodgcaa.T
open Go
set_option linter.unusedVariables false
set_option linter.unusedSimpArgs false
section
variable {P : Program} {w0 : World} {g0 : Gh} {st : St}
section
variable {a : Act} {w : World} {g : Gh}
theorem Rel.argsC (hR : Rel w0 g0 st a w g) {cx : Operand} {f : FuncId} {caps : List TV} (hcx : T.opd 0 st cx = some (.fn f caps)) {args : List Operand} {ts : List TS} (hx : T.opds st args = some ts) :
  ∃ us : Array Value, a.eval cx = .func (.func f) #[] us ∧ ((args.map a.eval).toArray ++ us).size = (ts ++ caps.map TS.one).length ∧
   ∀ (i : Nat) t u, (ts ++ caps.map TS.one)[i]? = some t → ((args.map a.eval).toArray ++ us)[i]? = some u → RepS w g t u := by
 have h1 := hR.opds hx
 have h2 := hR.opd hcx
 generalize a.eval cx = v at h2
 cases h2 with
 | fn _ _ us hs h =>
  refine ⟨us, rfl, by simp [h1.1, hs], fun i t u hi hu => ?_⟩
  by_cases hlt : i < ts.length
  ·rw [List.getElem?_append_left hlt] at hi
   rw [Array.getElem?_append_left (by simp [← h1.1, hlt])] at hu
   exact h1.2 i t u hi (by simpa using hu)
  ·rw [List.getElem?_append_right (by omega), List.getElem?_map, Option.map_eq_some_iff] at hi
   obtain ⟨tv, hi, rfl⟩ := hi
   rw [Array.getElem?_append_right (by simp [h1.1]; omega)] at hu
   have hl : (args.map a.eval).toArray.size = ts.length := by simp [h1.1]
   rw [hl] at hu
   exact .one _ _ (h _ tv u hi hu)
theorem run_enterC {o : Oper} {f : FuncId} {cx : Operand} {args : List Operand} {tys : Array TypeId} {fn : Func} {us : Array Value} (he : a.eval cx = .func (.func f) #[] us)
  (ho : o.op = .call { callee := .value cx, args := args.toArray, argTypes := tys }) (hf : P.funcs[f]? = some fn) (hb : fn.body.isNone = false)
  (hn : (fn.name == "runtime.NumGoroutine") = false) (w' : World) : (execOp a.eval o).run P w' = .ok (.enter f ((args.map a.eval).toArray ++ us)) w' := by
 have hn' : ¬ fn.name = "runtime.NumGoroutine" := by simpa using hn
 have hb' : ¬ fn.body = none := fun e => by rw [e] at hb; cases hb
 simp [execOp, ho, resolve, he, Deferred.ofValue, invoke, callFunc, hf, hn', hb']
end
theorem Val.makeFunc {o : Oper} {f : FuncId} {cs : List Operand} {ts : List TS} {tvs : List TV} (ho : o.op = .makeFunc (.func f) #[] cs.toArray) (hx : opds st cs = some ts) (ht : ts = tvs.map TS.one) : Val P w0 g0 o st (.fn f tvs) := fun a w g hR => by
 have h1 := hR.opds hx
 subst ht
 refine ⟨.func (.func f) #[] (cs.map a.eval).toArray, fun w' _ => ?_, .fn f tvs _ (by simpa using h1.1.symm) fun j t u hj hu => ?_⟩
 ·simp [execOp, ho, Instr.makeFunc]
 ·have h2 := h1.2 j (.one t) u (by simp [hj]) (by simpa using hu)
  cases h2 with
  | one _ _ h => exact h
theorem OpM.callFC {o : Oper} {st' : St} {Q : St → Prop} {f : FuncId} {caps : List TV} {cx : Operand} {args : List Operand} {tys : Array TypeId} {fn : Func}
  (ho : o.op = .call { callee := .value cx, args := args.toArray, argTypes := tys }) (hcx : T.opd 0 st cx = some (.fn f caps)) (hf : P.funcs[f]? = some fn) (hb : fn.body.isNone = false)
  (hn : (fn.name == "runtime.NumGoroutine") = false) {ts ts' : List TS} (hx : opds st args = some ts) {t : TS} {x : Value} (hc : FunK P w0 g0 f ts' (RP t)) (hs : Snaps st (ts ++ caps.map TS.one) ts') (hp : freeS t = some x)
  (hpt : st.put o.dst t = st') (hq : Q st') : OpM P w0 g0 o st Q := fun a w g hR K' hK' => by
 obtain ⟨us, he, h1, h1'⟩ := hR.argsC hcx hx
 have h2 := hs.get
 have hcall := hc w hR.ks.kept { g with o := allRo w } ((args.map a.eval).toArray ++ us) 0 rfl (by rw [h1, h2.1]) (fun i t' u hi hu => by
  obtain ⟨t, h3, h4⟩ := h2.2 i t' hi
  exact hR.snap h4 (h1' i t u h3 hu) _ rfl)
 rw [run_enterC he ho hf hb hn w]
 refine ⟨Later.refl w, hcall.mono fun e w' ⟨v, r, g', he, hr, hG⟩ => ?_⟩
 have h5 := hG.val
 rw [hr] at h5
 have h6 := (freeS_inv hp).1 h5
 subst h6
 exact ⟨v, he, hG.later, hK' _ _ _ _ hq (hpt ▸ (hR.later hG.later).put ((freeS_inv hp).2 rfl) o.dst)⟩
theorem OpM.callGC {o : Oper} {Q : St → Prop} {f : FuncId} {caps : List TV} {cx : Operand} {args : List Operand} {tys : Array TypeId} {fn : Func} (ho : o.op = .call { callee := .value cx, args := args.toArray, argTypes := tys })
  (hcx : T.opd 0 st cx = some (.fn f caps)) (hf : P.funcs[f]? = some fn) (hb : fn.body.isNone = false)
  (hn : (fn.name == "runtime.NumGoroutine") = false) {k : Nat} (hd : o.dst = some k) {ts ts' : List TS} (hx : opds st args = some ts) (hs : Snaps st (ts ++ caps.map TS.one) ts') {l : List RD} (hc : FunK P w0 g0 f ts' (RG l))
  (hok : (cellsD l).all okD = true) (hq : Q ((st.fresh k ⟨false, ((cellsD l).filter isSl).map C.own⟩).put (some k) (resT (valsD k 0 l)))) (hkp : k < 1000000 := by decide) : OpM P w0 g0 o st Q := fun a w g hR K hK => by
 obtain ⟨us, he, h1, h1'⟩ := hR.argsC hcx hx
 have h2 := hs.get
 have hcall := hc w hR.ks.kept { g with o := allRo w } ((args.map a.eval).toArray ++ us) k rfl (by rw [h1, h2.1]) (fun i t' u hi hu => by
  obtain ⟨t, h3, h4⟩ := h2.2 i t' hi
  exact hR.snap h4 (h1' i t u h3 hu) _ rfl)
 rw [run_enterC he ho hf hb hn w]
 refine ⟨Later.refl w, hcall.mono fun e w' ⟨v, r, g', he, hr, hG⟩ => ?_⟩
 subst hr
 obtain ⟨g2, hR2, hv2⟩ := hR.called hkp hG (okS_resG hok)
 refine ⟨v, he, hG.later, hK _ _ _ g2 hq ?_⟩
 rw [hd]
 exact hR2.put hv2 (some k)
end
end Go.Proofs.Ytcmoifejjodgcaa.T

