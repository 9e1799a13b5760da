/- The lifted walk, part zm: regions that draw their order, where several operations that make or write memory may come in any order: each order is walked. No condition. -/
import Derived.Test.YteelmdpahpggkaaGreatTzkp
namespace Go.Proofs.YteelmdpahpggkaaGreat.T
open Go
set_option linter.unusedVariables false
set_option linter.unusedSimpArgs false

/-- The orders: what only reads comes first (0: of blocks that nobody writes, else of the pinned ones); where more than one other operation is ready, each may be the next. -/
inductive Ord where
  | done : Ord
  | quiet : Nat → Nat → Ord → Ord
  | fork : Ord → Ord
  | alt : Nat → Ord → Ord → Ord
  | stop : Ord
def Ord.alts : Ord → List Nat
  | .alt i _ u => i :: u.alts
  | _ => []
def quietOk (ops : Array Oper) (ws bs s : List Nat) (i b : Nat) (listed : Array Bool) : Bool := match b with
  | 0 => (Region.ready .any ops listed).contains i && Region.free .any ops listed i && !ws.contains i && ws.all (fun k => listed.getD k false || reaches .any ops ops.size k i)
  | _ => (Region.ready .any ops listed).contains i && Region.free .any ops listed i && !ws.contains i && ws.all (fun k => bs.contains k || (listed.getD k false || reaches .any ops ops.size k i)) &&
          (List.range ops.size).all (fun j => j == i && s.all (fun x => ((ops[j]?).bind (·.dst)) != some x) || j != i && (listed.getD j true || s.all fun x => ((ops[j]?).bind (·.dst)) != some x))
def Ord.ok (ops : Array Oper) (ws bs s : List Nat) : Ord → Nat → Array Bool → Bool
  | .done, _, listed => (Region.ready .any ops listed).isEmpty
  | .quiet i b t, n + 1, listed => quietOk ops ws bs s i b listed && t.ok ops ws bs s n (listed.setIfInBounds i true)
  | .quiet _ _ _, 0, _ => false
  | .fork t, n, listed => (Region.ready .any ops listed == t.alts) && t.ok ops ws bs s n listed
  | .alt i t u, n + 1, listed => (Region.ready .any ops listed).contains i && t.ok ops ws bs s n (listed.setIfInBounds i true) && u.ok ops ws bs s (n + 1) listed
  | .alt _ _ _, 0, _ => false
  | .stop, _, _ => true

def stepV (P : Program) (ops : Array Oper) (Q : Exit → Act → World → Prop) (ws bs s : List Nat) (i : Nat) (K : Act → World → Prop) (a : Act) (w : World) : Prop :=
  if ws.contains i = true then (if bs.contains i = true then sOp P ops s i K a w else wpOp P ops Q i K a w) else mOp P ops i K a w

section
variable {P : Program} {w0 : World} {g0 : Gh} {st : St}

def TT (P : Program) (w0 : World) (g0 : Gh) (ops : Array Oper) (ws bs s : List Nat) (t : Ord) (st : St) (Q : St → Prop) : Prop :=
  ∀ fuel listed, Region.noSelect ops = true → Closed .any ops listed → t.ok ops ws bs s fuel listed = true → ∀ a w g, Rel w0 g0 st a w g → ∀ (Q' : Exit → Act → World → Prop), (∀ st' a' w' g', Q st' → Rel w0 g0 st' a' w' g' → Q' .normal a' w') →
    wpAnyV P .any ops Q' ws bs s fuel listed a w
def TA (P : Program) (w0 : World) (g0 : Gh) (ops : Array Oper) (ws bs s : List Nat) (t : Ord) (st : St) (Q : St → Prop) : Prop :=
  ∀ fuel listed, Region.noSelect ops = true → Closed .any ops listed → t.ok ops ws bs s (fuel + 1) listed = true → ∀ a w g, Rel w0 g0 st a w g → ∀ (Q' : Exit → Act → World → Prop), (∀ st' a' w' g', Q st' → Rel w0 g0 st' a' w' g' → Q' .normal a' w') →
    ∀ i ∈ t.alts, stepV P ops Q' ws bs s i (wpAnyV P .any ops Q' ws bs s fuel (listed.setIfInBounds i true)) a w

theorem TC.regionT {i : Nat} {ops : Array Oper} {Q : Exit → St → Prop} (ws bs s : List Nat) (t : Ord) (hm : P.follows .mixedOrders = true) (hB : (Region.noSelect ops && t.ok ops ws bs s ops.size (Array.replicate ops.size false)) = true) (h : TT P w0 g0 ops ws bs s t st (fun st' => Q .normal st')) :
    TC P w0 g0 (.region i ops true) st Q := fun a w g hR => by
  simp only [Bool.and_eq_true] at hB
  obtain ⟨h1, h3⟩ := hB
  have hR' : Rel w0 g0 st a { w with drawn := w.drawn + 1 } g := hR.drew
  refine wp_region_any hm (wpAny_of_V (ws := ws) (bs := bs) (s := s) _ _ _ _ ?_)
  refine h _ _ h1 (fun j o ho hj => ?_) h3 a _ g hR' _ fun st' a' w' g' hq hr => ⟨st', g', hq, hr⟩
  simp [Array.getElem?_replicate] at hj
  split at hj <;> simp at hj

theorem TT.nil {ops : Array Oper} {ws bs s : List Nat} {Q : St → Prop} (h : Q st) : TT P w0 g0 ops ws bs s .done st Q := fun fuel listed hs hc he a w g hR Q' hQ => by
  have h0 : Region.ready .any ops listed = [] := by simpa [Ord.ok, List.isEmpty_iff] using he
  cases fuel with
  | zero => exact ⟨h0, hQ st a w g h hR⟩
  | succ n => exact ⟨fun _ => hQ st a w g h hR, fun i hi => by rw [h0] at hi; cases hi⟩

theorem TT.fork {ops : Array Oper} {ws bs s : List Nat} {t : Ord} {Q : St → Prop} (h : TA P w0 g0 ops ws bs s t st Q) (hne : t.alts ≠ []) : TT P w0 g0 ops ws bs s (.fork t) st Q := fun fuel listed hs hc he a w g hR Q' hQ => by
  simp only [Ord.ok, Bool.and_eq_true, beq_iff_eq] at he
  cases fuel with
  | zero =>
    cases t with
    | alt i t u => simp [Ord.ok] at he
    | _ => exact absurd rfl hne
  | succ n =>
    refine ⟨fun h0 => absurd (he.1.symm.trans h0) hne, fun i hi => ?_⟩
    rw [he.1] at hi
    exact h n listed hs hc he.2 a w g hR Q' hQ i hi

theorem TA.stop {ops : Array Oper} {ws bs s : List Nat} {Q : St → Prop} : TA P w0 g0 ops ws bs s .stop st Q := fun fuel listed hs hc he a w g hR Q' hQ i hi => by cases hi

theorem TA.alt {ops : Array Oper} {ws bs s : List Nat} {i : Nat} {t u : Ord} {Q : St → Prop}
    (h : ∀ (Q' : Exit → Act → World → Prop) (K : Act → World → Prop), (∀ st' a' w' g', TT P w0 g0 ops ws bs s t st' Q → Rel w0 g0 st' a' w' g' → K a' w') → ∀ a w g, Rel w0 g0 st a w g → stepV P ops Q' ws bs s i K a w) (hu : TA P w0 g0 ops ws bs s u st Q) :
    TA P w0 g0 ops ws bs s (.alt i t u) st Q := fun fuel listed hs hc he a w g hR Q' hQ j hj => by
  simp only [Ord.ok, Bool.and_eq_true] at he
  obtain ⟨⟨h1, h2⟩, h3⟩ := he
  rcases List.mem_cons.1 hj with rfl | hj
  · exact h Q' _ (fun st' a' w' g' hq hR' => hq fuel _ hs (hc.set (by simpa using h1)) h2 a' w' g' hR' Q' hQ) a w g hR
  · exact hu fuel listed hs hc h3 a w g hR Q' hQ j hj

theorem TT.quiet0 {ops : Array Oper} {ws bs s : List Nat} {i : Nat} {t : Ord} {st' : St} {Q : St → Prop} {o : Oper} {tl : List Oper} (hne : ws.contains i = false) (hd0 : ops.toList.drop i = o :: tl)
    (h : ∀ a w g, Rel w0 g0 st a w g → ∃ v, YV P ops o v a w ∧ Rel w0 g0 st' (a.put o.dst v) w g) (hq : TT P w0 g0 ops ws bs s t st' Q) : TT P w0 g0 ops ws bs s (.quiet i 0 t) st Q := fun fuel listed hs hc he a w g hR Q' hQ => by
  cases fuel with
  | zero => simp [Ord.ok] at he
  | succ n =>
    have hi := at_drop hd0
    simp only [Ord.ok, quietOk, Bool.and_eq_true] at he
    obtain ⟨h1, h2⟩ := he
    obtain ⟨v, hy, hR'⟩ := h a w g hR
    have hri : i ∈ Region.ready .any ops listed := by simpa using h1.1.1.1
    have hnext := hq n (listed.setIfInBounds i true) hs (hc.set hri) h2 _ w g hR' Q' hQ
    exact wpAnyV_first (n := ops.size) hi (Region.noSelect_spec hs) hne _ listed a w hc (fun k hk => by simpa using List.all_eq_true.1 h1.2 k hk) (Region.free_spec hi h1.1.1.2) hri hy hnext

theorem TT.quietS {ops : Array Oper} {ws bs s : List Nat} {i b : Nat} {t : Ord} {st' : St} {Q : St → Prop} {o : Oper} {tl : List Oper} (hne : ws.contains i = false) (hd0 : ops.toList.drop i = o :: tl)
    (h : ∀ a w g, Rel w0 g0 st a w g → ∃ v, YS P ops s o v a w ∧ Rel w0 g0 st' (a.put o.dst v) w g) (hq : TT P w0 g0 ops ws bs s t st' Q) : TT P w0 g0 ops ws bs s (.quiet i (b + 1) t) st Q := fun fuel listed hs hc he a w g hR Q' hQ => by
  cases fuel with
  | zero => simp [Ord.ok] at he
  | succ n =>
    have hi := at_drop hd0
    simp only [Ord.ok, quietOk, Bool.and_eq_true] at he
    obtain ⟨h1, h2⟩ := he
    obtain ⟨v, hy, hR'⟩ := h a w g hR
    have hri : i ∈ Region.ready .any ops listed := by simpa using h1.1.1.1.1
    have hnext := hq n (listed.setIfInBounds i true) hs (hc.set hri) h2 _ w g hR' Q' hQ
    have hds : ∀ j oj, ops[j]? = some oj → (j = i → ∀ x ∈ s, oj.dst ≠ some x) ∧ (j ≠ i → listed.getD j true = false → ∀ x ∈ s, oj.dst ≠ some x) := fun j oj hj => by
      have h3 := List.all_eq_true.1 h1.2 j (List.mem_range.2 (Array.getElem?_eq_some_iff.1 hj).1)
      rw [hj] at h3
      simp only [Option.bind_some, Bool.or_eq_true, Bool.and_eq_true, beq_iff_eq, bne_iff_ne, List.all_eq_true] at h3
      refine ⟨fun e => ?_, fun e hl => ?_⟩
      · rcases h3 with h3 | h3
        · exact h3.2
        · exact absurd e h3.1
      · rcases h3 with h3 | h3
        · exact absurd h3.1 e
        · rcases h3.2 with h4 | h4
          · rw [hl] at h4; cases h4
          · exact h4
    exact wpAnyV_firstS (n := ops.size) hi (Region.noSelect_spec hs) hne ((hds i o hi).1 rfl) _ listed a w hc (fun k hk => by simpa using List.all_eq_true.1 h1.1.2 k hk) (Region.free_spec hi h1.1.1.1.2) (fun j oj hj hji hl => (hds j oj hj).2 hji hl) hri hy hnext

theorem TT.valE {ops : Array Oper} {ws bs s : List Nat} {i : Nat} {l : Ord} {st' : St} {Q : St → Prop} {o : Oper} {t : TS} {tl : List Oper} (hne : ws.contains i = false) (hd0 : ops.toList.drop i = o :: tl) (hg : yes ops st o) (h : Val P w0 g0 o st t) (hp : st.put o.dst t = st')
    (hq : TT P w0 g0 ops ws bs s l st' Q) : TT P w0 g0 ops ws bs s (.quiet i 0 l) st Q := TT.quiet0 hne hd0 (fun a w g hR => by
  obtain ⟨v, hr, hv⟩ := h a w g hR
  exact ⟨v, .inl ⟨yes_of hg hR, fun w' hw' => hr w' hw'.2.2.2.2⟩, hp ▸ hR.put hv o.dst⟩) hq
theorem TT.valS {ops : Array Oper} {ws bs s : List Nat} {i b : Nat} {l : Ord} {st' : St} {Q : St → Prop} {o : Oper} {t : TS} {tl : List Oper} (hne : ws.contains i = false) (hd0 : ops.toList.drop i = o :: tl) (hg : yes ops st o) (h : ValS P w0 g0 s o st t) (hp : st.put o.dst t = st')
    (hq : TT P w0 g0 ops ws bs s l st' Q) : TT P w0 g0 ops ws bs s (.quiet i (b + 1) l) st Q := TT.quietS hne hd0 (fun a w g hR => by
  obtain ⟨v, hr, hv⟩ := h a w g hR
  exact ⟨v, .inl ⟨yes_of hg hR, hr⟩, hp ▸ hR.put hv o.dst⟩) hq

/-- One that may write. -/
theorem TA.opK {ops : Array Oper} {ws bs s : List Nat} {i : Nat} {l u : Ord} {Q : St → Prop} {o : Oper} {tl : List Oper} (hin : ws.contains i = true ∧ bs.contains i = false) (hd0 : ops.toList.drop i = o :: tl) (hg : yes ops st o)
    (h : ∀ K : St → Prop, (∀ st', TT P w0 g0 ops ws bs s l st' Q → K st') → OpT P w0 g0 o st K) (hu : TA P w0 g0 ops ws bs s u st Q) : TA P w0 g0 ops ws bs s (.alt i l u) st Q := TA.alt (fun Q' K hK a w g hR => by
  unfold stepV
  rw [if_pos hin.1, if_neg (by rw [hin.2]; decide)]
  unfold wpOp
  simp only [at_drop hd0, yes_of hg hR, if_true]
  exact .inl (h _ (fun _ h => h) a w g hR _ _ fun st' a' w' g' hq hR' => hK st' a' w' g' hq hR')) hu

/-- One that makes new memory. -/
theorem TA.opM {ops : Array Oper} {ws bs s : List Nat} {i : Nat} {l u : Ord} {Q : St → Prop} {o : Oper} {tl : List Oper} (hne : ws.contains i = false) (hd0 : ops.toList.drop i = o :: tl) (hg : yes ops st o)
    (h : ∀ K : St → Prop, (∀ st', TT P w0 g0 ops ws bs s l st' Q → K st') → OpM P w0 g0 o st K) (hu : TA P w0 g0 ops ws bs s u st Q) : TA P w0 g0 ops ws bs s (.alt i l u) st Q := TA.alt (fun Q' K hK a w g hR => by
  unfold stepV
  rw [if_neg (by rw [hne]; decide)]
  unfold mOp
  simp only [at_drop hd0, yes_of hg hR, if_true]
  exact h _ (fun _ h => h) a w g hR _ fun st' a' w' g' hq hR' => hK st' a' w' g' hq hR') hu

end
end Go.Proofs.YteelmdpahpggkaaGreat.T

