/- The lifted walk, part l: append, at the state. No condition. -/
import Derived.Test.YtdlpmcjpbcbbjaaDoorTk
namespace Go.Proofs.YtdlpmcjpbcbbjaaDoor.T
open Go
set_option linter.unusedVariables false
set_option linter.unusedSimpArgs false

section
variable {P : Program} {w0 : World} {g0 : Gh} {st : St} {a : Act} {w w' : World} {g g' : Gh}

/-- The owners behind an append of what a root src held (or of plain values) to what the root k1 held: all is k's. -/
def Gh.app (g : Gh) (k k1 : Nat) (src : Option Nat) (n sz b' off' : Nat) (v' : Value) (news : List Value) : Gh where
  o b := if b = b' then .lies k [] 0 else
    match g.o b with
    | .lies k' p q => if k' = k1 then (match p with | (0, i) :: r => .lies k ((0, i) :: r) q | _ => .ro) else if some k' = src then (match p with | (0, i) :: r => .lies k ((0, n + i) :: r) q | _ => .ro) else .lies k' p q
    | t => t
  ad k' := if k' = k then fun p => match p with | [] => (0, 0) | [(_, i)] => (b', off' + i * sz) | (_, i) :: r => if i < n then g.ad k1 ((0, i) :: r) else g.ad (src.getD 0) ((0, i - n) :: r) else g.ad k'
  cv k' := if k' = k then fun p q => match p with | [] => v' | (_, i) :: r => if i < n then g.cv k1 ((0, i) :: r) q else match src with | some k2 => g.cv k2 ((0, i - n) :: r) q | none => news.getD ((i - n) * sz + q) undef else g.cv k'

/-- What a new element's cell is: content of the root src, or a plain value. -/
def NewC (w : World) (g : Gh) (src : Option Nat) (i j : Nat) (u : Value) (c : D) : Prop :=
  match src with
  | some k2 => g.cv k2 [(0, i)] j = u ∧ Ow w g k2 [(0, i)] j c
  | none => c = .v u ∧ plain u = true

theorem Rel.append (hR : Rel w0 g0 st a w g) {k k1 : Nat} (hkp : k < 1000000) {src : Option Nat} {r1 : Rt} (hk1 : st.root k1 = some r1) (hm1 : r1.mem = false) {sz : Nat} {ds ns : List D} (hrow1 : r1.row = [.own (.sl sz ds)])
    (hsk : ∀ k2, src = some k2 → k2 ≠ k1) {v' : Value} {oldb : Option Nat} {olds news : List Value} (hA : Appended w w' v' oldb ds.length ns.length sz olds news) (hmost : ds.length + ns.length ≤ most)
    (hob : ∀ b, oldb = some b → g.o b = .lies k1 [] 0) (hol : olds.length = ds.length * sz) (hold : ∀ i j, i < ds.length → j < sz → olds[i * sz + j]? = some (g.cv k1 [(0, i)] j))
    (hnl : news.length = ns.length * sz) (hnrow : ∀ d ∈ ns, d.row.length = sz) (hnew : ∀ (i : Nat) d, ns[i]? = some d → ∀ (j : Nat) c, d.row[j]? = some c → NewC w g src i j (news.getD (i * sz + j) undef) c)
    (hv : g.cv k1 [] 0 = .slice none 0 0 ∨ True) :
    ∃ g', Rel w0 g0 (st.renew (k :: k1 :: src.toList) k ⟨false, [.own (.sl sz (ds ++ ns))]⟩) a w' g' ∧ g'.cv k [] 0 = v' := by
  have hK1 : pinK ≠ k := by simp only [pinK]; omega
  have hB1 : pinB ≠ k := by simp only [pinB]; omega
  have hO1 : Ow w g k1 [] 0 (.sl sz ds) := hR.rt.cell k1 r1 hk1 0 (.own (.sl sz ds)) (by rw [hrow1]; rfl)
  rcases hA.res with ⟨rfl, hn0, hm0, rfl⟩ | ⟨b', off', c', cs', e', hv', hcap, hcmax, hb', hfit', hc1, hc2, hwhere, hothers⟩
  · -- nothing at all
    have hd0 : ds = [] := List.eq_nil_of_length_eq_zero hn0
    have hns0 : ns = [] := List.eq_nil_of_length_eq_zero hm0
    subst hd0; subst hns0
    let g' : Gh := { g with cv := fun k' => if k' = k then fun _ _ => .slice none 0 0 else g.cv k' }
    have hS : Same w' g w' g' (fun k' => (k :: k1 :: src.toList).contains k' = false) := ⟨fun b hb => ⟨hb, rfl⟩, fun _ _ b _ => ⟨rfl, rfl⟩, fun _ _ => rfl, fun k' hk' => if_neg (fun e => by subst e; simp at hk')⟩
    refine ⟨g', hR.renew (by simp) hS ⟨hR.ks.os, hR.ks.tape, hR.ks.output, hR.ks.size, hR.ks.block, hR.ks.fresh, hR.ks.old, ⟨fun q => (by simp only [g', if_neg hK1]; exact hR.ks.pin.1 q), hR.ks.pin.2⟩, hR.ks.nobox⟩ (fun q c hq => ?_) rfl, by simp [g']⟩
    cases q with
    | succ q => simp at hq
    | zero =>
      simp only [List.append_nil, List.getElem?_cons_zero, Option.some.injEq] at hq
      subst hq
      exact Ow.nil [] 0 sz (by simp [g'])
  · have hkl : ∀ k', (k :: k1 :: src.toList).contains k' = false → k' ≠ k ∧ k' ≠ k1 ∧ some k' ≠ src := fun k' h => by
      refine ⟨fun e => ?_, fun e => ?_, fun e => ?_⟩
      · subst e; simp at h
      · subst e; simp at h
      · subst e; simp at h
    have hnewb : b' = w.heap.size ∨ (oldb = some b' ∧ b' < w.heap.size) := by
      rcases hwhere with ⟨h1, h2⟩ | ⟨h1, h2⟩
      · refine .inr ⟨h1, ?_⟩
        have := (Array.getElem?_eq_some_iff.1 hb').1
        omega
      · exact .inl h1
    have htagb : g.o b' = .outer ∨ g.o b' = .lies k1 [] 0 := by
      rcases hnewb with rfl | ⟨h1, _⟩
      · exact .inl (hR.ks.fresh _ (Nat.le_refl _))
      · exact .inr (hob b' h1)
    have hsize : w.heap.size ≤ w'.heap.size := by rcases hwhere with ⟨_, h⟩ | ⟨_, h⟩ <;> omega
    have hlt : ∀ b, g.o b ≠ .outer → b < w.heap.size := fun b hb => by
      rcases Nat.lt_or_ge b w.heap.size with h | h
      · exact h
      · exact absurd (hR.ks.fresh b h) hb
    have hheap : ∀ b, g.o b ≠ .outer → g.o b ≠ .lies k1 [] 0 → w'.heap[b]? = w.heap[b]? ∧ b ≠ b' := fun b h1 h2 => by
      have : b ≠ b' := fun e => by subst e; rcases htagb with h | h <;> contradiction
      exact ⟨hothers b (hlt b h1) this, this⟩
    generalize hg' : g.app k k1 src ds.length sz b' off' v' news = g'
    have ho1 : ∀ b k' p q, g.o b = .lies k' p q → k' ≠ k1 → some k' ≠ src → g'.o b = g.o b := fun b k' p q h1 h2 h3 => by
      have := (hheap b (by rw [h1]; simp) (by rw [h1]; simp [h2])).2
      subst hg'
      simp [Gh.app, this, h1, h2, h3]
    have ho2 : ∀ b, (∀ k' p q, g.o b ≠ .lies k' p q) → g.o b ≠ .outer → g'.o b = g.o b := fun b h1 h2 => by
      have := (hheap b h2 (h1 _ _ _)).2
      subst hg'
      simp only [Gh.app, if_neg this]
    have hS : Same w g w' g' (fun k' => (k :: k1 :: src.toList).contains k' = false) := by
      refine ⟨fun b hb => ?_, fun k' hk' b hb => ?_, fun k' hk' => ?_, fun k' hk' => ?_⟩
      · rw [ho2 b (fun _ _ _ => by rw [hb]; simp) (by rw [hb]; simp)]
        exact ⟨hb, (hheap b (by rw [hb]; simp) (by rw [hb]; simp)).1⟩
      · obtain ⟨n1, n2, n3⟩ := hkl k' hk'
        cases ht : g.o b with
        | ro => rw [ht] at hb; cases hb
        | outer => rw [ht] at hb; cases hb
        | box k2 =>
          rw [← ht]
          exact ⟨ho2 b (fun _ _ _ => by rw [ht]; simp) (by rw [ht]; simp), (hheap b (by rw [ht]; simp) (by rw [ht]; simp)).1⟩
        | lies k2 p q =>
          rw [ht] at hb
          have e : k2 = k' := by simpa [Tag.root?] using hb
          subst e
          rw [← ht]
          exact ⟨ho1 b _ p q ht n2 n3, (hheap b (by rw [ht]; simp) (by rw [ht]; simp [n2])).1⟩
      · subst hg'; simp only [Gh.app]; exact if_neg (hkl k' hk').1
      · subst hg'; simp only [Gh.app]; exact if_neg (hkl k' hk').1
    have hK : Keeps w0 g0 w' g' := by
      refine ⟨hA.os.trans hR.ks.os, hA.tape.trans hR.ks.tape, hA.output.trans hR.ks.output, Nat.le_trans hR.ks.size hsize, fun b hb hx => ?_, fun b hb => ?_, fun b hb hx => ?_, ⟨fun q => ?_, ?_⟩, fun b hb => ?_⟩
      · obtain ⟨h1, h2⟩ := hR.ks.block b hb hx
        have hlt' : b < w.heap.size := by have := hR.ks.size; omega
        have hne : b ≠ b' := fun e => by
          subst e
          rcases htagb with h | h
          · rcases hnewb with e | ⟨h3, _⟩
            · omega
            · rw [hob b h3] at h; cases h
          · rw [h2] at h; rcases hx with hx | hx <;> rw [hx] at h <;> cases h
        refine ⟨(hothers b hlt' hne).trans h1, ?_⟩
        rw [← h2] at hx ⊢
        subst hg'
        simp only [Gh.app, if_neg hne]
        rcases hx with hx | hx <;> simp [hx]
      · have hne : b ≠ b' := by
          rcases hnewb with rfl | ⟨_, h⟩
          · rcases hwhere with ⟨h1, h2⟩ | ⟨h1, h2⟩
            · have := (Array.getElem?_eq_some_iff.1 hb').1
              omega
            · omega
          · omega
        have := hR.ks.fresh b (by omega)
        subst hg'
        simp [Gh.app, hne, this]
      · have hx' : b ≠ b' ∧ g.o b = .outer := by
          subst hg'
          simp only [Gh.app] at hx
          split at hx
          · cases hx
          · rename_i hne
            refine ⟨hne, ?_⟩
            split at hx
            · split at hx
              · split at hx <;> cases hx
              · split at hx
                · split at hx <;> cases hx
                · cases hx
            · exact hx
        have hlt' : b < w.heap.size := by
          rcases hwhere with ⟨_, h2⟩ | ⟨h1, h2⟩ <;> omega
        exact hR.ks.old b hlt' hx'.2
      · subst hg'; simp only [Gh.app, if_neg hK1]; exact hR.ks.pin.1 q
      · subst hg'; simp only [Gh.app, if_neg hB1]; exact hR.ks.pin.2
      · subst hg'
        simp only [Gh.app] at hb
        split at hb
        · cases hb
        · split at hb
          · split at hb
            · split at hb <;> cases hb
            · split at hb
              · split at hb <;> cases hb
              · cases hb
          · exact hR.ks.nobox b hb
    have hhd : g'.cv k [] 0 = v' := by subst hg'; simp [Gh.app]
    refine ⟨g', hR.renew (by simp) hS hK (fun q c hq => ?_) rfl, hhd⟩
    cases q with
    | succ q => simp at hq
    | zero =>
      simp only [List.getElem?_cons_zero, Option.some.injEq] at hq
      subst hq
      have hrow1' : ∀ d ∈ ds, d.row.length = sz := by
        cases hO1 with
        | nil => intro d hd; cases hd
        | sl _ _ _ _ b off n c cs ty hc hn hm hnc hcm ho hb hfit hro had hcell hel => exact hro
      have hsub1 : ∀ i (d : D), ds[i]? = some d → ∀ (j : Nat) c, d.row[j]? = some c → Ow w g k1 [(0, i)] j c := by
        intro i d hd j c hj
        exact (hO1.row hd).own j c hj
      refine Ow.sl [] 0 sz (ds ++ ns) b' off' (ds.length + ns.length) c' cs' e' (by rw [hhd, hv']) (by simp) hmost hcap hcmax (by subst hg'; simp [Gh.app]) hb' hfit' (fun d hd => ?_) (fun i hi => ?_) (fun i j hi hj => ?_) (fun i d hd j c hj => ?_)
      · rcases List.mem_append.1 hd with h | h
        · exact hrow1' d h
        · exact hnrow d h
      · subst hg'; simp [Gh.app]
      · by_cases hin : i < ds.length
        · have h1 : i * sz + j < ds.length * sz := by
            have : (i + 1) * sz ≤ ds.length * sz := Nat.mul_le_mul_right _ hin
            rw [Nat.add_mul] at this
            omega
          rw [Nat.add_assoc, hc1 _ h1, hold i j hin hj]
          subst hg'
          simp [Gh.app, hin]
        · have h2 : (i - ds.length) * sz + j < ns.length * sz := by
            have : (i - ds.length + 1) * sz ≤ ns.length * sz := Nat.mul_le_mul_right _ (by omega)
            rw [Nat.add_mul] at this
            omega
          have h3 : off' + i * sz + j = off' + ds.length * sz + ((i - ds.length) * sz + j) := by
            have : i * sz = ds.length * sz + (i - ds.length) * sz := by rw [← Nat.add_mul]; congr 1; omega
            omega
          rw [h3, hc2 _ h2]
          have hnd : ns[i - ds.length]? = some ns[i - ds.length] := List.getElem?_eq_getElem (by omega)
          have hjl : j < (ns[i - ds.length]).row.length := by rw [hnrow _ (List.mem_of_getElem? hnd)]; exact hj
          have h4 := hnew _ _ hnd j _ (List.getElem?_eq_getElem hjl)
          have h5 : news[(i - ds.length) * sz + j]? = some (news.getD ((i - ds.length) * sz + j) undef) := by
            rw [List.getD, List.getElem?_eq_getElem (by omega)]
            rfl
          rw [h5]
          subst hg'
          cases src with
          | none => simp [Gh.app, hin]
          | some k2 =>
            simp only [NewC] at h4
            simp [Gh.app, hin, h4.1]
      · rw [List.nil_append]
        by_cases hin : i < ds.length
        · rw [List.getElem?_append_left hin] at hd
          have hO := hsub1 i d hd j c hj
          refine Ow.move hO ⟨?_, fun i' r q' => ?_, fun i' r => ?_, fun b hb => ?_, fun b i' r q' hb => ?_⟩
          · subst hg'; simp [Gh.app, hin]
          · subst hg'; simp [Gh.app, hin]
          · subst hg'; simp [Gh.app, hin]
          · have h1 := hheap b (by rw [hb]; simp) (by rw [hb]; simp)
            refine ⟨?_, h1.1⟩
            subst hg'
            simp [Gh.app, h1.2, hb]
          · have h1 := hheap b (by rw [hb]; simp) (by rw [hb]; simp)
            refine ⟨?_, h1.1⟩
            subst hg'
            simp [Gh.app, h1.2, hb]
        · rw [List.getElem?_append_right (by omega)] at hd
          have h4 := hnew _ d hd j c hj
          have hidx : ds.length + (i - ds.length) = i := by omega
          cases src with
          | none =>
            simp only [NewC] at h4
            obtain ⟨rfl, hp⟩ := h4
            refine .v _ _ _ hp ?_
            subst hg'
            simp [Gh.app, hin]
          | some k2 =>
            simp only [NewC] at h4
            have hk2 : k2 ≠ k1 := hsk k2 rfl
            refine Ow.move h4.2 ⟨?_, fun i' r q' => ?_, fun i' r => ?_, fun b hb => ?_, fun b i' r q' hb => ?_⟩
            · subst hg'; simp [Gh.app, hin]
            · subst hg'; simp [Gh.app, hin]
            · subst hg'; simp [Gh.app, hin]
            · have h1 := hheap b (by rw [hb]; simp) (by rw [hb]; simp)
              refine ⟨?_, h1.1⟩
              subst hg'
              simp [Gh.app, h1.2, hb, hk2, hidx]
            · have h1 := hheap b (by rw [hb]; simp) (by rw [hb]; simp)
              refine ⟨?_, h1.1⟩
              subst hg'
              simp [Gh.app, h1.2, hb, hk2, hidx]
end
end Go.Proofs.YtdlpmcjpbcbbjaaDoor.T
