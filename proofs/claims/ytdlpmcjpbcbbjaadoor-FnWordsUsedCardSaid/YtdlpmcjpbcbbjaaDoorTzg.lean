/- The lifted walk, part zg: calls that write a list that lies in an element of an own list. No condition. -/
import Derived.Test.YtdlpmcjpbcbbjaaDoorTza
namespace Go.Proofs.YtdlpmcjpbcbbjaaDoor.T
open Go
set_option linter.unusedVariables false
set_option linter.unusedSimpArgs false

/-- Is the place the one in the element, or does it lie behind it? -/
def und (k1 q0 i0 j k : Nat) : List (Nat × Nat) → Nat → Bool
  | [], _ => false
  | [(a, b)], q => k == k1 && a == q0 && b == i0 && q == j
  | (a, b) :: (c, _) :: _, _ => k == k1 && a == q0 && b == i0 && c == j

def Gh.handN (g : Gh) (n k1 q0 i0 j : Nat) : Gh where
  o b := if n ≤ b then .outer else match g.o b with
    | .lies k' p q => if und k1 q0 i0 j k' p q then (match p with | _ :: (_, i) :: r => .lies pinK ((0, i) :: r) q | _ => .lies pinK [] 0) else .ro
    | _ => .ro
  ad k p := if k = pinK then (match p with | (_, i) :: r => g.ad k1 ((q0, i0) :: (j, i) :: r) | [] => (0, 0)) else g.ad k p
  cv k p q := if k = pinK then (match p with | (_, i) :: r => g.cv k1 ((q0, i0) :: (j, i) :: r) q | [] => g.cv k1 [(q0, i0)] j) else g.cv k p q

def Gh.backN (g gc g' : Gh) (n n' k1 q0 i0 j : Nat) : Gh where
  o b := if b < n ∧ (gc.o b).isRo = true then g.o b else if b < n' then (match g'.o b with
      | .lies k' p q => if k' = pinK then (match p with | (_, i) :: r => .lies k1 ((q0, i0) :: (j, i) :: r) q | [] => .lies k1 [(q0, i0)] j) else .ro
      | _ => .ro) else .outer
  ad k p := match p with
    | (a, b) :: (c, i) :: r => if k = k1 ∧ a = q0 ∧ b = i0 ∧ c = j then g'.ad pinK ((0, i) :: r) else g.ad k p
    | _ => g.ad k p
  cv k p q := match p with
    | (a, b) :: (c, i) :: r => if k = k1 ∧ a = q0 ∧ b = i0 ∧ c = j then g'.cv pinK ((0, i) :: r) q else g.cv k p q
    | _ => g.cv k p q

theorem und_un {k1 q0 i0 j k : Nat} {p : List (Nat × Nat)} {q : Nat} (h : und k1 q0 i0 j k p q = true) : k = k1 ∧ Un [(q0, i0)] j p q := by
  match p, h with
  | [(a, b)], h =>
    simp only [und, Bool.and_eq_true, beq_iff_eq] at h
    obtain ⟨⟨⟨rfl, rfl⟩, rfl⟩, rfl⟩ := h
    exact ⟨rfl, .inl ⟨rfl, rfl⟩⟩
  | (a, b) :: (c, i) :: r, h =>
    simp only [und, Bool.and_eq_true, beq_iff_eq] at h
    obtain ⟨⟨⟨rfl, rfl⟩, rfl⟩, rfl⟩ := h
    exact ⟨rfl, .inr ⟨i, r, rfl⟩⟩

theorem reRow_row {e c : D} {j : Nat} (hj : j < e.row.length) (hc : c.row = [c]) : (e.reRow (e.row.set j c)).row = e.row.set j c := by
  cases e with
  | st ds => rfl
  | _ =>
    simp only [D.row, List.length_cons, List.length_nil] at hj
    obtain rfl : j = 0 := by omega
    simp only [D.row, List.set_cons_zero, D.reRow]
    exact hc

/-- The state behind the call. -/
def St.nest (st : St) (k1 q0 i0 j : Nat) (d : D) : Option St :=
  match st.root k1 with
  | some r => match r.row[q0]? with
    | some (.own (.sl sz ds)) => match ds[i0]? with
      | some e => some ((st.kill (hitR k1 [(q0, i0)] j) (hitP k1 [(q0, i0)] j)).setRoot k1 ⟨r.mem, (r.row.map (C.kill (hitR k1 [(q0, i0)] j))).set q0 (.own (.sl sz (ds.set i0 (e.reRow (e.row.set j d)))))⟩)
      | none => none
    | _ => none
  | none => none

section
variable {P : Program} {w0 : World} {g0 : Gh} {st : St} {a : Act} {w : World} {g : Gh} {k1 q0 i0 j sz sz2 : Nat} {rt : Rt} {ds ds2 : List D} {e : D}

theorem Rel.ltOf (hR : Rel w0 g0 st a w g) {b : Nat} (hb : g.o b ≠ .outer) : b < w.heap.size := by
  rcases Nat.lt_or_ge b w.heap.size with h | h
  · exact h
  · exact absurd (hR.ks.fresh b h) hb

theorem Rel.nestAt (hR : Rel w0 g0 st a w g) (hk : st.root k1 = some rt) (hq : rt.row[q0]? = some (.own (.sl sz ds))) (he : ds[i0]? = some e) (hj : e.row[j]? = some (.sl sz2 ds2)) : Ow w g k1 [(q0, i0)] j (.sl sz2 ds2) := by
  have hO : Ow w g k1 [] q0 (.sl sz ds) := hR.rt.cell k1 rt hk q0 _ hq
  cases hO with
  | nil _ _ _ _ => simp at he
  | sl _ _ _ _ b off n c cs t hc hn hm hnc hcm ho hb hfit hrow had hcell hel => exact hel i0 e he j _ hj

theorem Rel.handedN (hR : Rel w0 g0 st a w g) (hO : Ow w g k1 [(q0, i0)] j (.sl sz2 ds2)) : Handed w (g.handN w.heap.size k1 q0 i0 j) ⟨false, [.sl sz2 ds2]⟩ := by
  refine ⟨fun b hb => ?_, fun b hb => ?_, fun b => ?_, fun q d hq => ?_, fun h => by cases h⟩
  · simp only [Gh.handN, if_pos hb]
  · simp only [Gh.handN, if_neg (Nat.not_le.2 hb)]
    split
    · split
      · split <;> exact .inr rfl
      · exact .inl rfl
    · exact .inl rfl
  · simp only [Gh.handN]
    split
    · simp
    · split
      · split
        · split <;> simp
        · simp
      · simp
  · cases q with
    | succ q => simp at hq
    | zero =>
      simp only [List.getElem?_cons_zero, Option.some.injEq] at hq
      subst hq
      show Ow w _ pinK [] 0 _
      refine Ow.move hO ⟨by simp [Gh.handN], fun i r q' => by simp [Gh.handN], fun i r => by simp [Gh.handN], fun b hb => ⟨?_, rfl⟩, fun b i r q' hb => ⟨?_, rfl⟩⟩
      · have := hR.ltOf (b := b) (by rw [hb]; simp)
        simp [Gh.handN, Nat.not_le.2 this, hb, und]
      · have := hR.ltOf (b := b) (by rw [hb]; simp)
        simp [Gh.handN, Nat.not_le.2 this, hb, und]

theorem Rel.backN (hR : Rel w0 g0 st a w g) (hk : st.root k1 = some rt) (hq : rt.row[q0]? = some (.own (.sl sz ds))) (he : ds[i0]? = some e) (hj : e.row[j]? = some (.sl sz2 ds2)) {k sz3 : Nat} {ds3 : List D} {r : Res} {v : Value} {w' : World} {g' : Gh}
    (hG : Gives2 w (g.handN w.heap.size k1 q0 i0 j) ⟨false, [.sl sz2 ds2]⟩ k [.sl sz3 ds3] r v w' g') {st' : St} (hst : st.nest k1 q0 i0 j (.sl sz3 ds3) = some st') : ∃ g2, Rel w0 g0 st' a w' g2 := by
  generalize hgc : g.handN w.heap.size k1 q0 i0 j = gc at hG
  refine ⟨g.backN gc g' w.heap.size w'.heap.size k1 q0 i0 j, ?_⟩
  generalize hg2 : g.backN gc g' w.heap.size w'.heap.size k1 q0 i0 j = g2
  -- blocks that are not handed
  have hst0 : ∀ b, b < w.heap.size → gc.o b = .ro → w'.heap[b]? = w.heap[b]? ∧ g2.o b = g.o b := fun b hb h => ⟨hG.block b hb h, by
    subst hg2
    simp only [Gh.backN, h]
    rw [if_pos ⟨hb, rfl⟩]⟩
  have hplain : ∀ b, b < w.heap.size → (∀ k' p q, g.o b = .lies k' p q → und k1 q0 i0 j k' p q = false) → gc.o b = .ro := fun b hb h => by
    subst hgc
    simp only [Gh.handN, if_neg (Nat.not_le.2 hb)]
    split
    · rename_i k' p q hb2
      rw [if_neg (by rw [h k' p q hb2]; simp)]
    · rfl
  have hcv : ∀ k' p q, und k1 q0 i0 j k' p q = false → g2.cv k' p q = g.cv k' p q := fun k' p q h => by
    subst hg2
    match p, h with
    | [], _ => rfl
    | [_], _ => rfl
    | (a, b) :: (c, i) :: r, h =>
      simp only [Gh.backN]
      rw [if_neg]
      rintro ⟨rfl, rfl, rfl, rfl⟩
      simp [und] at h
  have had : ∀ k' p, (∀ q, und k1 q0 i0 j k' p q = false ∨ ∃ x, p = [x]) → g2.ad k' p = g.ad k' p := fun k' p h => by
    subst hg2
    match p, h with
    | [], _ => rfl
    | [_], _ => rfl
    | (a, b) :: (c, i) :: r, h =>
      simp only [Gh.backN]
      rw [if_neg]
      rintro ⟨rfl, rfl, rfl, rfl⟩
      rcases h 0 with h | ⟨x, h⟩
      · simp [und] at h
      · simp at h
  -- places that are not in the way
  have hdis : ∀ k' p q d, (∀ i r q', und k1 q0 i0 j k' (p ++ (q, i) :: r) q' = false) → und k1 q0 i0 j k' p q = false → (∀ i r, k' = k1 → p ++ (q, i) :: r ≠ [(q0, i0)] ∨ True) → Ow w g k' p q d → Ow w' g2 k' p q d := fun k' p q d h1 h2 _ h3 => by
    refine Ow.move h3 ⟨hcv _ _ _ h2, fun i r q' => hcv _ _ _ (h1 i r q'), fun i r => had _ _ fun q' => .inl (h1 i r q'), fun b hb => ?_, fun b i r q' hb => ?_⟩
    · have hlt := hR.ltOf (b := b) (by rw [hb]; simp)
      have := hst0 b hlt (hplain b hlt fun k2 p2 q2 e2 => by rw [hb] at e2; cases e2; exact h2)
      exact ⟨by rw [this.2]; exact hb, this.1⟩
    · have hlt := hR.ltOf (b := b) (by rw [hb]; simp)
      have := hst0 b hlt (hplain b hlt fun k2 p2 q2 e2 => by rw [hb] at e2; cases e2; exact h1 i r q')
      exact ⟨by rw [this.2]; exact hb, this.1⟩
  have hcv1 : ∀ k' x q, g2.cv k' [x] q = g.cv k' [x] q := fun k' x q => by subst hg2; rfl
  have had1 : ∀ k' x, g2.ad k' [x] = g.ad k' [x] := fun k' x => by subst hg2; rfl
  have hrow0 : Ow w' g' pinK [] 0 (.sl sz3 ds3) := hG.hrow 0 _ rfl
  have hpin : g'.cv pinK [] 0 = g.cv k1 [(q0, i0)] j := by rw [hG.pinl rfl 0]; subst hgc; simp [Gh.handN]
  have hback : ∀ b p q, g'.o b = .lies pinK p q → g2.o b = (match p with | (_, i) :: r => .lies k1 ((q0, i0) :: (j, i) :: r) q | [] => .lies k1 [(q0, i0)] j) := fun b p q hb => by
    obtain ⟨h1, h2⟩ := hG.old b (.inr (by rw [hb]; rfl))
    subst hg2
    simp only [Gh.backN, hb, if_true, if_pos h1]
    rw [if_neg]
    rintro ⟨h3, h4⟩
    rcases h2 with h2 | h2
    · omega
    · exact h2 (isRo_iff.1 h4)
  have hN : Ow w' g2 k1 [(q0, i0)] j (.sl sz3 ds3) := by
    refine Ow.move hrow0 ⟨by rw [hcv1, hpin], fun i r q' => by subst hg2; simp [Gh.backN], fun i r => by subst hg2; simp [Gh.backN], fun b hb => ⟨?_, rfl⟩, fun b i r q' hb => ⟨?_, rfl⟩⟩
    · rw [hback b _ _ hb]
    · rw [hback b _ _ hb]; rfl
  have hO : Ow w g k1 [] q0 (.sl sz ds) := hR.rt.cell k1 rt hk q0 _ hq
  have hjl : j < e.row.length := (List.getElem?_eq_some_iff.1 hj).1
  have hO' : Ow w' g2 k1 [] q0 (.sl sz (ds.set i0 (e.reRow (e.row.set j (.sl sz3 ds3))))) := by
    have hrr := reRow_row (e := e) (c := .sl sz3 ds3) hjl rfl
    cases hO with
    | nil _ _ _ _ => simp at he
    | sl _ _ _ _ b off n c cs t hc hn hm hnc hcm ho hb hfit hrow had2 hcell hel =>
      have hlt := lt_of_heap hb
      have hs := hst0 b hlt (hplain b hlt fun k2 p2 q2 e2 => by rw [ho] at e2; cases e2; rfl)
      refine .sl [] q0 sz _ b off n c cs t (by rw [hcv _ _ _ rfl]; exact hc) (by simpa using hn) hm hnc hcm (by rw [hs.2]; exact ho) (by rw [hs.1]; exact hb) hfit (fun d hd => ?_) (fun i hi => ?_) (fun i j' hi hj' => ?_) (fun i d hd j' c' hj' => ?_)
      · rcases List.mem_or_eq_of_mem_set hd with h | h
        · exact hrow d h
        · rw [h, hrr, List.length_set]; exact hrow e (List.mem_of_getElem? he)
      · show g2.ad k1 [(q0, i)] = _
        rw [had1]; exact had2 i hi
      · show _ = some (g2.cv k1 [(q0, i)] j')
        rw [cell_eq hs.1, hcv1]; exact hcell i j' hi hj'
      · show Ow w' g2 k1 [(q0, i)] j' c'
        by_cases hi : i = i0
        · subst hi
          rw [List.getElem?_set_self (List.getElem?_eq_some_iff.1 he).1] at hd
          simp only [Option.some.injEq] at hd
          subst hd
          rw [hrr] at hj'
          by_cases hjj : j' = j
          · subst hjj
            rw [List.getElem?_set_self hjl] at hj'
            simp only [Option.some.injEq] at hj'
            subst hj'
            exact hN
          · rw [List.getElem?_set_ne (Ne.symm hjj)] at hj'
            exact hdis k1 [(q0, i)] j' c' (fun i2 r q' => by simp [und, hjj]) (by simp [und, hjj]) (fun _ _ _ => .inr trivial) (hel i e he j' c' hj')
        · rw [List.getElem?_set_ne (Ne.symm hi)] at hd
          exact hdis k1 [(q0, i)] j' c' (fun i2 r q' => by simp [und, hi]) (by simp [und, hi]) (fun _ _ _ => .inr trivial) (hel i d hd j' c' hj')
  have hA : Agree w g w' g2 (hitR k1 [(q0, i0)] j) (hitP k1 [(q0, i0)] j) := by
    refine ⟨fun b hb => ?_, fun pl hp => ?_, fun pl hp => ?_⟩
    · have hlt := hR.ltOf (b := b) (by rw [hb]; simp)
      have := hst0 b hlt (hplain b hlt fun k2 p2 q2 e2 => by rw [hb] at e2; cases e2)
      exact ⟨by rw [this.2]; exact hb, this.1⟩
    · refine hcv _ _ _ ?_
      cases hu : und k1 q0 i0 j pl.k pl.p pl.q with
      | false => rfl
      | true => exact absurd (und_un hu) (hitR_of hp)
    · refine had _ _ fun q => ?_
      cases hu : und k1 q0 i0 j pl.k pl.p q with
      | false => exact .inl rfl
      | true =>
        obtain ⟨h1, h2⟩ := und_un hu
        rcases h2 with ⟨h2, _⟩ | ⟨i, r, h2⟩
        · exact .inr ⟨_, h2⟩
        · exact absurd ⟨h1, i, r, h2⟩ (hitP_of hp)
  have hcellC : ∀ k' q c, (k' = k1 → q ≠ q0) → RepC w g k' q c → RepC w' g2 k' q (c.kill (hitR k1 [(q0, i0)] j)) := fun k' q c hne h3 => by
    have hu1 : ∀ i r q', und k1 q0 i0 j k' ([] ++ (q, i) :: r) q' = false := fun i r q' => by
      cases hu : und k1 q0 i0 j k' ([] ++ (q, i) :: r) q' with
      | false => rfl
      | true =>
        obtain ⟨h1, h2⟩ := und_un hu
        rcases h2 with ⟨h2, _⟩ | ⟨i2, r2, h2⟩ <;>
          (simp only [List.nil_append, List.cons_append, List.cons.injEq, Prod.mk.injEq] at h2; exact absurd h2.1.1 (hne h1))
    cases c with
    | ro d => show Ro w' _ d _; rw [hcv _ _ _ rfl]; exact Ro.mono hA.ro h3
    | own d => exact hdis k' [] q d hu1 rfl (fun _ _ _ => .inr trivial) h3
    | ref pl =>
      have h4 : g.cv k' [] q = g.cv pl.k pl.p pl.q ∧ (g.cv k' [] q).oneCell' = true := h3
      simp only [C.kill]
      cases hp : hitR k1 [(q0, i0)] j pl with
      | true => trivial
      | false =>
        show g2.cv k' [] q = g2.cv pl.k pl.p pl.q ∧ (g2.cv k' [] q).oneCell' = true
        rw [hcv _ _ _ rfl, hA.cv pl hp]
        exact h4
    | dead => trivial
  unfold St.nest at hst
  simp only [hk, hq, he, Option.some.injEq] at hst
  subst hst
  have hroot : ∀ k' r', ((st.kill (hitR k1 [(q0, i0)] j) (hitP k1 [(q0, i0)] j)).setRoot k1 ⟨rt.mem, (rt.row.map (C.kill (hitR k1 [(q0, i0)] j))).set q0 (.own (.sl sz (ds.set i0 (e.reRow (e.row.set j (.sl sz3 ds3))))))⟩).root k' = some r' →
      (k' = k1 ∧ r' = ⟨rt.mem, (rt.row.map (C.kill (hitR k1 [(q0, i0)] j))).set q0 (.own (.sl sz (ds.set i0 (e.reRow (e.row.set j (.sl sz3 ds3))))))⟩) ∨ (k' ≠ k1 ∧ ∃ r1, st.root k' = some r1 ∧ r' = r1.kill (hitR k1 [(q0, i0)] j)) := fun k' r' h => by
    rw [St.root_setRoot] at h
    split at h
    · rename_i e1
      simp only [Option.some.injEq] at h
      exact .inl ⟨e1, h.symm⟩
    · rename_i e1
      rw [St.root_kill, Option.map_eq_some_iff] at h
      obtain ⟨r1, h1, h2⟩ := h
      exact .inr ⟨e1, r1, h1, h2.symm⟩
  refine hR.change hA rfl ⟨fun k' r' hk' q c hc => ?_, fun k' r' hk' hm => ?_⟩ ?_
  · rcases hroot k' r' hk' with ⟨rfl, rfl⟩ | ⟨h1, r1, h3, rfl⟩
    · rw [List.getElem?_set] at hc
      by_cases e1 : q0 = q
      · subst e1
        rw [if_pos rfl] at hc
        split at hc
        · simp only [Option.some.injEq] at hc
          subst hc
          exact hO'
        · cases hc
      · rw [if_neg e1, List.getElem?_map, Option.map_eq_some_iff] at hc
        obtain ⟨c1, h4, rfl⟩ := hc
        exact hcellC k' q c1 (fun _ h => e1 h.symm) (hR.rt.cell k' rt hk q c1 h4)
    · simp only [Rt.kill, List.getElem?_map, Option.map_eq_some_iff] at hc
      obtain ⟨c1, h4, rfl⟩ := hc
      exact hcellC k' q c1 (fun h => absurd h h1) (hR.rt.cell k' r1 h3 q c1 h4)
  · have hmem : ∀ k' r1, st.root k' = some r1 → r1.mem = true → g2.o (g2.ad k' []).1 = .box k' ∧ (∃ cs e, w'.heap[(g2.ad k' []).1]? = some (.cells cs e (0, 0))) ∧ ∀ q, q < r1.row.length → w'.cell? (cellAddr (g2.ad k' []) q) = some (g2.cv k' [] q) := fun k' r1 h2 h3 => by
      obtain ⟨m1, ⟨cs, t, m2⟩, m3⟩ := hR.rt.mem k' r1 h2 h3
      have hlt := lt_of_heap m2
      have hs := hst0 _ hlt (hplain _ hlt fun k2 p2 q2 e2 => by rw [m1] at e2; cases e2)
      rw [had _ _ fun q => .inl rfl]
      refine ⟨by rw [hs.2]; exact m1, ⟨cs, t, by rw [hs.1]; exact m2⟩, fun q hq => ?_⟩
      rw [hcv _ _ _ rfl, ← m3 q hq]
      exact World.cell?_of_block (w := w) hs.1
    rcases hroot k' r' hk' with ⟨rfl, rfl⟩ | ⟨h1, r1, h3, rfl⟩
    · obtain ⟨m1, m2, m3⟩ := hmem k' rt hk hm
      exact ⟨m1, m2, fun q hq => m3 q (by simpa using hq)⟩
    · obtain ⟨m1, m2, m3⟩ := hmem k' r1 h3 hm
      exact ⟨m1, m2, fun q hq => m3 q (by simpa [Rt.kill] using hq)⟩
  · have hk0 := hR.ks
    refine ⟨hG.os.trans hk0.os, hG.tape.trans hk0.tape, hG.output.trans hk0.output, Nat.le_trans hk0.size hG.size, fun b hb hx => ?_, fun b hb => ?_, fun b hb hx => ?_, ⟨fun q => ?_, ?_⟩, fun b hb => ?_⟩
    · obtain ⟨h1, h2⟩ := hk0.block b hb hx
      have hlt : b < w.heap.size := Nat.lt_of_lt_of_le hb hk0.size
      have hs := hst0 b hlt (hplain b hlt fun k2 p2 q2 e2 => by rw [h2] at e2; rcases hx with hx | hx <;> rw [hx] at e2 <;> cases e2)
      exact ⟨by rw [hs.1]; exact h1, by rw [hs.2]; exact h2⟩
    · have := hG.size
      subst hg2
      simp only [Gh.backN]
      rw [if_neg (fun h => by omega), if_neg (by omega)]
    · subst hg2
      simp only [Gh.backN] at hx
      split at hx
      · rename_i h1
        exact hk0.old b h1.1 hx
      · repeat' split at hx
        all_goals first | (cases hx; done) | omega
    · rw [hcv _ _ _ rfl]; exact hk0.pin.1 q
    · rw [had _ _ fun q => .inl rfl]; exact hk0.pin.2
    · subst hg2
      simp only [Gh.backN] at hb
      split at hb
      · exact hk0.nobox b hb
      · repeat' split at hb
        all_goals cases hb

/-- An argument of such a call: a value, or the list in the element. -/
inductive GiveN (k1 q0 i0 j : Nat) : TS → TS → Prop
  | ro (d : D) : GiveN k1 q0 i0 j (.one (.c (.ro d))) (.one (.c (.ro d)))
  | it : GiveN k1 q0 i0 j (.one (.c (.ref ⟨k1, [(q0, i0)], j⟩))) (.one (.c (.ref ⟨pinK, [], 0⟩)))
inductive GiveNs (k1 q0 i0 j : Nat) : List TS → List TS → Prop
  | nil : GiveNs k1 q0 i0 j [] []
  | cons {t t' : TS} {ts ts' : List TS} (h : GiveN k1 q0 i0 j t t') (hs : GiveNs k1 q0 i0 j ts ts') : GiveNs k1 q0 i0 j (t :: ts) (t' :: ts')
theorem GiveNs.get : ∀ {ts ts' : List TS}, GiveNs k1 q0 i0 j ts ts' → ts'.length = ts.length ∧ ∀ (i : Nat) t', ts'[i]? = some t' → ∃ t, ts[i]? = some t ∧ GiveN k1 q0 i0 j t t'
  | _, _, .nil => ⟨rfl, fun i t' h => by simp at h⟩
  | _, _, .cons h hs => by
    obtain ⟨h1, h2⟩ := hs.get
    refine ⟨by simp [h1], fun i t' hi => ?_⟩
    cases i with
    | zero =>
      simp only [List.getElem?_cons_zero, Option.some.injEq] at hi
      subst hi
      exact ⟨_, rfl, h⟩
    | succ i => exact h2 i t' (by simpa using hi)

theorem Rel.giveN (hR : Rel w0 g0 st a w g) {t t' : TS} {u : Value} (hg : GiveN k1 q0 i0 j t t') (hu : RepS w g t u) : RepS w (g.handN w.heap.size k1 q0 i0 j) t' u := by
  cases hg with
  | ro d =>
    cases hu with
    | one _ _ hu =>
      cases hu with
      | c _ _ hu =>
        refine .one _ _ (.c (.ro d) _ ?_)
        refine Ro.mono (w := w) (o := g.o) (fun b hb => ⟨?_, rfl⟩) hu
        have := hR.ltOf (b := b) (by rw [hb]; simp)
        simp [Gh.handN, Nat.not_le.2 this, hb]
  | it =>
    cases hu with
    | one _ _ hu =>
      cases hu with
      | c _ _ hu =>
        have h1 : u = g.cv k1 [(q0, i0)] j ∧ u.oneCell' = true := hu
        refine .one _ _ (.c (.ref ⟨pinK, [], 0⟩) _ ?_)
        show u = (g.handN w.heap.size k1 q0 i0 j).cv pinK [] 0 ∧ u.oneCell' = true
        exact ⟨by simp [Gh.handN, h1.1], h1.2⟩

/-- A call that writes the list in an element. -/
theorem TL.callN {ops : Array Oper} {o : Oper} {rest : List Oper} {st1 st' : St} {Q : St → Prop} (hg : yes ops st o) {f : FuncId} {cx : Operand} {args : List Operand} {tys : Array TypeId} {fn : Func}
    (ho : o.op = .call { callee := .value cx, args := args.toArray, argTypes := tys }) (hcx : T.opd 0 st cx = some (.fn f [])) (hf : P.funcs[f]? = some fn) (hb : fn.body.isNone = false)
    (hn : (fn.name == "runtime.NumGoroutine") = false) {ts ts' : List TS} (hx : opds st args = some ts) {sz3 : Nat} {ds3 : List D} {t : TS} {x : Value} (hc : Fun2 P f ⟨false, [.sl sz2 ds2]⟩ ts' (RP2 [.sl sz3 ds3] t))
    (hk : st.root k1 = some rt) (hq : rt.row[q0]? = some (.own (.sl sz ds))) (he : ds[i0]? = some e) (hj : e.row[j]? = some (.sl sz2 ds2))
    (hs : GiveNs k1 q0 i0 j ts ts') (hp : freeS t = some x) (hst : st.nest k1 q0 i0 j (.sl sz3 ds3) = some st1)
    (hpt : st1.put o.dst t = st') (hqq : TL P w0 g0 ops rest st' Q) : TL P w0 g0 ops (o :: rest) st Q := fun a w g hR Q' hQ => wpList_step fun K hK => by
  rw [if_pos (yes_of hg hR)]
  have h1 := hR.opds hx
  have h2 := hs.get
  have hO := hR.nestAt hk hq he hj
  have hcall := hc w (g.handN w.heap.size k1 q0 i0 j) (args.map a.eval).toArray 999999 (by decide) (hR.handedN hO) (by simp [h1.1, h2.1]) (fun i t' u hi hu => by
    obtain ⟨t, h3, h4⟩ := h2.2 i t' hi
    exact hR.giveN h4 (h1.2 i t u h3 (by simpa using hu)))
  unfold Oper.wp
  rw [run_enter hR ho hcx hf hb hn w]
  refine hcall.mono fun e w' ⟨v, row', r, g', he', ⟨hr1, hr2⟩, hG⟩ => ?_
  subst he'
  subst hr1
  have h5 := hG.val
  rw [hr2] at h5
  have h6 := (freeS_inv hp).1 h5
  subst h6
  obtain ⟨g2, hR2⟩ := hR.backN hk hq he hj hG hst
  exact hK _ _ (hqq _ _ _ (hpt ▸ hR2.put ((freeS_inv hp).2 rfl) o.dst) Q' hQ)
end
end Go.Proofs.YtdlpmcjpbcbbjaaDoor.T
