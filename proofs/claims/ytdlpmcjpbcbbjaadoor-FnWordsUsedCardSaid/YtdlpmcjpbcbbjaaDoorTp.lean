/- The lifted walk, part p: append as an operation. No condition. -/
import Derived.Test.YtdlpmcjpbcbbjaaDoorTo
namespace Go.Proofs.YtdlpmcjpbcbbjaaDoor.T
open Go
set_option linter.unusedVariables false
set_option linter.unusedSimpArgs false

section
variable {P : Program} {w0 : World} {g0 : Gh} {st : St} {a : Act} {w w' : World} {g g' : Gh}
variable {o : Oper} {Q : St → Prop} {x y : Operand} {t t2 e e2 : TypeId}

/-- What is appended, cell by cell. -/
def SrcOk (w : World) (v : Value) (sz m : Nat) (news : List Value) : Prop :=
  news.length = m * sz ∧ ((∃ ad c, v = .slice ad 0 c ∧ m = 0) ∨ ∃ b off c, v = .slice (some ⟨b, off, none⟩) m c ∧ ∀ (j : Nat) u, news[j]? = some u → w.cell? ⟨b, off + j, none⟩ = some u)

theorem SrcOk.len {v : Value} {sz m : Nat} {news : List Value} (h : SrcOk w v sz m news) (w1 : World) : (Builtin.lenOf v).run P w1 = .ok m w1 := by
  rcases h.2 with ⟨_, _, rfl, rfl⟩ | ⟨b, off, c, rfl, _⟩ <;> rfl

theorem SrcOk.first {v : Value} {sz m : Nat} {news : List Value} (h : SrcOk w v sz m news) (w1 : World) (hw : ∀ ad, w1.cell? ad = w.cell? ad) : (Builtin.firstCells sz m v).run P w1 = .ok news.toArray w1 := by
  rcases h.2 with ⟨ad, c, rfl, rfl⟩ | ⟨b, off, c, rfl, hc⟩
  · have : news = [] := List.eq_nil_of_length_eq_zero (by rw [h.1]; simp)
    subst this
    cases ad with
    | none => rfl
    | some a => exact run_firstCells_some (P := P) w1 sz 0 a 0 c [] (by simp) (fun j u hu => by simp at hu)
  · exact run_firstCells_some (P := P) w1 sz m ⟨b, off, none⟩ m c news h.1 (fun j u hu => by rw [Addr.add_lit, hw]; exact hc j u hu)

/-- The cells of an owned list. -/
theorem Ow.src {k : Nat} {p : List (Nat × Nat)} {q sz : Nat} {ds : List D} (h : Ow w g k p q (.sl sz ds)) :
    SrcOk w (g.cv k p q) sz ds.length ((List.range (ds.length * sz)).map fun t => g.cv k (p ++ [(q, t / sz)]) (t % sz)) := by
  cases h with
  | nil _ _ _ hc => exact ⟨by simp, .inl ⟨_, _, hc, rfl⟩⟩
  | sl _ _ _ _ b off n c cs ty hc hn hm hnc hcm ho hb hfit hrow had hcell hel =>
    refine ⟨by simp, .inr ⟨b, off, c, by rw [hc, hn], fun j u hu => ?_⟩⟩
    rw [List.getElem?_map, Option.map_eq_some_iff] at hu
    obtain ⟨t, ht, rfl⟩ := hu
    have hjl : j < ds.length * sz := by
      have := (List.getElem?_eq_some_iff.1 ht).1
      simpa using this
    rw [List.getElem?_range hjl] at ht
    simp only [Option.some.injEq] at ht
    subst ht
    have hsz : 0 < sz := Nat.pos_of_ne_zero (fun e => by subst e; simp at hjl)
    have h1 : j / sz < n := by rw [← hn]; exact Nat.div_lt_of_lt_mul (by rw [Nat.mul_comm]; exact hjl)
    have h2 : j % sz < sz := Nat.mod_lt _ hsz
    have h3 := hcell _ _ h1 h2
    rw [Nat.add_assoc, show j / sz * sz + j % sz = j by rw [Nat.mul_comm]; exact Nat.div_add_mod j sz] at h3
    exact h3

/-- The header of an owned list, as append wants it. -/
theorem Ow.dst {k : Nat} {p : List (Nat × Nat)} {q sz : Nat} {ds : List D} (h : Ow w g k p q (.sl sz ds)) :
    (g.cv k p q = .slice none 0 0 ∧ ds.length = 0 ∧ (none : Option Nat) = none) ∨ ∃ b off c cs e0, g.cv k p q = .slice (some ⟨b, off, none⟩) ds.length c ∧ g.o b = .lies k p q ∧ ds.length ≤ c ∧ c ≤ 9223372036854775807 ∧
      w.heap[b]? = some (.cells cs e0 (0, 0)) ∧ off + c * sz ≤ cs.size := by
  cases h with
  | nil _ _ _ hc => exact .inl ⟨hc, rfl, rfl⟩
  | sl _ _ _ _ b off n c cs ty hc hn hm hnc hcm ho hb hfit hrow had hcell hel => exact .inr ⟨b, off, c, cs, ty, by rw [hc, hn], ho, by rw [hn]; exact hnc, hcm, hb, hfit⟩

theorem mod_at {i j sz : Nat} (hj : j < sz) : (i * sz + j) / sz = i ∧ (i * sz + j) % sz = j := by
  constructor
  · rw [Nat.add_comm, Nat.add_mul_div_right _ _ (by omega), Nat.div_eq_of_lt hj, Nat.zero_add]
  · rw [Nat.add_comm, Nat.add_mul_mod_self_right, Nat.mod_eq_of_lt hj]

theorem in_rows {i j n sz : Nat} (hi : i < n) (hj : j < sz) : i * sz + j < n * sz := by
  have : (i + 1) * sz ≤ n * sz := Nat.mul_le_mul_right _ hi
  rw [Nat.add_mul] at this
  omega

/-- APPEND: what both forms share. -/
theorem Rel.appended (hR : Rel w0 g0 st a w g) {k k1 : Nat} (hkp : k < 1000000) {src : Option Nat} {r1 : Rt} (hk1 : st.root k1 = some r1) (hm1 : r1.mem = false) {sz : Nat} {ds ns : List D} (hrow1 : r1.row = [.own (.sl sz ds)])
    (hsk : ∀ k2, src = some k2 → k2 ≠ k1) {v : Value} {news : List Value} (hsrc : SrcOk w v sz ns.length news) (h1 : ∀ u ∈ news, u.oneCell' = true) (hnrow : ∀ d ∈ ns, d.row.length = sz)
    (hnew : ∀ (i : Nat) d, ns[i]? = some d → ∀ (j : Nat) c, d.row[j]? = some c → NewC w g src i j (news.getD (i * sz + j) undef) c)
    (ht : P.underlying t = some (.slice e)) (ht2 : P.underlying t2 = some (.slice e2)) {i : TypeInfo} {z : Value} {bytes : Nat} (hi : P.info? e = some i) (hz : i.zero = some z) (hsz : i.size = sz) (hby : i.bytes = bytes)
    (hzs : z.cells.size = sz) (hmost : ds.length + ns.length ≤ most) (hbytes : (ds.length + ns.length) * bytes ≤ 140737488355328) (ty : TypeId) :
    ∃ v' w' g', (Builtin.append_ #[t, t2] ty #[g.cv k1 [] 0, v]).run P w = .ok v' w' ∧ v'.oneCell' = true ∧ Rel w0 g0 (st.renew (k :: k1 :: src.toList) k ⟨false, [.own (.sl sz (ds ++ ns))]⟩) a w' g' ∧ g'.cv k [] 0 = v' := by
  have hO : Ow w g k1 [] 0 (.sl sz ds) := hR.rt.cell k1 r1 hk1 0 (.own (.sl sz ds)) (by rw [hrow1]; rfl)
  have hs := hO.src
  have hmax : ds.length + ns.length ≤ 9223372036854775807 := by simp only [most] at hmost; omega
  have main : ∀ oldb, ((g.cv k1 [] 0 = .slice none 0 0 ∧ ds.length = 0 ∧ oldb = none) ∨ ∃ b off c cs e0, g.cv k1 [] 0 = .slice (some ⟨b, off, none⟩) ds.length c ∧ oldb = some b ∧ ds.length ≤ c ∧ c ≤ 9223372036854775807 ∧
      w.heap[b]? = some (.cells cs e0 (0, 0)) ∧ off + c * sz ≤ cs.size ∧
      (∀ j u, ((List.range (ds.length * sz)).map fun t => g.cv k1 ([] ++ [(0, t / sz)]) (t % sz))[j]? = some u → w.cell? ⟨b, off + j, none⟩ = some u)) → (∀ b, oldb = some b → g.o b = .lies k1 [] 0) →
      ∃ v' w' g', (Builtin.append_ #[t, t2] ty #[g.cv k1 [] 0, v]).run P w = .ok v' w' ∧ v'.oneCell' = true ∧ Rel w0 g0 (st.renew (k :: k1 :: src.toList) k ⟨false, [.own (.sl sz (ds ++ ns))]⟩) a w' g' ∧ g'.cv k [] 0 = v' := by
    intro oldb hv hob
    obtain ⟨v', w', hrun, hA⟩ := run_append_T (P := P) (w := w) (ty := ty) ht ht2 hi hz hsz hby hzs (oldb := oldb) (n := ds.length) (m := ns.length) hs.1 hsrc.1 h1 hv hsrc.len hsrc.first hmax hbytes
    obtain ⟨g', hR', hcv⟩ := hR.append (k := k) hkp hk1 hm1 hrow1 hsk hA hmost hob hs.1 (fun i j hi hj => by
      rw [List.getElem?_map, List.getElem?_range (in_rows hi hj)]
      simp [mod_at hj]) hsrc.1 hnrow hnew (.inr trivial)
    refine ⟨v', w', g', hrun, ?_, hR', hcv⟩
    rcases hA.res with ⟨rfl, _⟩ | ⟨b, off, c, cs, e0, rfl, _⟩ <;> rfl
  rcases hO.dst with ⟨h2, h3, _⟩ | ⟨b, off, c, cs, e0, h2, h3, h4, h5, h6, h7⟩
  · exact main none (.inl ⟨h2, h3, rfl⟩) (fun b hb => by cases hb)
  · refine main (some b) (.inr ⟨b, off, c, cs, e0, h2, rfl, h4, h5, h6, h7, fun j u hu => ?_⟩) (fun b' hb => by simp only [Option.some.injEq] at hb; subst hb; exact h3)
    rcases hs.2 with ⟨_, _, _, h80⟩ | ⟨b', off', c', h8, h9⟩
    · rw [h80, Nat.zero_mul] at hu; simp at hu
    · rw [h2] at h8
      simp only [Value.slice.injEq, Option.some.injEq, Addr.mk.injEq] at h8
      obtain ⟨⟨rfl, rfl, _⟩, _, _⟩ := h8
      exact h9 j u hu

theorem cell_one {k : Nat} {p : List (Nat × Nat)} {q : Nat} {d : D} (h : Ow w g k p q d) (hd : d ≠ .hole) : (g.cv k p q).oneCell' = true := by
  cases h with
  | v _ _ x hx hc => rw [hc]; cases x <;> first | rfl | cases hx
  | hole => exact absurd rfl hd
  | nil _ _ _ hc => rw [hc]; rfl
  | sl _ _ _ _ b off n c cs ty hc => rw [hc]; rfl

/-- append(x, y...), y's elements the call's own, made for it: they move. -/
theorem OpT.append (ho : o.op = .call { callee := .builtin .append, args := #[x, y], argTypes := #[t, t2] }) {k : Nat} (hd : o.dst = some k) {k1 k2 : Nat} (hx : T.opd 0 st x = some (.one (.c (.ref ⟨k1, [], 0⟩))))
    (hy : T.opd 0 st y = some (.one (.c (.ref ⟨k2, [], 0⟩)))) {sz : Nat} {ds ns : List D} (h1 : st.root k1 = some ⟨false, [.own (.sl sz ds)]⟩) (h2 : st.root k2 = some ⟨false, [.own (.sl sz ns)]⟩) (hne : k2 ≠ k1)
    (hnh : ∀ d ∈ ns, ∀ c ∈ d.row, c ≠ .hole) (ht : P.underlying t = some (.slice e)) (ht2 : P.underlying t2 = some (.slice e2)) {i : TypeInfo} {z : Value} {bytes : Nat} (hi : P.info? e = some i) (hz : i.zero = some z)
    (hsz : i.size = sz) (hby : i.bytes = bytes) (hzs : z.cells.size = sz) (hlen : ds.length + ns.length ≤ most) (hbytes : (ds.length + ns.length) * bytes ≤ 140737488355328)
    (hq : Q ((st.renew [k, k1, k2] k ⟨false, [.own (.sl sz (ds ++ ns))]⟩).put (some k) (.one (.c (.ref ⟨k, [], 0⟩))))) (hkp : k < 1000000 := by decide) : OpT P w0 g0 o st Q := fun a w g hR K Q' hK => by
  have hO2 : Ow w g k2 [] 0 (.sl sz ns) := hR.rt.cell k2 _ h2 0 (.own (.sl sz ns)) rfl
  have hs2 := hO2.src
  have hrow2 : ∀ d ∈ ns, d.row.length = sz := by
    cases hO2 with
    | nil => intro d hd; cases hd
    | sl _ _ _ _ b off n c cs ty hc hn hm hnc hcm ho hb hfit hrow had hcell hel => exact hrow
  have hnewc : ∀ (i : Nat) d, ns[i]? = some d → ∀ (j : Nat) c, d.row[j]? = some c →
      NewC w g (some k2) i j (((List.range (ns.length * sz)).map fun t => g.cv k2 ([] ++ [(0, t / sz)]) (t % sz)).getD (i * sz + j) undef) c := fun i d hd j c hj => by
    have hjl : j < sz := by rw [← hrow2 d (List.mem_of_getElem? hd)]; exact (List.getElem?_eq_some_iff.1 hj).1
    have hil : i < ns.length := (List.getElem?_eq_some_iff.1 hd).1
    refine ⟨?_, (hO2.row hd).own j c hj⟩
    rw [List.getD, List.getElem?_map, List.getElem?_range (in_rows hil hjl)]
    simp [mod_at hjl]
  obtain ⟨v', w', g', hrun, hone, hR', hcv⟩ := hR.appended (k := k) hkp (src := some k2) h1 rfl rfl (fun k' hk' => by simp only [Option.some.injEq] at hk'; subst hk'; exact hne) hs2 (fun u hu => by
    obtain ⟨t', ht', rfl⟩ := List.mem_map.1 hu
    have htl : t' < ns.length * sz := by simpa using ht'
    have hszp : 0 < sz := Nat.pos_of_ne_zero (fun e => by subst e; simp at htl)
    have hil : t' / sz < ns.length := Nat.div_lt_of_lt_mul (by rw [Nat.mul_comm]; exact htl)
    have hd' := List.getElem?_eq_getElem hil
    have hjl : t' % sz < (ns[t' / sz]).row.length := by rw [hrow2 _ (List.mem_of_getElem? hd')]; exact Nat.mod_lt _ hszp
    have hj' := List.getElem?_eq_getElem hjl
    exact cell_one ((hO2.row hd').own _ _ hj') (hnh _ (List.mem_of_getElem? hd') _ (List.mem_of_getElem? hj'))) hrow2 hnewc ht ht2 hi hz hsz hby hzs hlen hbytes o.type
  have hvx : a.eval x = g.cv k1 [] 0 := by
    have := hR.opd hx
    generalize a.eval x = u at this
    cases this with
    | one _ _ h => cases h with | c _ _ h => exact h.1
  have hvy : a.eval y = g.cv k2 [] 0 := by
    have := hR.opd hy
    generalize a.eval y = u at this
    cases this with
    | one _ _ h => cases h with | c _ _ h => exact h.1
  unfold Oper.wp
  have hrun' : (execOp a.eval o).run P w = .ok (.value v') w' := by
    simp [execOp, ho, resolve, invoke, builtin, hvx, hvy, hrun]
  rw [hrun']
  refine hK _ _ _ g' hq ?_
  rw [hd]
  exact hR'.put (ref_mk hcv.symm hone) (some k)

/-- The plain values of a list's cells. -/
def plainVal : D → Value
  | .v x => x
  | _ => undef
def plainRow (d : D) : List Value := d.row.map plainVal
def isPlain (d : D) : Prop := ∀ c ∈ d.row, ∃ x, c = .v x

theorem flat_plain {sz : Nat} : ∀ {ns : List D}, (∀ d ∈ ns, d.row.length = sz) → (ns.flatMap plainRow).length = ns.length * sz ∧ ∀ (i : Nat) d, ns[i]? = some d → ∀ (j : Nat) c, d.row[j]? = some c → (ns.flatMap plainRow)[i * sz + j]? = some (plainVal c)
  | [], _ => ⟨by simp, fun i d hd => by simp at hd⟩
  | d0 :: ns, h => by
    have ih := flat_plain (ns := ns) (fun d hd => h d (List.mem_cons_of_mem _ hd))
    have h0 : (plainRow d0).length = sz := by simp [plainRow, h d0 List.mem_cons_self]
    refine ⟨by rw [List.flatMap_cons, List.length_append, ih.1, h0, List.length_cons, Nat.add_mul]; omega, fun i d hd j c hj => ?_⟩
    cases i with
    | zero =>
      simp only [List.getElem?_cons_zero, Option.some.injEq] at hd
      subst hd
      have hjl := (List.getElem?_eq_some_iff.1 hj).1
      rw [List.flatMap_cons, Nat.zero_mul, Nat.zero_add, List.getElem?_append_left (by rw [h0, ← h d0 List.mem_cons_self]; exact hjl)]
      simp [plainRow, hj]
    | succ i =>
      have := ih.2 i d (by simpa using hd) j c hj
      rw [List.flatMap_cons, List.getElem?_append_right (by rw [h0, Nat.add_mul]; omega), h0, ← this]
      congr 1
      rw [Nat.add_mul]
      omega

theorem ro_list_cells {sz : Nat} {ds : List D} {v : Value} (h : Ro w g.o (.sl sz ds) v) (hp : ∀ d ∈ ds, isPlain d) : SrcOk w v sz ds.length (ds.flatMap plainRow) ∧ (∀ d ∈ ds, d.row.length = sz) ∧
    ∀ d ∈ ds, ∀ c ∈ d.row, plain (plainVal c) = true := by
  cases h with
  | nil _ ad c => exact ⟨⟨by simp, .inl ⟨ad, c, rfl, rfl⟩⟩, (fun d hd => by cases hd), (fun d hd => by cases hd)⟩
  | sl _ _ b off n c us hn hm hro hrow hcell hel =>
    have hf := flat_plain hrow
    refine ⟨⟨hf.1, .inr ⟨b, off, c, by rw [hn], fun j u hu => ?_⟩⟩, hrow, fun d hd c' hc' => ?_⟩
    · have hjl : j < ds.length * sz := by rw [← hf.1]; exact (List.getElem?_eq_some_iff.1 hu).1
      have hszp : 0 < sz := Nat.pos_of_ne_zero (fun e => by subst e; simp at hjl)
      have hil : j / sz < ds.length := Nat.div_lt_of_lt_mul (by rw [Nat.mul_comm]; exact hjl)
      have hd' := List.getElem?_eq_getElem hil
      have hrl : j % sz < (ds[j / sz]).row.length := by rw [hrow _ (List.mem_of_getElem? hd')]; exact Nat.mod_lt _ hszp
      have hj' := List.getElem?_eq_getElem hrl
      have h1 := hf.2 _ _ hd' _ _ hj'
      have h2 := hel _ _ hd' _ _ hj'
      have hdm : j / sz * sz + j % sz = j := by rw [Nat.mul_comm]; exact Nat.div_add_mod j sz
      rw [hdm] at h1 h2
      obtain ⟨x, hx⟩ := hp _ (List.mem_of_getElem? hd') _ (List.mem_of_getElem? hj')
      rw [hx] at h1 h2
      rw [hu] at h1
      simp only [plainVal, Option.some.injEq] at h1
      subst h1
      rw [hcell j (by rw [← hn]; exact hjl)]
      generalize us j = y at h2
      cases h2 with
      | v _ _ => rfl
    · obtain ⟨i, hi⟩ := List.getElem?_of_mem hd
      obtain ⟨j, hj⟩ := List.getElem?_of_mem hc'
      have h2 := hel i d hi j c' hj
      obtain ⟨x, hx⟩ := hp d hd c' hc'
      subst hx
      cases h2 with
      | v _ h => exact h

theorem ow_list_cells {k : Nat} {p : List (Nat × Nat)} {q sz : Nat} {ds : List D} (h : Ow w g k p q (.sl sz ds)) (hp : ∀ d ∈ ds, isPlain d) : SrcOk w (g.cv k p q) sz ds.length (ds.flatMap plainRow) ∧ (∀ d ∈ ds, d.row.length = sz) ∧
    ∀ d ∈ ds, ∀ c ∈ d.row, plain (plainVal c) = true := by
  have hs := h.src
  have hO := h
  cases h with
  | nil _ _ _ hc => exact ⟨⟨by simp, .inl ⟨_, _, hc, rfl⟩⟩, (fun d hd => by cases hd), (fun d hd => by cases hd)⟩
  | sl _ _ _ _ b off n c cs ty hc hn hm hnc hcm ho hb hfit hrow had hcell hel =>
    have hf := flat_plain hrow
    refine ⟨⟨hf.1, .inr ⟨b, off, c, by rw [hc, hn], fun j u hu => ?_⟩⟩, hrow, fun d hd c' hc' => ?_⟩
    · have hjl : j < ds.length * sz := by rw [← hf.1]; exact (List.getElem?_eq_some_iff.1 hu).1
      have hszp : 0 < sz := Nat.pos_of_ne_zero (fun e => by subst e; simp at hjl)
      have hil : j / sz < ds.length := Nat.div_lt_of_lt_mul (by rw [Nat.mul_comm]; exact hjl)
      have hd' := List.getElem?_eq_getElem hil
      have hrl : j % sz < (ds[j / sz]).row.length := by rw [hrow _ (List.mem_of_getElem? hd')]; exact Nat.mod_lt _ hszp
      have hj' := List.getElem?_eq_getElem hrl
      have h1 := hf.2 _ _ hd' _ _ hj'
      have h2 := hel _ _ hd' _ _ hj'
      have hdm : j / sz * sz + j % sz = j := by rw [Nat.mul_comm]; exact Nat.div_add_mod j sz
      rw [hdm] at h1
      obtain ⟨x, hx⟩ := hp _ (List.mem_of_getElem? hd') _ (List.mem_of_getElem? hj')
      rw [hx] at h1 h2
      rw [hu] at h1
      simp only [plainVal, Option.some.injEq] at h1
      subst h1
      have h3 := hcell _ _ (by rw [← hn]; exact hil) (Nat.mod_lt j hszp)
      rw [Nat.add_assoc, hdm] at h3
      rw [h3]
      cases h2 with
      | v _ _ _ _ he => rw [he]
    · obtain ⟨i, hi⟩ := List.getElem?_of_mem hd
      obtain ⟨j, hj⟩ := List.getElem?_of_mem hc'
      have h2 := hel i d hi j c' hj
      obtain ⟨x, hx⟩ := hp d hd c' hc'
      subst hx
      cases h2 with
      | v _ _ _ h _ => exact h

/-- append(x, y...), y's elements plain: they are copied. -/
theorem OpT.appendP (ho : o.op = .call { callee := .builtin .append, args := #[x, y], argTypes := #[t, t2] }) {k : Nat} (hd : o.dst = some k) {k1 : Nat} {tv : TS} (hx : T.opd 0 st x = some (.one (.c (.ref ⟨k1, [], 0⟩))))
    {sz : Nat} (hy : T.opd sz st y = some tv) {ds ns : List D} (h1 : st.root k1 = some ⟨false, [.own (.sl sz ds)]⟩) (h2 : listOf st tv = some (sz, ns)) (hpl : ∀ d ∈ ns, isPlain d)
    (ht : P.underlying t = some (.slice e)) (ht2 : P.underlying t2 = some (.slice e2)) {i : TypeInfo} {z : Value} {bytes : Nat} (hi : P.info? e = some i) (hz : i.zero = some z)
    (hsz : i.size = sz) (hby : i.bytes = bytes) (hzs : z.cells.size = sz) (hlen : ds.length + ns.length ≤ most) (hbytes : (ds.length + ns.length) * bytes ≤ 140737488355328)
    (hq : Q ((st.renew [k, k1] k ⟨false, [.own (.sl sz (ds ++ ns))]⟩).put (some k) (.one (.c (.ref ⟨k, [], 0⟩))))) (hkp : k < 1000000 := by decide) : OpT P w0 g0 o st Q := fun a w g hR K Q' hK => by
  have hsrc : SrcOk w (a.eval y) sz ns.length (ns.flatMap plainRow) ∧ (∀ d ∈ ns, d.row.length = sz) ∧ ∀ d ∈ ns, ∀ c ∈ d.row, plain (plainVal c) = true := by
    have hv := hR.opd hy
    generalize a.eval y = v at hv
    unfold listOf at h2
    split at h2
    · simp only [Option.some.injEq, Prod.mk.injEq] at h2
      obtain ⟨rfl, rfl⟩ := h2
      cases hv with
      | one _ _ h => cases h with | c _ _ h => exact ro_list_cells h hpl
    · rename_i pl
      split at h2
      · rename_i sz' ds' hc
        simp only [Option.some.injEq, Prod.mk.injEq] at h2
        obtain ⟨rfl, rfl⟩ := h2
        cases hv with
        | one _ _ h =>
          cases h with
          | c _ _ h =>
            have h3 : v = g.cv pl.k pl.p pl.q := h.1
            rw [h3]
            exact ow_list_cells ((hR.cellAt hc).1 _ rfl) hpl
      · cases h2
    · cases h2
  obtain ⟨hs1, hs2, hs3⟩ := hsrc
  have hf := flat_plain hs2
  obtain ⟨v', w', g', hrun, hone, hR', hcv⟩ := hR.appended (k := k) hkp (src := none) h1 rfl rfl (fun k' hk' => by cases hk') hs1 (fun u hu => by
    obtain ⟨d, hd, hu⟩ := List.mem_flatMap.1 hu
    obtain ⟨c, hc, rfl⟩ := List.mem_map.1 hu
    have := hs3 d hd c hc
    cases hpc : plainVal c <;> first | rfl | (rw [hpc] at this; cases this)) hs2 (fun i d hd j c hj => by
    obtain ⟨x, hx⟩ := hpl d (List.mem_of_getElem? hd) c (List.mem_of_getElem? hj)
    have h3 := hf.2 i d hd j c hj
    have h4 := hs3 d (List.mem_of_getElem? hd) c (List.mem_of_getElem? hj)
    rw [List.getD, h3]
    subst hx
    exact ⟨rfl, h4⟩) ht ht2 hi hz hsz hby hzs hlen hbytes o.type
  have hvx : a.eval x = g.cv k1 [] 0 := by
    have := hR.opd hx
    generalize a.eval x = u at this
    cases this with
    | one _ _ h => cases h with | c _ _ h => exact h.1
  unfold Oper.wp
  have hrun' : (execOp a.eval o).run P w = .ok (.value v') w' := by
    simp [execOp, ho, resolve, invoke, builtin, hvx, hrun]
  rw [hrun']
  refine hK _ _ _ g' hq ?_
  rw [hd]
  exact hR'.put (ref_mk hcv.symm hone) (some k)

/-- A nil list that will be appended to: a root of its own. -/
theorem OpT.moveNil (ho : o.op = .move (.const (.slice none 0 0)) ∨ o.op = .assign (.const (.slice none 0 0))) {k : Nat} (hd : o.dst = some k) (sz : Nat)
    (hq : Q ((st.renew [k] k ⟨false, [.own (.sl sz [])]⟩).put (some k) (.one (.c (.ref ⟨k, [], 0⟩))))) (hkp : k < 1000000 := by decide) : OpT P w0 g0 o st Q := fun a w g hR K Q' hK => by
  have hK1 : pinK ≠ k := by simp only [pinK]; omega
  let g' : Gh := { g with cv := fun k' => if k' = k then fun _ _ => .slice none 0 0 else g.cv k' }
  have hS : Same w g w g' (fun k' => ([k] : List Nat).contains k' = false) := ⟨fun b hb => ⟨hb, rfl⟩, fun _ _ b _ => ⟨rfl, rfl⟩, fun _ _ => rfl, fun k' hk' => if_neg (fun e => by subst e; simp at hk')⟩
  have hR' : Rel w0 g0 (st.renew [k] k ⟨false, [.own (.sl sz [])]⟩) a w g' := by
    refine hR.renew (by simp) hS ⟨hR.ks.os, hR.ks.tape, hR.ks.output, hR.ks.size, hR.ks.block, hR.ks.fresh, hR.ks.old, ⟨fun q => (by simp only [g', if_neg hK1]; exact hR.ks.pin.1 q), hR.ks.pin.2⟩, hR.ks.nobox⟩ (fun q c hq => ?_) rfl
    cases q with
    | succ q => simp at hq
    | zero =>
      simp only [List.getElem?_cons_zero, Option.some.injEq] at hq
      subst hq
      exact Ow.nil [] 0 sz (by simp [g'])
  have hrun : (execOp a.eval o).run P w = .ok (.value (.slice none 0 0)) w := by
    rcases ho with ho | ho <;> simp [execOp, ho, Act.eval]
  unfold Oper.wp
  rw [hrun]
  refine hK _ _ _ g' hq ?_
  rw [hd]
  exact hR'.put (ref_mk (by simp [g']) rfl) (some k)

end
end Go.Proofs.YtdlpmcjpbcbbjaaDoor.T
