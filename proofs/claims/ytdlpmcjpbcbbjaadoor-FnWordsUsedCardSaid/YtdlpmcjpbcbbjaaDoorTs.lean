/- The lifted walk, part s: another name for a root; operations with the state behind them told. No condition. -/
import Derived.Test.YtdlpmcjpbcbbjaaDoorTr
namespace Go.Proofs.YtdlpmcjpbcbbjaaDoor.T
open Go
set_option linter.unusedVariables false
set_option linter.unusedSimpArgs false

/-- Another name for root k: k2 (whatever had that name is forgotten). -/
def nameC (k k2 : Nat) : C → C
  | .ref pl => if pl.k = k then .ref ⟨k2, pl.p, pl.q⟩ else if pl.k = k2 then .dead else .ref pl
  | c => c
def nameV (k k2 : Nat) : TV → TV
  | .c x => .c (nameC k k2 x)
  | .agg cs => .agg (cs.map (nameC k k2))
  | .ptr pl => if pl.k = k then .ptr ⟨k2, pl.p, pl.q⟩ else if pl.k = k2 then .dead else .ptr pl
  | .tab pls => if pls.any (fun pl => pl.k == k || pl.k == k2) then .dead else .tab pls
  | .ptab pls => if pls.any (fun pl => pl.k == k || pl.k == k2) then .dead else .ptab pls
  | t => t
def nameS (k k2 : Nat) : TS → TS
  | .one t => .one (nameV k k2 t)
  | .tup ts => .tup (ts.map (nameV k k2))
  | .fn f ts => .fn f (ts.map (nameV k k2))
def nameR (k k2 : Nat) : List (Nat × Rt) → List (Nat × Rt)
  | [] => []
  | (j, r) :: l => if j = k2 ∧ j ≠ k then nameR k k2 l else (if j = k then k2 else j, ⟨r.mem, r.row.map (nameC k k2)⟩) :: nameR k k2 l
def St.name (st : St) (k k2 : Nat) : St := ⟨st.tmps.map (nameS k k2), nameR k k2 st.roots⟩

def Gh.name (g : Gh) (k k2 : Nat) : Gh where
  o b := match g.o b with
    | .box j => if j = k then .box k2 else if j = k2 then .ro else .box j
    | .lies j p q => if j = k then .lies k2 p q else if j = k2 then .ro else .lies j p q
    | t => t
  ad j := if j = k2 then g.ad k else g.ad j
  cv j := if j = k2 then g.cv k else g.cv j

section
variable {P : Program} {w0 : World} {g0 : Gh} {st : St} {a : Act} {w : World} {g : Gh} {k k2 : Nat}

theorem root_name (st : St) (k k2 j : Nat) : (st.name k k2).root j =
    if j = k2 then (st.root k).map (fun r => ⟨r.mem, r.row.map (nameC k k2)⟩) else if j = k then none else (st.root j).map (fun r => ⟨r.mem, r.row.map (nameC k k2)⟩) := by
  obtain ⟨tm, roots⟩ := st
  simp only [St.root, St.name]
  induction roots with
  | nil => simp [nameR]
  | cons x l ih =>
    obtain ⟨i, r⟩ := x
    simp only [nameR]
    by_cases h1 : i = k2 ∧ i ≠ k
    · rw [if_pos h1, ih]
      have hik : (i == k) = false := by simpa using h1.2
      by_cases hj : j = k2
      · simp [hj, List.find?_cons, hik]
      · by_cases hjk : j = k
        · simp [hjk, h1.2, hj]
        · have : (i == j) = false := by
            have : i ≠ j := fun e => hj (by rw [← e]; exact h1.1)
            simpa using this
          simp [hj, hjk, List.find?_cons, this]
    · rw [if_neg h1, List.find?_cons, List.find?_cons]
      by_cases hik : i = k
      · subst hik
        by_cases hj : j = k2
        · subst hj
          simp
        · by_cases hji : j = i
          · subst hji
            have : (k2 == j) = false := by
              have : k2 ≠ j := fun e => hj e.symm
              simpa using this
            simp only [if_true, this, ih, if_neg hj]
          · have h2 : (k2 == j) = false := by
              have : k2 ≠ j := fun e => hj e.symm
              simpa using this
            have h3 : (i == j) = false := by
              have : i ≠ j := fun e => hji e.symm
              simpa using this
            simp only [if_true, h2, ih, if_neg hj, if_neg hji, List.find?_cons, h3]
      · have hik2 : i ≠ k2 := fun e => h1 ⟨e, hik⟩
        simp only [if_neg hik]
        have hik' : (i == k) = false := by simpa using hik
        by_cases hj : j = k2
        · subst hj
          have h2 : (i == j) = false := by simpa using hik2
          simp only [h2, ih, if_true, hik']
        · by_cases hjk : j = k
          · subst hjk
            simp only [hik', ih, if_neg hj, if_true]
          · by_cases hij : i = j
            · subst hij
              simp [hj, hjk]
            · have h2 : (i == j) = false := by simpa using hij
              simp only [h2, ih, if_neg hj, if_neg hjk, List.find?_cons]

theorem Gh.name_ro {b : Nat} (h : g.o b = .ro) : (g.name k k2).o b = .ro := by simp [Gh.name, h]

theorem Ro.name {d : D} {v : Value} (h : Ro w g.o d v) : Ro w (g.name k k2).o d v := h.mono fun b hb => ⟨Gh.name_ro hb, rfl⟩

theorem Ow.name {j : Nat} {p : List (Nat × Nat)} {q : Nat} {d : D} (h : Ow w g j p q d) (hj : j = k ∨ j ≠ k2) : Ow w (g.name k k2) (if j = k then k2 else j) p q d := by
  refine Ow.move h ⟨?_, fun i r q' => ?_, fun i r => ?_, fun b hb => ⟨?_, rfl⟩, fun b i r q' hb => ⟨?_, rfl⟩⟩
  all_goals
    by_cases hjk : j = k
    · subst hjk; simp [Gh.name, *]
    · have hj2 : j ≠ k2 := hj.resolve_left hjk
      simp [Gh.name, hjk, hj2, *]

theorem RepV.name {c : C} {u : Value} (h : RepV w g c u) : RepV w (g.name k k2) (nameC k k2 c) u := by
  cases c with
  | ro d => exact Ro.name h
  | own d => exact h
  | dead => trivial
  | ref pl =>
    simp only [nameC]
    split
    · rename_i e
      refine ⟨?_, h.2⟩
      simp only [Gh.name, if_pos]
      rw [← e]
      exact h.1
    · split
      · trivial
      · rename_i e e2
        refine ⟨?_, h.2⟩
        simp only [Gh.name, if_neg e2]
        exact h.1

theorem RepT.name {t : TV} {u : Value} (h : RepT w g t u) : RepT w (g.name k k2) (nameV k k2 t) u := by
  cases h with
  | c c u hv => exact .c _ u hv.name
  | agg cs us hs hv =>
    refine .agg _ us (by simpa using hs) fun j c u h1 h2 => ?_
    rw [List.getElem?_map, Option.map_eq_some_iff] at h1
    obtain ⟨c', h1, rfl⟩ := h1
    exact (hv j c' u h1 h2).name
  | ptr pl =>
    simp only [nameV]
    split
    · rename_i e
      have := RepT.ptr (w := w) (g := g.name k k2) ⟨k2, pl.p, pl.q⟩
      have he : (g.name k k2).ad k2 = g.ad pl.k := by rw [e]; simp [Gh.name]
      rw [he] at this
      exact this
    · split
      · exact .dead _
      · rename_i e e2
        have := RepT.ptr (w := w) (g := g.name k k2) pl
        simp only [Gh.name, if_neg e2] at this
        exact this
  | cptr ds b off us ho hcell => exact .cptr ds b off us (Gh.name_ro ho) fun j d hj => ⟨(hcell j d hj).1, (hcell j d hj).2.name⟩
  | tab pls b off hro hcell =>
    simp only [nameV]
    cases hp : pls.any (fun pl => pl.k == k || pl.k == k2) with
    | true => exact .dead _
    | false =>
      rw [List.any_eq_false] at hp
      refine .tab pls b off (Gh.name_ro hro) fun j pl hj => ?_
      have h1 := hp pl (List.mem_of_getElem? hj)
      have h2 : pl.k ≠ k2 := fun e => by simp [e] at h1
      rw [hcell j pl hj]
      simp only [Gh.name, if_neg h2]
  | ptab pls b off hro hcell =>
    simp only [nameV]
    cases hp : pls.any (fun pl => pl.k == k || pl.k == k2) with
    | true => exact .dead _
    | false =>
      rw [List.any_eq_false] at hp
      refine .ptab pls b off (Gh.name_ro hro) fun j pl hj => ?_
      have h1 := hp pl (List.mem_of_getElem? hj)
      have h2 : pl.k ≠ k2 := fun e => by simp [e] at h1
      rw [hcell j pl hj]
      simp only [Gh.name, if_neg h2]
  | dead u => exact .dead u

theorem RepS.name {t : TS} {u : Value} (h : RepS w g t u) : RepS w (g.name k k2) (nameS k k2 t) u := by
  have hl : ∀ (ts : List TV) (us : Array Value), (∀ (j : Nat) t u, ts[j]? = some t → us[j]? = some u → RepT w g t u) → ∀ (j : Nat) t u, (ts.map (nameV k k2))[j]? = some t → us[j]? = some u → RepT w (g.name k k2) t u := fun ts us hh j t u h1 h2 => by
    rw [List.getElem?_map, Option.map_eq_some_iff] at h1
    obtain ⟨c', h1, rfl⟩ := h1
    exact (hh j c' u h1 h2).name
  cases h with
  | one t u h => exact .one _ u h.name
  | tup ts us hs h => exact .tup _ us (by simpa using hs) (hl ts us h)
  | fn f ts us hs h => exact .fn f _ us (by simpa using hs) (hl ts us h)

theorem Rel.name (hR : Rel w0 g0 st a w g) (k k2 : Nat) (hkp : k2 < 1000000) : Rel w0 g0 (st.name k k2) a w (g.name k k2) := by
  have hroot : ∀ j r, (st.name k k2).root j = some r → ∃ j0 r0, st.root j0 = some r0 ∧ (j0 = k ∨ j0 ≠ k2) ∧ j = (if j0 = k then k2 else j0) ∧ r = ⟨r0.mem, r0.row.map (nameC k k2)⟩ := fun j r h => by
    rw [root_name] at h
    split at h
    · rename_i e
      rw [Option.map_eq_some_iff] at h
      obtain ⟨r0, h0, rfl⟩ := h
      exact ⟨k, r0, h0, .inl rfl, by simp [e], rfl⟩
    · rename_i e
      split at h
      · cases h
      · rename_i e2
        rw [Option.map_eq_some_iff] at h
        obtain ⟨r0, h0, rfl⟩ := h
        exact ⟨j, r0, h0, .inr e, by simp [e2], rfl⟩
  have hcv : ∀ j0, (j0 = k ∨ j0 ≠ k2) → (g.name k k2).cv (if j0 = k then k2 else j0) = g.cv j0 ∧ (g.name k k2).ad (if j0 = k then k2 else j0) = g.ad j0 := fun j0 h => by
    by_cases e : j0 = k
    · subst e; simp [Gh.name]
    · simp [Gh.name, e, h.resolve_left e]
  refine ⟨fun i tv hi => ?_, by simpa [St.name] using hR.sz, hR.df, ⟨fun j r hj q c hq => ?_, fun j r hj hm => ?_⟩, ?_⟩
  · simp only [St.name, List.getElem?_map, Option.map_eq_some_iff] at hi
    obtain ⟨t, hi, rfl⟩ := hi
    exact (hR.tm i t hi).name
  · obtain ⟨j0, r0, h0, hjk, rfl, rfl⟩ := hroot j r hj
    simp only [List.getElem?_map, Option.map_eq_some_iff] at hq
    obtain ⟨c0, hq, rfl⟩ := hq
    have h1 := hR.rt.cell j0 r0 h0 q c0 hq
    have hv := (hcv j0 hjk).1
    cases c0 with
    | ro d =>
      have h2 : Ro w g.o d (g.cv j0 [] q) := h1
      show Ro w (g.name k k2).o d _
      rw [hv]
      exact h2.name
    | own d => exact Ow.name h1 hjk
    | dead => trivial
    | ref pl =>
      have h2 : RepV w g (.ref pl) (g.cv j0 [] q) := h1
      have h3 := h2.name (k := k) (k2 := k2)
      rw [← hv] at h3
      have hex : ∀ c, RepV w (g.name k k2) c ((g.name k k2).cv (if j0 = k then k2 else j0) [] q) → (∃ pl, c = .ref pl) ∨ c = .dead → RepC w (g.name k k2) (if j0 = k then k2 else j0) q c := fun c h4 h5 => by
        rcases h5 with ⟨pl, rfl⟩ | rfl
        · exact h4
        · trivial
      refine hex _ h3 ?_
      simp only [nameC]
      split
      · exact .inl ⟨_, rfl⟩
      · split
        · exact .inr rfl
        · exact .inl ⟨_, rfl⟩
  · obtain ⟨j0, r0, h0, hjk, rfl, rfl⟩ := hroot j r hj
    obtain ⟨h1, h2, h3⟩ := hR.rt.mem j0 r0 h0 hm
    rw [(hcv j0 hjk).1, (hcv j0 hjk).2]
    refine ⟨?_, h2, fun q hq => h3 q (by simpa using hq)⟩
    simp only [Gh.name, h1]
    by_cases e : j0 = k
    · simp [e]
    · simp [e, hjk.resolve_left e]
  · have hK := hR.ks
    have hout : ∀ b, (g.name k k2).o b = .outer ↔ g.o b = .outer := fun b => by
      simp only [Gh.name]
      cases hb : g.o b with
      | box j => simp only; by_cases e : j = k <;> by_cases e2 : j = k2 <;> simp only [if_pos, if_neg, e, e2, not_false_eq_true] <;> by_cases e3 : k2 = k <;> simp [e3]
      | lies j p q => simp only; by_cases e : j = k <;> by_cases e2 : j = k2 <;> simp only [if_pos, if_neg, e, e2, not_false_eq_true] <;> by_cases e3 : k2 = k <;> simp [e3]
      | _ => simp
    refine ⟨hK.os, hK.tape, hK.output, hK.size, fun b hb hx => ?_, fun b hb => (hout b).2 (hK.fresh b hb), fun b hb hx => hK.old b hb ((hout b).1 hx), ⟨fun q => ?_, ?_⟩, fun b hb => ?_⟩
    obtain ⟨h1, h2⟩ := hK.block b hb hx
    refine ⟨h1, ?_⟩
    rcases hx with hx | hx <;> simp only [Gh.name, h2, hx]
    · have hK1 : pinK ≠ k2 := by simp only [pinK]; omega
      simp only [Gh.name, if_neg hK1]
      exact hK.pin.1 q
    · have hB1 : pinB ≠ k2 := by simp only [pinB]; omega
      simp only [Gh.name, if_neg hB1]
      exact hK.pin.2
    · have hK1 : pinK ≠ k2 := by simp only [pinK]; omega
      simp only [Gh.name] at hb
      split at hb
      · rename_i j hj
        split at hb
        · simp only [Tag.box.injEq] at hb
          exact hK1 hb.symm
        · split at hb
          · cases hb
          · simp only [Tag.box.injEq] at hb
            subst hb
            exact hK.nobox b hj
      · split at hb
        · cases hb
        · split at hb <;> cases hb
      · exact hK.nobox b hb

theorem TC.name {c : Code} {st' : St} {Q : Exit → St → Prop} (k k2 : Nat) (h : st.name k k2 = st') (hc : TC P w0 g0 c st' Q) (hkp : k2 < 1000000 := by decide) : TC P w0 g0 c st Q := fun a w g hR => hc a w _ (by rw [← h]; exact hR.name k k2 hkp)

/-- What is known behind a walk: with fewer slots, other names. -/
def Can (st st' : St) : Prop := ∀ {w0 : World} {g0 : Gh} {a : Act} {w : World} {g : Gh}, Rel w0 g0 st a w g → ∃ g', Rel w0 g0 st' a w g'
theorem Can.refl (st : St) : Can st st := fun hR => ⟨_, hR⟩
theorem Can.name {st' st2 : St} (k k2 : Nat) (h : st.name k k2 = st') (hc : Can st' st2) (hkp : k2 < 1000000 := by decide) : Can st st2 := fun hR => hc (h ▸ hR.name k k2 hkp)
theorem Can.less {st' st2 : St} (h : Less st st') (hc : Can st' st2) : Can st st2 := fun hR => hc (hR.less h)
theorem TC.can {c : Code} {st' : St} {Q : Exit → St → Prop} (h : Can st st') (hc : TC P w0 g0 c st' Q) : TC P w0 g0 c st Q := fun a w g hR => by
  obtain ⟨g', hR'⟩ := h hR
  exact hc a w g' hR'

/-- Fewer slots, slot by slot. -/
inductive LessT : List TS → List TS → Prop
  | nil : LessT [] []
  | keep {t : TS} {l l' : List TS} (h : LessT l l') : LessT (t :: l) (t :: l')
  | drop {t : TS} {l l' : List TS} (h : LessT l l') : LessT (t :: l) (.one .dead :: l')
theorem LessT.eq {t t' : TS} {l l' : List TS} (e : t = t') (h : LessT l l') : LessT (t :: l) (t' :: l') := e ▸ .keep h
theorem LessT.spec {l l' : List TS} (h : LessT l l') : l'.length = l.length ∧ ∀ (i : Nat) t, l'[i]? = some t → t = .one .dead ∨ l[i]? = some t := by
  induction h with
  | nil => exact ⟨rfl, fun i t h => .inr h⟩
  | keep h ih => exact ⟨by simp [ih.1], fun i t hi => by cases i with | zero => exact .inr hi | succ i => exact ih.2 i t (by simpa using hi)⟩
  | drop h ih => exact ⟨by simp [ih.1], fun i t hi => by cases i with | zero => exact .inl (by simpa using hi.symm) | succ i => exact ih.2 i t (by simpa using hi)⟩
/-- Fewer roots: those that are named, in the order given. -/
theorem Less.of {l l' : List TS} {rs rs' : List (Nat × Rt)} (h : LessT l l') (hr : ∀ x ∈ rs', (St.mk l rs).root x.1 = some x.2) : Less ⟨l, rs⟩ ⟨l', rs'⟩ := by
  refine ⟨h.spec, fun k r hk => ?_⟩
  simp only [St.root, Option.map_eq_some_iff] at hk
  obtain ⟨x, hx, rfl⟩ := hk
  have h1 := List.find?_some hx
  simp only [beq_iff_eq] at h1
  have h2 := hr x (List.mem_of_find?_eq_some hx)
  rw [h1] at h2
  exact h2

theorem resV {x y : Value} (h : x = y) : (⟨[], fun _ => V x⟩ : Res) = ⟨[], fun _ => V y⟩ := by rw [h]

/-- One operation, with the state behind it. -/
theorem TL.valE {ops : Array Oper} {o : Oper} {rest : List Oper} {st' : St} {Q : St → Prop} {t : TS} (hg : o.guard = none) (h : Val P w0 g0 o st t) (hp : st.put o.dst t = st') (hq : TL P w0 g0 ops rest st' Q) :
    TL P w0 g0 ops (o :: rest) st Q := TL.op hg (OpT.val h (hp ▸ hq))
theorem TL.guardE {ops : Array Oper} {o : Oper} {rest : List Oper} {st' : St} {Q : St → Prop} {t : TS} {j : Nat} {want b : Bool} (hg : o.guard = some (j, want)) (hb : guardOf ops st j = some (V (.bool b)))
    (he : b = want) (h : Val P w0 g0 o st t) (hp : st.put o.dst t = st') (hq : TL P w0 g0 ops rest st' Q) : TL P w0 g0 ops (o :: rest) st Q := TL.guard_yes hg hb he (OpT.val h (hp ▸ hq))
theorem TL.guardN {ops : Array Oper} {o : Oper} {rest : List Oper} {st' : St} {Q : St → Prop} {j : Nat} {want b : Bool} (hg : o.guard = some (j, want)) (hb : guardOf ops st j = some (V (.bool b)))
    (he : b = !want) (hp : st.put o.dst (.one .dead) = st') (hq : TL P w0 g0 ops rest st' Q) : TL P w0 g0 ops (o :: rest) st Q := TL.guard_no hg hb he (hp ▸ hq)
theorem TQ.valE {ops : Array Oper} {o : Oper} {rest : List Oper} {st' : St} {Q : St → Prop} {t : TS} (hg : o.guard = none) (h : Val P w0 g0 o st t) (hp : st.put o.dst t = st') (hq : TQ P w0 g0 ops rest st' Q) :
    TQ P w0 g0 ops (o :: rest) st Q := TQ.val hg h (hp ▸ hq)
end
end Go.Proofs.YtdlpmcjpbcbbjaaDoor.T
