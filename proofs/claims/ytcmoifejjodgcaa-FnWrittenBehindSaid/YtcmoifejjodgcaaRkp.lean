
import Derived.Test.YtcmoifejjodgcaaRdp
namespace Go.Proofs.Ytcmoifejjodgcaa.T
open Go
set_option linter.unusedVariables false
set_option linter.unusedSimpArgs false
structure Lv where
 row : List D
 q : Nat
 sz : Nat
 ds : List D
 i : Nat
 one : Bool
def wrapD (one : Bool) (r : List D) : D := if one then r.headD .hole else .st r
def rebuild : List Lv → List D → List D
 | [], er => er
 | l :: ls, er => l.row.set l.q (.sl l.sz (l.ds.set l.i (wrapD l.one (rebuild ls er))))
def notSt : D → Bool
 | .st _ => false
 | _ => true
def okOne (one : Bool) (r : List D) : Prop := one = true → ∃ x, r = [x] ∧ notSt x = true
def WfZ : List Lv → List D → Prop
 | [], _ => True
 | l :: ls, er => l.q < l.row.length ∧ l.i < l.ds.length ∧ okOne l.one (rebuild ls er) ∧ WfZ ls er
theorem row_of_notSt {x : D} (h : notSt x = true) : x.row = [x] := by cases x <;> first | rfl | cases h
theorem wrap_row {one : Bool} {r : List D} (h : okOne one r) : (wrapD one r).row = r := by
 unfold wrapD
 cases one with
 | false => rfl
 | true =>
  obtain ⟨x, rfl, hx⟩ := h rfl
  exact row_of_notSt hx
theorem wrap_reRow {one : Bool} {r r' : List D} (h : okOne one r) (h' : okOne one r') : (wrapD one r).reRow r' = wrapD one r' := by
 unfold wrapD
 cases one with
 | false => rfl
 | true =>
  obtain ⟨x, rfl, hx⟩ := h rfl
  obtain ⟨y, rfl, hy⟩ := h' rfl
  cases x <;> first | rfl | cases hx
def pathZ (ls : List Lv) : List (Nat × Nat) := ls.map fun l => (l.q, l.i)
theorem setAt_rebuild {j : Nat} {d : D} : ∀ {ls : List Lv} {er : List D}, WfZ ls er → WfZ ls (er.set j d) → j < er.length → setAt (rebuild ls er) (pathZ ls) j d = some (rebuild ls (er.set j d))
 | [], er, _, _, hj => by simp [rebuild, pathZ, setAt, hj]
 | l :: ls, er, h, h', hj => by
  obtain ⟨h1, h2, h3, h4⟩ := h
  obtain ⟨_, _, h3', h4'⟩ := h'
  have ih := setAt_rebuild h4 h4' hj
  have e1 : (l.row.set l.q (.sl l.sz (l.ds.set l.i (wrapD l.one (rebuild ls er)))))[l.q]? = some (.sl l.sz (l.ds.set l.i (wrapD l.one (rebuild ls er)))) := by simp [h1]
  have e2 : (l.ds.set l.i (wrapD l.one (rebuild ls er)))[l.i]? = some (wrapD l.one (rebuild ls er)) := by simp [h2]
  show setAt _ ((l.q, l.i) :: pathZ ls) j d = _
  simp only [setAt, rebuild, e1, e2, wrap_row h3, ih, Option.map_some, List.set_set, wrap_reRow h3 h3']
def rebuildW : List Lv → List D → (List D → Prop) → Prop
 | [], er, k => k er
 | l :: ls, er, k => match l with
  | ⟨row, q, sz, ds, i, one⟩ => rebuildW ls er fun r => (match one with
   | true => (match r with
    | [] => False
    | x :: _ => setW row q (.sl sz (ds.set i x)) k)
   | false => setW row q (.sl sz (ds.set i (.st r))) k)
theorem rebuildW_of : ∀ {ls : List Lv} {er : List D} {k : List D → Prop}, rebuildW ls er k → k (rebuild ls er)
 | [], er, k, h => h
 | l :: ls, er, k, h => by
  obtain ⟨row, q, sz, ds, i, one⟩ := l
  have h1 := rebuildW_of (ls := ls) h
  cases one with
  | true =>
   simp only [rebuild, wrapD, if_true]
   simp only at h1
   split at h1
   ·exact h1.elim
   ·rename_i x l hr
    rw [hr]
    exact (setW_of h1).2
  | false =>
   simp only [rebuild, wrapD]
   exact (setW_of h1).2
def zipS (q i : Nat) (row : List D) (f : List D → (List Lv → List D → Prop) → Prop) (k : List Lv → List D → Prop) : Prop := nthW row q fun c => match c with
 | .sl sz ds => IxN ds i fun e => (match e with
  | .st er => forceDs er fun er => f er fun ls er' => k (⟨row, q, sz, ds, i, false⟩ :: ls) er'
  | .v x => f [.v x] fun ls er' => k (⟨row, q, sz, ds, i, true⟩ :: ls) er'
  | .sl s l => f [.sl s l] fun ls er' => k (⟨row, q, sz, ds, i, true⟩ :: ls) er'
  | .hole => False)
 | _ => False
def zipW (row : List D) (p : List (Nat × Nat)) (k : List Lv → List D → Prop) : Prop :=
 @List.rec (Nat × Nat) (fun _ => List D → (List Lv → List D → Prop) → Prop) (fun row k => k [] row) (fun qi _ ih row k => match qi with
  | (q, i) => zipS q i row (fun r k => ih r k) k) p row k
theorem zipW_cons {row : List D} {q i : Nat} {p : List (Nat × Nat)} {k : List Lv → List D → Prop} (h : zipW row ((q, i) :: p) k) : zipS q i row (fun r k => zipW r p k) k := h
def ZipOk (row : List D) (p : List (Nat × Nat)) (ls : List Lv) (er : List D) : Prop := rebuild ls er = row ∧ pathZ ls = p ∧ WfZ ls er
theorem zip_cons {row : List D} {q i sz : Nat} {p : List (Nat × Nat)} {ds : List D} {e : D} {ls : List Lv} {er : List D} {one : Bool} (h1 : row[q]? = some (.sl sz ds)) (h2 : ds[i]? = some e) (hw : wrapD one e.row = e) (ho : okOne one e.row) (h : ZipOk e.row p ls er) :
  ZipOk row ((q, i) :: p) (⟨row, q, sz, ds, i, one⟩ :: ls) er := by
 obtain ⟨e1, e2, e3⟩ := h
 obtain ⟨hq, hq2⟩ := List.getElem?_eq_some_iff.1 h1
 obtain ⟨hi, hi2⟩ := List.getElem?_eq_some_iff.1 h2
 refine ⟨?_, by simp only [pathZ, List.map_cons] at e2 ⊢; rw [e2], hq, hi, by rw [e1]; exact ho, e3⟩
 simp only [rebuild, e1, hw]
 have s1 : ds.set i e = ds := by rw [← hi2]; exact List.set_getElem_self _
 rw [s1, ← hq2]
 exact List.set_getElem_self _
theorem zipW_of : ∀ {p : List (Nat × Nat)} {row : List D} {k : List Lv → List D → Prop}, zipW row p k → ∃ ls er, ZipOk row p ls er ∧ k ls er
 | [], row, k, h => ⟨[], row, ⟨rfl, rfl, trivial⟩, h⟩
 | (q, i) :: p, row, k, h => by
  have h := zipW_cons h
  unfold zipS at h
  obtain ⟨c, h1, h2⟩ := nthW_of h
  split at h2
  ·obtain ⟨e, h3, h4⟩ := IxN_of h2
   split at h4
   ·obtain ⟨ls, er', h5, h6⟩ := zipW_of (p := p) (forceDs_iff.1 h4)
    exact ⟨_, _, zip_cons h1 h3 rfl (fun e => by cases e) h5, h6⟩
   ·obtain ⟨ls, er', h5, h6⟩ := zipW_of (p := p) h4
    exact ⟨_, _, zip_cons h1 h3 rfl (fun _ => ⟨_, rfl, rfl⟩) h5, h6⟩
   ·obtain ⟨ls, er', h5, h6⟩ := zipW_of (p := p) h4
    exact ⟨_, _, zip_cons h1 h3 rfl (fun _ => ⟨_, rfl, rfl⟩) h5, h6⟩
   ·exact h4.elim
  ·exact h2.elim
theorem wf_set {j : Nat} {d : D} (hd : notSt d = true) : ∀ {ls : List Lv} {er : List D}, WfZ ls er → WfZ ls (er.set j d)
 | [], er, _ => trivial
 | l :: ls, er, h => by
  obtain ⟨h1, h2, h3, h4⟩ := h
  refine ⟨h1, h2, fun ho => ?_, wf_set hd h4⟩
  obtain ⟨x, hx, hn⟩ := h3 ho
  cases ls with
  | nil =>
   simp only [rebuild] at hx ⊢
   subst hx
   cases j with
   | zero => exact ⟨d, rfl, hd⟩
   | succ j => exact ⟨x, rfl, hn⟩
  | cons l2 ls =>
   simp only [rebuild] at hx ⊢
   have hl : l2.row.length = 1 := by have := congrArg List.length hx; simpa using this
   match hr : l2.row, hl with
   | [y], _ =>
    have hq : l2.q = 0 := by have := h4.1; rw [hr] at this; simpa using this
    rw [hq]
    exact ⟨_, rfl, rfl⟩
def zputW (b q1 i sz : Nat) (one : Bool) (ds : List D) (p : List (Nat × Nat)) (ls : List Lv) (j : Nat) (d : D) (s : Option (Nat × Nat)) (er : List D) (e : List En) (rs : Rs) (K : List D → Kn) : Prop :=
 rootW rs b fun m row => forceCs (row.map (C.kill (hitR b ((q1, i) :: p) j))) fun row => setW er j d fun er' => rebuildW ls er' fun r => (match one with
  | true => (match r with | [] => False | x :: _ => setW row q1 (.own (.sl sz (ds.set i x))) fun row => normW b rs (wroteR rs b ((q1, i) :: p) j m row s) fun rs => K er' (.app (killH b ((q1, i) :: p) j) :: e) rs)
  | false => setW row q1 (.own (.sl sz (ds.set i (.st r)))) fun row => normW b rs (wroteR rs b ((q1, i) :: p) j m row s) fun rs => K er' (.app (killH b ((q1, i) :: p) j) :: e) rs)
structure SelfW (p k : Prop) : Prop where
 h : p
 c : k
def zcellW (b q1 i sz : Nat) (one : Bool) (ds : List D) (p : List (Nat × Nat)) (ls : List Lv) (j : Nat) (c : C) (er : List D) (e : List En) (rs : Rs) (K : List D → Kn) : Prop := match c with
 | .ro d => (match d with
  | .v x => zputW b q1 i sz one ds p ls j (.v x) none er e rs K
  | _ => False)
 | .ref s => (match s with
  | ⟨sk, sp, sq⟩ => (match sp with
   | [] => BR (Nat.beq sk b) False (cellW rs sk [] sq fun _ c => match c with
    | .own d => (match d with
     | .v x => zputW b q1 i sz one ds p ls j (.v x) (some (sk, sq)) er e rs K
     | .sl s l => zputW b q1 i sz one ds p ls j (.sl s l) (some (sk, sq)) er e rs K
     | _ => False)
    | _ => False)
   | x :: sp => nthW er j fun _ => SelfW (sk = b ∧ x :: sp = (q1, i) :: p ∧ sq = j) (K er e rs)))
 | _ => False
def zstoreS (b q1 i sz : Nat) (one : Bool) (ds : List D) (p : List (Nat × Nat)) (ls : List Lv) (f : List C → Nat → List D → List En → Rs → Kn → Prop) (cs : List C) (j : Nat) (er : List D) (e : List En) (rs : Rs) (K : Kn) : Prop := match cs with
 | [] => K e rs
 | c :: cs => zcellW b q1 i sz one ds p ls j c er e rs fun er e rs => forceCs (cs.map (C.kill (hitR b ((q1, i) :: p) j))) fun cs => f cs (j + 1) er e rs K
def zstoreW (b q1 i sz : Nat) (one : Bool) (ds : List D) (p : List (Nat × Nat)) (ls : List Lv) (n : Nat) : List C → Nat → List D → List En → Rs → Kn → Prop :=
 @Nat.rec (fun _ => List C → Nat → List D → List En → Rs → Kn → Prop) (fun cs _ _ e rs K => noneW cs (K e rs)) (fun _ ih cs j er e rs K => zstoreS b q1 i sz one ds p ls ih cs j er e rs K) n
def ZSt (n b q1 i sz : Nat) (one : Bool) (ds : List D) (ls : List Lv) (er : List D) (e : List En) (rs : Rs) : Prop :=
 ∃ m row dsj, (stOf n e rs).root b = some ⟨m, row⟩ ∧ row[q1]? = some (.own (.sl sz dsj)) ∧ dsj[i]? = some (wrapD one (rebuild ls er)) ∧ (∀ x, dsj.set i x = ds.set i x) ∧ i < ds.length ∧ okOne one (rebuild ls er) ∧ WfZ ls er
theorem kill_own {pr : Pl → Bool} {row : List C} {q : Nat} {d : D} (h : row[q]? = some (.own d)) : (row.map (C.kill pr))[q]? = some (.own d) := by rw [List.getElem?_map, h]; rfl
theorem ok_set {one : Bool} {ls : List Lv} {er : List D} {j : Nat} {d : D} (hd : notSt d = true) (ho : okOne one (rebuild ls er)) (hw : WfZ ls er) : okOne one (rebuild ls (er.set j d)) := by
 have h := wf_set (j := j) hd (ls := ⟨[.hole], 0, 0, [.hole], 0, one⟩ :: ls) (er := er) ⟨by simp, by simp, ho, hw⟩
 exact h.2.2.1
theorem ZSt.cellAt {n b q1 i sz j : Nat} {one : Bool} {ds er : List D} {p : List (Nat × Nat)} {ls : List Lv} {e : List En} {rs : Rs} (hp : pathZ ls = p) (hj : j < er.length)
  (hZ : ZSt n b q1 i sz one ds ls er e rs) : ∃ c0, (stOf n e rs).cellAt ⟨b, (q1, i) :: p, j⟩ = some c0 := by
 obtain ⟨m, row, dsj, z1, z2, z3, z4, z5, z6, z7⟩ := hZ
 have hra : ∀ {ls : List Lv} {er : List D}, WfZ ls er → rowAt (rebuild ls er) (pathZ ls) = some er := fun {ls} => by
  induction ls with
  | nil => intro er _; rfl
  | cons l ls ih =>
   intro er hw
   obtain ⟨w1, w2, w3, w4⟩ := hw
   have e1 : (l.row.set l.q (.sl l.sz (l.ds.set l.i (wrapD l.one (rebuild ls er)))))[l.q]? = some (.sl l.sz (l.ds.set l.i (wrapD l.one (rebuild ls er)))) := by simp [w1]
   have e2 : (l.ds.set l.i (wrapD l.one (rebuild ls er)))[l.i]? = some (wrapD l.one (rebuild ls er)) := by simp [w2]
   show rowAt _ ((l.q, l.i) :: pathZ ls) = _
   simp only [rowAt, rebuild, e1, e2, wrap_row w3]
   exact ih w4
 refine ⟨.own er[j], ?_⟩
 simp only [St.cellAt, z1, z2, z3, wrap_row z6, ← hp, hra z7, List.getElem?_eq_getElem hj]
theorem zputW_of {n b q1 i sz j : Nat} {one : Bool} {ds er : List D} {p : List (Nat × Nat)} {ls : List Lv} {d : D} {s : Option (Nat × Nat)} {e : List En} {rs : Rs} {K : List D → Kn} (hp : pathZ ls = p) (hd : notSt d = true) (hs : ∀ x y, s = some (x, y) → x ≠ b)
  (hZ : ZSt n b q1 i sz one ds ls er e rs) (h : zputW b q1 i sz one ds p ls j d s er e rs K) :
  ∃ m row row' rs', (stOf n e rs).root b = some ⟨m, row⟩ ∧ (∃ c0, (stOf n e rs).cellAt ⟨b, (q1, i) :: p, j⟩ = some c0) ∧ setRow (row.map (C.kill (hitR b ((q1, i) :: p) j))) ((q1, i) :: p) j (.own d) = some row' ∧
   (stOf n e rs).wrote b ((q1, i) :: p) j m row' s = stOf n (.app (killH b ((q1, i) :: p) j) :: e) rs' ∧ K (er.set j d) (.app (killH b ((q1, i) :: p) j) :: e) rs' ∧
   ZSt n b q1 i sz one ds ls (er.set j d) (.app (killH b ((q1, i) :: p) j) :: e) rs' := by
 obtain ⟨m, row, dsj, z1, z2, z3, z4, z5, z6, z7⟩ := hZ
 obtain ⟨m', row0, h1, h2⟩ := rootW_of (n := n) (e := e) h
 have hmr : (⟨m, row⟩ : Rt) = ⟨m', row0⟩ := Option.some.inj (z1.symm.trans h1)
 cases hmr
 obtain ⟨hj, h3⟩ := setW_of (forceCs_iff.1 h2)
 have h4 := rebuildW_of h3
 have hok' := ok_set (j := j) hd z6 z7
 have hsr : setRow (row.map (C.kill (hitR b ((q1, i) :: p) j))) ((q1, i) :: p) j (.own d) = some ((row.map (C.kill (hitR b ((q1, i) :: p) j))).set q1 (.own (.sl sz (ds.set i (wrapD one (rebuild ls (er.set j d))))))) := by
  simp only [setRow, kill_own z2, z3, wrap_row z6, ← hp, setAt_rebuild z7 (wf_set hd z7) hj, Option.map_some, wrap_reRow z6 hok', z4]
 have hq1 : q1 < row.length := (List.getElem?_eq_some_iff.1 z2).1
 have hcell : ∃ c0, (stOf n e rs).cellAt ⟨b, (q1, i) :: p, j⟩ = some c0 := ZSt.cellAt hp hj ⟨m, row, dsj, z1, z2, z3, z4, z5, z6, z7⟩
 have fin : ∀ {row' : List C}, (normW b rs (wroteR rs b ((q1, i) :: p) j m row' s) fun rs => K (er.set j d) (.app (killH b ((q1, i) :: p) j) :: e) rs) → K (er.set j d) (.app (killH b ((q1, i) :: p) j) :: e) (wroteR rs b ((q1, i) :: p) j m row' s) := fun hn => normW_of hn
 have hK : ∃ rs', (stOf n e rs).wrote b ((q1, i) :: p) j m ((row.map (C.kill (hitR b ((q1, i) :: p) j))).set q1 (.own (.sl sz (ds.set i (wrapD one (rebuild ls (er.set j d))))))) s = stOf n (.app (killH b ((q1, i) :: p) j) :: e) rs' ∧ K (er.set j d) (.app (killH b ((q1, i) :: p) j) :: e) rs' := by
  cases one with
  | true =>
   obtain ⟨x, hx, _⟩ := hok' rfl
   simp only [hx] at h4
   obtain ⟨_, h5⟩ := setW_of h4
   refine ⟨_, wrote_eq, ?_⟩
   have := normW_of h5
   rw [hx]
   exact this
  | false =>
   simp only at h4
   obtain ⟨_, h5⟩ := setW_of h4
   exact ⟨_, wrote_eq, normW_of h5⟩
 obtain ⟨rs', hw, hk⟩ := hK
 have hgen : ∀ (row' : List C), ((stOf n e rs).wrote b ((q1, i) :: p) j m row' s).root b = some ⟨m, row'⟩ := by
  intro row'
  clear hw h h2 h3
  have base : (((stOf n e rs).kill (hitR b ((q1, i) :: p) j) (hitP b ((q1, i) :: p) j)).setRoot b ⟨m, row'⟩).root b = some ⟨m, row'⟩ := by simp [St.setRoot, St.root]
  cases s with
  | none => exact base
  | some s =>
   obtain ⟨k1, q1'⟩ := s
   have hne := hs k1 q1' rfl
   simp only [St.wrote]
   split
   ·exact base
   ·simp only [St.setRoot, St.root] at base ⊢
    rw [List.find?_cons_of_neg (by simpa using hne), List.filter_cons, if_pos (by simpa using Ne.symm hne)]
    simp
 refine ⟨m, row, _, rs', z1, hcell, hsr, hw, hk, m, _, _, by rw [← hw]; exact hgen _, by simp [hq1]; rfl, by simp [z5], fun x => by simp, z5, hok', wf_set hd z7⟩
theorem zcellW_of {n b q1 i sz j : Nat} {one : Bool} {ds er : List D} {p : List (Nat × Nat)} {ls : List Lv} {c : C} {e : List En} {rs : Rs} {K : List D → Kn} (hp : pathZ ls = p)
  (hZ : ZSt n b q1 i sz one ds ls er e rs) (h : zcellW b q1 i sz one ds p ls j c er e rs K) :
  ∃ d e' rs', (∃ c0, (stOf n e rs).cellAt ⟨b, (q1, i) :: p, j⟩ = some c0) ∧ (stOf n e rs).store1 ⟨b, (q1, i) :: p, j⟩ c = some (stOf n e' rs') ∧ K (er.set j d) e' rs' ∧ ZSt n b q1 i sz one ds ls (er.set j d) e' rs' := by
 unfold zcellW at h
 split at h
 ·split at h
  ·obtain ⟨m, row, row', rs', h1, h2, h3, h4, h5, h6⟩ := zputW_of hp rfl (fun x y e => by cases e) hZ h
   refine ⟨_, _, rs', h2, ?_, h5, h6⟩
   simp only [St.store1, h1, h3, Option.map_some, h4]
  ·exact h.elim
 ·rename_i s
  obtain ⟨sk, sp, sq⟩ := s
  simp only at h
  split at h
  ·obtain ⟨g1, g2⟩ := BR_no h
   have hne : sk ≠ b := fun e => by subst e; simp at g1
   obtain ⟨_, c', g3, _, g4⟩ := cellW_of (n := n) (e := e) g2
   split at g4
   ·split at g4
    ·obtain ⟨m, row, row', rs', h1, h2, h3, h4, h5, h6⟩ := zputW_of hp rfl (fun x y e => by cases e; exact hne) hZ g4
     refine ⟨_, _, rs', h2, ?_, h5, h6⟩
     simp [St.store1, h1, hne, g3, h3, h4]
    ·obtain ⟨m, row, row', rs', h1, h2, h3, h4, h5, h6⟩ := zputW_of hp rfl (fun x y e => by cases e; exact hne) hZ g4
     refine ⟨_, _, rs', h2, ?_, h5, h6⟩
     simp [St.store1, h1, hne, g3, h3, h4]
    ·exact g4.elim
   ·exact g4.elim
  ·obtain ⟨x0, f1, f2⟩ := nthW_of h
   obtain ⟨⟨rfl, f3, rfl⟩, f4⟩ := f2
   obtain ⟨fl, fe⟩ := List.getElem?_eq_some_iff.1 f1
   obtain ⟨c0, f5⟩ := ZSt.cellAt hp fl hZ
   have f6 : er.set sq x0 = er := by rw [← fe]; exact List.set_getElem_self _
   refine ⟨x0, e, rs, ⟨c0, f5⟩, ?_, by rw [f6]; exact f4, by rw [f6]; exact hZ⟩
   obtain ⟨m, row, dsj, z1, _⟩ := hZ
   rw [f3]
   simp [St.store1, z1]
 ·exact h.elim
theorem zstoreW_of {n b q1 i sz : Nat} {one : Bool} {ds : List D} {p : List (Nat × Nat)} {ls : List Lv} (hp : pathZ ls = p) : ∀ {m : Nat} {cs : List C} {j : Nat} {er : List D} {e : List En} {rs : Rs} {K : Kn}, ZSt n b q1 i sz one ds ls er e rs →
  zstoreW b q1 i sz one ds p ls m cs j er e rs K → ∃ st', St.storeAll b ((q1, i) :: p) cs id j (stOf n e rs) = some st' ∧ Lg n K st'
 | m, [], j, er, e, rs, K, hZ, h => ⟨_, rfl, .mk (by cases m <;> exact h)⟩
 | 0, _ :: _, j, er, e, rs, K, hZ, h => h.elim
 | m + 1, c :: cs, j, er, e, rs, K, hZ, h => by
  have h : zcellW b q1 i sz one ds p ls j c er e rs fun er e rs => forceCs (cs.map (C.kill (hitR b ((q1, i) :: p) j))) fun cs => zstoreW b q1 i sz one ds p ls m cs (j + 1) er e rs K := h
  obtain ⟨d, e', rs', ⟨c0, h1⟩, h2, h3, h4⟩ := zcellW_of hp hZ h
  obtain ⟨st2, h5, h6⟩ := zstoreW_of hp (m := m) (cs := cs.map (C.kill (hitR b ((q1, i) :: p) j))) h4 (forceCs_iff.1 h3)
  refine ⟨st2, ?_, h6⟩
  simp only [St.storeAll, h1, id_eq, h2]
  rw [storeAll_map] at h5
  exact h5
def zatW (b q1 i : Nat) (p : List (Nat × Nat)) (cs : List C) (q : Nat) (e : List En) (rs : Rs) (K : Kn) : Prop := rootW rs b fun _ row => nthW row q1 fun c => match c with
 | .own d => (match d with
  | .sl sz ds => IxN ds i fun el => (match el with
   | .st er => forceDs er fun er => zipW er p fun ls er' => zstoreW b q1 i sz false ds p ls 40 cs q er' e rs K
   | .v x => zipW [.v x] p fun ls er' => zstoreW b q1 i sz true ds p ls 40 cs q er' e rs K
   | .sl s l => zipW [.sl s l] p fun ls er' => zstoreW b q1 i sz true ds p ls 40 cs q er' e rs K
   | .hole => False)
  | _ => False)
 | _ => False
theorem zatW_of {n b q1 i q : Nat} {p : List (Nat × Nat)} {cs : List C} {e : List En} {rs : Rs} {K : Kn} (h : zatW b q1 i p cs q e rs K) : ∃ st', St.storeAll b ((q1, i) :: p) cs id q (stOf n e rs) = some st' ∧ Lg n K st' := by
 obtain ⟨m, row, h1, h2⟩ := rootW_of (n := n) (e := e) h
 obtain ⟨c, h3, h4⟩ := nthW_of h2
 split at h4
 ·split at h4
  ·rename_i sz ds
   obtain ⟨el, h5, h6⟩ := IxN_of h4
   obtain ⟨hi, hi2⟩ := List.getElem?_eq_some_iff.1 h5
   have fin : ∀ {one : Bool}, wrapD one el.row = el → okOne one el.row → (zipW el.row p fun ls er' => zstoreW b q1 i sz one ds p ls 40 cs q er' e rs K) → ∃ st', St.storeAll b ((q1, i) :: p) cs id q (stOf n e rs) = some st' ∧ Lg n K st' := fun hw ho hz => by
    obtain ⟨ls, er, ⟨z1, z2, z3⟩, z4⟩ := zipW_of hz
    exact zstoreW_of z2 ⟨m, row, ds, h1, h3, by rw [z1, hw]; exact h5, fun x => rfl, hi, by rw [z1]; exact ho, z3⟩ z4
   split at h6
   ·exact fin rfl (fun e => by cases e) (forceDs_iff.1 h6)
   ·exact fin rfl (fun _ => ⟨_, rfl, rfl⟩) h6
   ·exact fin rfl (fun _ => ⟨_, rfl, rfl⟩) h6
   ·exact h6.elim
  ·exact h4.elim
 ·exact h4.elim
end Go.Proofs.Ytcmoifejjodgcaa.T

