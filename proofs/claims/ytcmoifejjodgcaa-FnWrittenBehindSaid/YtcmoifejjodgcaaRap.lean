
import Derived.Test.YtcmoifejjodgcaaTzpp
import Derived.Test.YtcmoifejjodgcaaT3p
namespace Go.Proofs.Ytcmoifejjodgcaa.T
open Go
set_option linter.unusedVariables false
set_option linter.unusedSimpArgs false
inductive En where
 | set (i : Nat) (t : TS)
 | app (f : TS → TS)
abbrev Rs := List (Nat × Rt)
abbrev Kn := List En → Rs → Prop
abbrev BR (b : Bool) (t f : Prop) : Prop := @Bool.rec (fun _ => Prop) f t b
theorem BR_iff {b : Bool} {A B : Prop} : BR b A B ↔ (b = true ∧ A) ∨ (b = false ∧ B) := by cases b <;> simp [BR]
theorem BR_yes {b : Bool} {A : Prop} (h : BR b A False) : b = true ∧ A := by cases b <;> simp_all [BR]
theorem spl {b : Bool} {A B : Prop} (h1 : b = true → A) (h2 : b = false → B) : BR b A B := by cases b; exact h2 rfl; exact h1 rfl
def look : List En → Nat → TS
 | [], _ => .one .dead
 | .set j t :: l, i => if Nat.beq j i then t else look l i
 | .app f :: l, i => f (look l i)
def stOf (n : Nat) (e : List En) (rs : Rs) : St := ⟨(List.range n).map (look e), rs⟩
theorem stOf_get {n i : Nat} {e : List En} {rs : Rs} (h : i < n) : (stOf n e rs).tmps[i]? = some (look e i) := by simp [stOf, h]
theorem stOf_put {n i : Nat} {e : List En} {rs : Rs} {t : TS} : (stOf n e rs).put (some i) t = stOf n (.set i t :: e) rs := by
 simp only [St.put, stOf, St.mk.injEq, and_true]
 apply List.ext_getElem?
 intro j
 rw [List.getElem?_set, List.getElem?_map, List.getElem?_map]
 by_cases hj : j < n
 ·by_cases h : i = j
  ·subst h
   simp [hj, look]
  ·have hb : Nat.beq i j = false := Bool.eq_false_iff.2 fun e => h (Nat.eq_of_beq_eq_true e)
   simp [hj, look, h, hb]
 ·by_cases h : i = j
  ·subst h
   simp [hj]
  ·simp [hj, h]
theorem stOf_app {n : Nat} {e : List En} {rs rs' : Rs} {f : TS → TS} : (⟨(stOf n e rs).tmps.map f, rs'⟩ : St) = stOf n (.app f :: e) rs' := by
 simp only [stOf, List.map_map, St.mk.injEq, and_true]
 rfl
def forceD (d : D) (k : D → Prop) : Prop := match d with | .v x => k (.v x) | .sl s l => k (.sl s l) | .st l => k (.st l) | .hole => k .hole
theorem forceD_iff {d : D} {k : D → Prop} : forceD d k ↔ k d := by cases d <;> rfl
def forceDs : List D → (List D → Prop) → Prop
 | [], k => k []
 | d :: l, k => forceD d fun d => forceDs l fun l => k (d :: l)
theorem forceDs_iff : ∀ {l : List D} {k : List D → Prop}, forceDs l k ↔ k l
 | [], k => Iff.rfl
 | d :: l, k => by simp only [forceDs, forceD_iff, forceDs_iff]
def forceC (c : C) (k : C → Prop) : Prop := match c with
 | .ro d => forceD d fun d => k (.ro d)
 | .own d => forceD d fun d => k (.own d)
 | .ref pl => match pl with | ⟨a, p, q⟩ => k (.ref ⟨a, p, q⟩)
 | .dead => k .dead
theorem forceC_iff {c : C} {k : C → Prop} : forceC c k ↔ k c := by cases c <;> simp [forceC, forceD_iff]
def forceCs : List C → (List C → Prop) → Prop
 | [], k => k []
 | c :: l, k => forceC c fun c => forceCs l fun l => k (c :: l)
theorem forceCs_iff : ∀ {l : List C} {k : List C → Prop}, forceCs l k ↔ k l
 | [], k => Iff.rfl
 | c :: l, k => by simp only [forceCs, forceC_iff, forceCs_iff]
def forceTV (t : TV) (k : TV → Prop) : Prop := match t with
 | .c c => forceC c fun c => k (.c c)
 | .agg cs => forceCs cs fun cs => k (.agg cs)
 | .ptr pl => match pl with | ⟨a, p, q⟩ => k (.ptr ⟨a, p, q⟩)
 | .cptr ds => k (.cptr ds)
 | .tab p => k (.tab p)
 | .ptab p => k (.ptab p)
 | .cut pl sz lo hi => match pl with | ⟨a, p, q⟩ => k (.cut ⟨a, p, q⟩ sz lo hi)
 | .dead => k .dead
theorem forceTV_iff {t : TV} {k : TV → Prop} : forceTV t k ↔ k t := by cases t <;> simp [forceTV, forceC_iff, forceCs_iff]
def forceTVs : List TV → (List TV → Prop) → Prop
 | [], k => k []
 | c :: l, k => forceTV c fun c => forceTVs l fun l => k (c :: l)
theorem forceTVs_iff : ∀ {l : List TV} {k : List TV → Prop}, forceTVs l k ↔ k l
 | [], k => Iff.rfl
 | c :: l, k => by simp only [forceTVs, forceTV_iff, forceTVs_iff]
def forceS (t : TS) (k : TS → Prop) : Prop := match t with
 | .one t => forceTV t fun t => k (.one t)
 | .tup ts => forceTVs ts fun ts => k (.tup ts)
 | .fn f ts => k (.fn f ts)
theorem forceS_iff {t : TS} {k : TS → Prop} : forceS t k ↔ k t := by cases t <;> simp [forceS, forceTV_iff, forceTVs_iff]
def oneOf (a : Nat) : List Nat → (Nat → Prop) → Prop
 | [], _ => False
 | c :: l, k => BR (Nat.beq a c) (k c) (oneOf a l k)
theorem oneOf_of {a : Nat} {k : Nat → Prop} : ∀ {l : List Nat}, oneOf a l k → k a
 | [], h => h.elim
 | c :: l, h => by
  rcases BR_iff.1 h with ⟨h1, h2⟩ | ⟨_, h2⟩
  ·rw [Nat.eq_of_beq_eq_true h1]; exact h2
  ·exact oneOf_of h2
def small : List Nat := [1, 2, 15, 4, 9, 3, 6, 0, 5, 7, 8, 10, 11, 12, 13, 14, 16, 17, 18, 19, 20, 21, 22, 23, 24, 25, 26, 27, 28, 29, 30]
def forceRs (ks : List Nat) : Rs → (Rs → Prop) → Prop
 | [], k => k []
 | (a, ⟨m, row⟩) :: l, k => oneOf a ks fun a => BR m (forceCs row fun row => forceRs ks l fun l => k ((a, ⟨true, row⟩) :: l)) (forceCs row fun row => forceRs ks l fun l => k ((a, ⟨false, row⟩) :: l))
theorem forceRs_of {ks : List Nat} : ∀ {l : Rs} {k : Rs → Prop}, forceRs ks l k → k l
 | [], k, h => h
 | (a, ⟨m, row⟩) :: l, k, h => by
  have h1 := oneOf_of h
  rcases BR_iff.1 h1 with ⟨rfl, h2⟩ | ⟨rfl, h2⟩
  ·exact forceRs_of (l := l) (forceCs_iff.1 h2)
  ·exact forceRs_of (l := l) (forceCs_iff.1 h2)
def keysOf : Rs → (List Nat → Prop) → Prop
 | [], k => k []
 | (a, _) :: l, k => keysOf l fun ks => k (a :: ks)
theorem keysOf_of : ∀ {l : Rs} {k : List Nat → Prop}, keysOf l k → ∃ ks, k ks
 | [], k, h => ⟨_, h⟩
 | (a, _) :: l, k, h => (keysOf_of (l := l) h).elim fun ks h => ⟨_, h⟩
def normW (nk : Nat) (rs rs' : Rs) (k : Rs → Prop) : Prop := keysOf rs fun ks => forceRs (nk :: ks) rs' k
theorem normW_of {nk : Nat} {rs rs' : Rs} {k : Rs → Prop} (h : normW nk rs rs' k) : k rs' := (keysOf_of h).elim fun _ h => forceRs_of h
def lookW : List En → Nat → (TS → Prop) → Prop
 | [], _, k => k (.one .dead)
 | .set j t :: l, i, k => BR (Nat.beq j i) (k t) (lookW l i k)
 | .app f :: l, i, k => lookW l i fun t => k (f t)
theorem lookW_of : ∀ {e : List En} {i : Nat} {k : TS → Prop}, lookW e i k → k (look e i)
 | [], i, k, h => h
 | .set j t :: l, i, k, h => by
  rcases BR_iff.1 h with ⟨h1, h2⟩ | ⟨h1, h2⟩
  ·simp only [look, h1, if_true]; exact h2
  ·simp only [look, h1, Bool.false_eq_true, if_false]; exact lookW_of h2
 | .app f :: l, i, k, h => lookW_of (k := fun t => k (f t)) h
def getW (n : Nat) (e : List En) (i : Nat) (k : TS → Prop) : Prop := BR (Nat.blt i n) (lookW e i fun t => forceS t k) False
theorem getW_of {n i : Nat} {e : List En} {rs : Rs} {k : TS → Prop} (h : getW n e i k) : ∃ t, (stOf n e rs).tmps[i]? = some t ∧ k t := by
 obtain ⟨h1, h2⟩ := BR_yes h
 exact ⟨_, stOf_get (Nat.le_of_ble_eq_true h1), forceS_iff.1 (lookW_of h2)⟩
def opdW (n : Nat) (e : List En) (z : Nat) (x : Operand) (k : TS → Prop) : Prop := match x with
 | .tmp i => getW n e i k
 | .const v => match v with
  | .bool b => k (V (.bool b))
  | .int kd m => k (V (.int kd m))
  | .string s => k (V (.string s))
  | .slice none 0 0 => k (.one (.c (.ro (.sl z []))))
  | _ => False
 | .func f => k (.fn f [])
 | .global _ => False
theorem opdW_of {n z : Nat} {e : List En} {rs : Rs} {x : Operand} {k : TS → Prop} (h : opdW n e z x k) : ∃ t, T.opd z (stOf n e rs) x = some t ∧ k t := by
 unfold opdW at h
 split at h
 ·exact getW_of h
 ·split at h
  ·exact ⟨_, rfl, h⟩
  ·exact ⟨_, rfl, h⟩
  ·exact ⟨_, rfl, h⟩
  ·exact ⟨_, rfl, h⟩
  ·exact h.elim
 ·exact ⟨_, rfl, h⟩
 ·exact h.elim
def opdsW (n : Nat) (e : List En) : List Operand → (List TS → Prop) → Prop
 | [], k => k []
 | x :: l, k => opdW n e 0 x fun t => opdsW n e l fun ts => k (t :: ts)
theorem opdsW_of {n : Nat} {e : List En} {rs : Rs} : ∀ {l : List Operand} {k : List TS → Prop}, opdsW n e l k → ∃ ts, opds (stOf n e rs) l = some ts ∧ k ts
 | [], k, h => ⟨[], rfl, h⟩
 | x :: l, k, h => by
  obtain ⟨t, h1, h2⟩ := opdW_of (rs := rs) h
  obtain ⟨ts, h3, h4⟩ := opdsW_of (rs := rs) h2
  exact ⟨t :: ts, by simp [opds, h1, h3], h4⟩
def nthW {α : Type} : List α → Nat → (α → Prop) → Prop
 | [], _, _ => False
 | x :: _, 0, k => k x
 | _ :: l, n + 1, k => nthW l n k
theorem nthW_of {α : Type} : ∀ {l : List α} {n : Nat} {k : α → Prop}, nthW l n k → ∃ x, l[n]? = some x ∧ k x
 | [], _, _, h => h.elim
 | x :: _, 0, k, h => ⟨x, rfl, h⟩
 | _ :: l, n + 1, k, h => nthW_of (l := l) h
def setW {α : Type} : List α → Nat → α → (List α → Prop) → Prop
 | [], _, _, _ => False
 | _ :: l, 0, x, k => k (x :: l)
 | y :: l, n + 1, x, k => setW l n x fun l => k (y :: l)
theorem setW_of {α : Type} : ∀ {l : List α} {n : Nat} {x : α} {k : List α → Prop}, setW l n x k → n < l.length ∧ k (l.set n x)
 | [], _, _, _, h => h.elim
 | _ :: l, 0, x, k, h => ⟨by simp, h⟩
 | y :: l, n + 1, x, k, h => by
  obtain ⟨h1, h2⟩ := setW_of (l := l) h
  exact ⟨by simp; omega, h2⟩
def rootW : Rs → Nat → (Bool → List C → Prop) → Prop
 | [], _, _ => False
 | (a, ⟨m, row⟩) :: l, i, k => BR (Nat.beq a i) (k m row) (rootW l i k)
theorem rootW_of {n : Nat} {e : List En} : ∀ {rs : Rs} {i : Nat} {k : Bool → List C → Prop}, rootW rs i k → ∃ m row, (stOf n e rs).root i = some ⟨m, row⟩ ∧ k m row
 | [], _, _, h => h.elim
 | (a, ⟨m, row⟩) :: l, i, k, h => by
  rcases BR_iff.1 h with ⟨h1, h2⟩ | ⟨h1, h2⟩
  ·exact ⟨m, row, by simp [St.root, stOf, Nat.eq_of_beq_eq_true h1], h2⟩
  ·obtain ⟨m', row', h3, h4⟩ := rootW_of (n := n) (e := e) (rs := l) h2
   refine ⟨m', row', ?_, h4⟩
   have hne : ¬ a = i := fun h => by subst h; simp at h1
   simp only [St.root, stOf] at h3 ⊢
   rw [List.find?_cons_of_neg (by simpa using hne)]
   exact h3
abbrev IxN (ds : List D) (i : Nat) (k : D → Prop) : Prop := @Option.rec D (fun _ => Prop) False k (ds[i]?)
theorem IxN_of {ds : List D} {i : Nat} {k : D → Prop} (h : IxN ds i k) : ∃ d, ds[i]? = some d ∧ k d := by
 unfold IxN at h
 generalize hd : ds[i]? = x at h
 cases x with
 | none => exact h.elim
 | some d => exact ⟨d, rfl, h⟩
theorem ixn {ds : List D} {i : Nat} {d : D} {k : D → Prop} (h : ds[i]? = some d) (c : k d) : @Option.rec D (fun _ => Prop) False k (ds[i]?) := by rw [h]; exact c
def rowW (d : D) (k : List D → Prop) : Prop := match d with
 | .st ds => forceDs ds k
 | .v x => k [.v x]
 | .sl s l => k [.sl s l]
 | .hole => k [.hole]
theorem rowW_of {d : D} {k : List D → Prop} (h : rowW d k) : k d.row := by cases d <;> simpa [rowW, D.row, forceDs_iff] using h
def stepA (q i : Nat) (r : List D) (f : List D → Prop) : Prop := nthW r q fun d => match d with
 | .sl _ ds => IxN ds i fun d => rowW d f
 | _ => False
def rowAtW (r : List D) (p : List (Nat × Nat)) (k : List D → Prop) : Prop :=
 @List.rec (Nat × Nat) (fun _ => List D → (List D → Prop) → Prop) (fun r k => k r) (fun qi _ ih r k => match qi with
  | (q, i) => stepA q i r fun row => ih row k) p r k
theorem rowAtW_cons {r : List D} {q i : Nat} {p : List (Nat × Nat)} {k : List D → Prop} (h : rowAtW r ((q, i) :: p) k) : stepA q i r fun row => rowAtW row p k := h
theorem rowAtW_of : ∀ {p : List (Nat × Nat)} {r : List D} {k : List D → Prop}, rowAtW r p k → ∃ row, rowAt r p = some row ∧ k row
 | [], r, k, h => ⟨r, rfl, h⟩
 | (q, i) :: p, r, k, h => by
  have h := rowAtW_cons h
  unfold stepA at h
  obtain ⟨d, h1, h2⟩ := nthW_of h
  split at h2
  ·rename_i sz ds
   obtain ⟨d, h3, h4⟩ := IxN_of h2
   obtain ⟨row, h5, h6⟩ := rowAtW_of (rowW_of h4)
   exact ⟨row, by simp [rowAt, h1, h3, h5], h6⟩
  ·exact h2.elim
def ownsW : List D → (List C → Prop) → Prop
 | [], k => k []
 | d :: l, k => forceD d fun d => ownsW l fun l => k (.own d :: l)
theorem ownsW_of : ∀ {l : List D} {k : List C → Prop}, ownsW l k → k (l.map C.own)
 | [], k, h => h
 | d :: l, k, h => ownsW_of (l := l) (forceD_iff.1 h)
def atW (rs : Rs) (a : Nat) (p : List (Nat × Nat)) (k : Bool → List C → Prop) : Prop := rootW rs a fun m row => match p with
 | [] => k m row
 | (q1, i) :: p => nthW row q1 fun c => match c with
  | .own d => (match d with
   | .sl _ ds => IxN ds i fun d => rowW d fun r => rowAtW r p fun r => ownsW r (k true)
   | _ => False)
  | _ => False
theorem atW_of {n a : Nat} {e : List En} {rs : Rs} {p : List (Nat × Nat)} {k : Bool → List C → Prop} (h : atW rs a p k) : ∃ m row, (∀ q, (stOf n e rs).cellAt ⟨a, p, q⟩ = row[q]?) ∧ (∀ q, (stOf n e rs).isMem ⟨a, p, q⟩ = m) ∧ k m row := by
 obtain ⟨m, row, h1, h2⟩ := rootW_of (n := n) (e := e) h
 cases p with
 | nil => exact ⟨m, row, fun q => by simp [St.cellAt, h1], fun q => by simp [St.isMem, h1], h2⟩
 | cons x p =>
  obtain ⟨q1, i⟩ := x
  obtain ⟨c, h3, h4⟩ := nthW_of h2
  split at h4
  ·split at h4
   ·obtain ⟨d, h5, h6⟩ := IxN_of h4
    obtain ⟨r, h7, h8⟩ := rowAtW_of (rowW_of h6)
    refine ⟨true, _, fun q => ?_, fun q => by simp [St.isMem], ownsW_of h8⟩
    simp only [St.cellAt, h1, h3, h5, h7, List.getElem?_map]
    cases r[q]? <;> rfl
   ·exact h4.elim
  ·exact h4.elim
def cellW (rs : Rs) (a : Nat) (p : List (Nat × Nat)) (q : Nat) (k : Bool → C → Prop) : Prop := atW rs a p fun m row => nthW row q fun c => forceC c (k m)
theorem cellW_of {n a q : Nat} {e : List En} {rs : Rs} {p : List (Nat × Nat)} {k : Bool → C → Prop} (h : cellW rs a p q k) : ∃ m c, (stOf n e rs).cellAt ⟨a, p, q⟩ = some c ∧ (stOf n e rs).isMem ⟨a, p, q⟩ = m ∧ k m c := by
 obtain ⟨m, row, h1, h2, h3⟩ := atW_of (n := n) (e := e) h
 obtain ⟨c, h4, h5⟩ := nthW_of h3
 exact ⟨m, c, by rw [h1, h4], h2 q, forceC_iff.1 h5⟩
def valCW (a : Nat) (p : List (Nat × Nat)) (q : Nat) (c : C) (k : C → Prop) : Prop := match c with
 | .ro d => k (.ro d)
 | .own d => (match d with
  | .v x => k (.ro (.v x))
  | .sl _ _ => k (.ref ⟨a, p, q⟩)
  | .st _ => k .dead
  | .hole => k .dead)
 | .ref pl => k (.ref pl)
 | .dead => k .dead
theorem valCW_of {a q : Nat} {p : List (Nat × Nat)} {c : C} {k : C → Prop} (h : valCW a p q c k) : k (valC ⟨a, p, q⟩ c) := by
 cases c with
 | own d => cases d <;> exact h
 | ro d => exact h
 | ref pl => exact h
 | dead => exact h
def valsCW (a : Nat) (p : List (Nat × Nat)) : List C → Nat → Nat → (List C → Prop) → Prop
 | _, _, 0, k => k []
 | [], _, _ + 1, _ => False
 | c :: l, q, n + 1, k => forceC c fun c => valCW a p q c fun c => valsCW a p l (q + 1) n fun l => k (c :: l)
theorem valsCW_of {n a : Nat} {e : List En} {rs : Rs} {p : List (Nat × Nat)} {row : List C} (hr : ∀ q, (stOf n e rs).cellAt ⟨a, p, q⟩ = row[q]?) : ∀ {m : Nat} {l : List C} {q : Nat} {k : List C → Prop}, row.drop q = l → valsCW a p l q m k → ∃ l, (stOf n e rs).cellsAt a p q m = some l ∧ k l
 | 0, l, q, k, _, h => ⟨[], rfl, by cases l <;> exact h⟩
 | m + 1, [], q, k, _, h => h.elim
 | m + 1, c :: l, q, k, hl, h => by
  have h1 : row[q]? = some c := by rw [← List.head?_drop, hl]; rfl
  have h2 : row.drop (q + 1) = l := by rw [← List.tail_drop, hl]; rfl
  obtain ⟨l', h3, h4⟩ := valsCW_of hr (m := m) (l := l) (q := q + 1) h2 (valCW_of (forceC_iff.1 h))
  exact ⟨_, by rw [St.cellsAt, hr, h1]; simp only [h3], h4⟩
def dropW {α : Type} : List α → Nat → (List α → Prop) → Prop
 | l, 0, k => k l
 | [], _ + 1, k => k []
 | _ :: l, n + 1, k => dropW l n k
theorem dropW_of {α : Type} : ∀ {l : List α} {n : Nat} {k : List α → Prop}, dropW l n k → k (l.drop n)
 | [], 0, k, h => h
 | [], n + 1, k, h => h
 | x :: l, 0, k, h => h
 | x :: l, n + 1, k, h => dropW_of (l := l) h
def cellsW (rs : Rs) (a : Nat) (p : List (Nat × Nat)) (q n : Nat) (k : Bool → List C → Prop) : Prop := atW rs a p fun m row => dropW row q fun l => valsCW a p l q n (k m)
theorem cellsW_of {n a c q : Nat} {e : List En} {rs : Rs} {p : List (Nat × Nat)} {k : Bool → List C → Prop} (h : cellsW rs a p q c k) : ∃ l, (stOf n e rs).cellsAt a p q c = some l ∧ k ((stOf n e rs).isMem ⟨a, p, q⟩) l := by
 obtain ⟨m, row, h1, h2, h3⟩ := atW_of (n := n) (e := e) h
 obtain ⟨l, h4, h5⟩ := valsCW_of h1 rfl (dropW_of h3)
 exact ⟨l, h4, by rw [h2]; exact h5⟩
end Go.Proofs.Ytcmoifejjodgcaa.T

