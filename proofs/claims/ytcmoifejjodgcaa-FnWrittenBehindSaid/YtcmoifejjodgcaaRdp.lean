
import Derived.Test.YtcmoifejjodgcaaRcp
namespace Go.Proofs.Ytcmoifejjodgcaa.T
open Go
set_option linter.unusedVariables false
set_option linter.unusedSimpArgs false
def Lg (n : Nat) (K : Kn) : St → Prop := fun st => ∃ e rs, st = stOf n e rs ∧ K e rs
theorem Lg.mk {n : Nat} {K : Kn} {e : List En} {rs : Rs} (h : K e rs) : Lg n K (stOf n e rs) := ⟨e, rs, rfl, h⟩
theorem Lg.put {n : Nat} {K : Kn} {e : List En} {rs : Rs} {i : Nat} {t : TS} (h : K (.set i t :: e) rs) : Lg n K ((stOf n e rs).put (some i) t) := by rw [stOf_put]; exact .mk h
def killK (k : Nat) : TS → TS := TS.kill (fun pl => pl.k == k) (fun pl => pl.k == k)
def freshR (rs : Rs) (k : Nat) (r : Rt) : Rs := ((⟨[], rs⟩ : St).fresh k r).roots
theorem fresh_eq {n : Nat} {e : List En} {rs : Rs} {k : Nat} {r : Rt} : (stOf n e rs).fresh k r = stOf n (.app (killK k) :: e) (freshR rs k r) := by
 simp only [St.fresh, St.kill, St.setRoot, freshR]
 exact stOf_app
def freshW (k : Nat) (m : Bool) (row : List C) (e : List En) (rs : Rs) (K : Kn) : Prop := BR (Nat.blt k 1000000) (normW k rs (freshR rs k ⟨m, row⟩) fun rs' => K (.app (killK k) :: e) rs') False
theorem freshW_of {n k : Nat} {m : Bool} {row : List C} {e : List En} {rs : Rs} {K : Kn} (h : freshW k m row e rs K) : k < 1000000 ∧ Lg n K ((stOf n e rs).fresh k ⟨m, row⟩) := by
 obtain ⟨h1, h2⟩ := BR_yes h
 exact ⟨Nat.le_of_ble_eq_true h1, by rw [fresh_eq]; exact .mk (normW_of h2)⟩
def killKs (kl : List Nat) : TS → TS := TS.kill (fun pl => kl.contains pl.k) (fun pl => kl.contains pl.k)
def renewR (rs : Rs) (kl : List Nat) (k : Nat) (r : Rt) : Rs := ((⟨[], rs⟩ : St).renew kl k r).roots
theorem renew_eq {n : Nat} {e : List En} {rs : Rs} {kl : List Nat} {k : Nat} {r : Rt} : (stOf n e rs).renew kl k r = stOf n (.app (killKs kl) :: e) (renewR rs kl k r) := by
 simp only [St.renew, St.kill, renewR]
 exact stOf_app
def renewW (kl : List Nat) (k : Nat) (row : List C) (e : List En) (rs : Rs) (K : Kn) : Prop := BR (Nat.blt k 1000000) (normW k rs (renewR rs kl k ⟨false, row⟩) fun rs' => K (.app (killKs kl) :: e) rs') False
theorem renewW_of {n k : Nat} {kl : List Nat} {row : List C} {e : List En} {rs : Rs} {K : Kn} (h : renewW kl k row e rs K) : k < 1000000 ∧ Lg n K ((stOf n e rs).renew kl k ⟨false, row⟩) := by
 obtain ⟨h1, h2⟩ := BR_yes h
 exact ⟨Nat.le_of_ble_eq_true h1, by rw [renew_eq]; exact .mk (normW_of h2)⟩
def ownW (kl : List Nat) (k sz : Nat) (ds : List D) (e : List En) (rs : Rs) (K : Kn) : Prop := renewW kl k [.own (.sl sz ds)] e rs fun e rs => K (.set k (.one (.c (.ref ⟨k, [], 0⟩))) :: e) rs
theorem ownW_of {n k sz : Nat} {kl : List Nat} {ds : List D} {e : List En} {rs : Rs} {K : Kn} (h : ownW kl k sz ds e rs K) : k < 1000000 ∧ Lg n K (((stOf n e rs).renew kl k ⟨false, [.own (.sl sz ds)]⟩).put (some k) (.one (.c (.ref ⟨k, [], 0⟩)))) := by
 obtain ⟨h1, e', rs', h2, h3⟩ := renewW_of (n := n) h
 exact ⟨h1, by rw [h2]; exact .put h3⟩
def killL (k : Nat) : TS → TS := TS.kill (offList k) (onK k)
theorem rewrote_eq {n : Nat} {e : List En} {rs : Rs} {k : Nat} {r : Rt} : (stOf n e rs).rewrote k r = stOf n (.app (killL k) :: e) (renewR rs [k] k r) := by
 simp only [St.rewrote, St.renew, St.kill, renewR]
 exact stOf_app
def rewriteW (k sz : Nat) (ds : List D) (e : List En) (rs : Rs) (K : Kn) : Prop := BR (Nat.blt k 1000000) (normW k rs (renewR rs [k] k ⟨false, [.own (.sl sz ds)]⟩) fun rs' => K (.app (killL k) :: e) rs') False
theorem rewriteW_of {n k sz : Nat} {ds : List D} {e : List En} {rs : Rs} {K : Kn} (h : rewriteW k sz ds e rs K) : k < 1000000 ∧ Lg n K ((stOf n e rs).rewrote k ⟨false, [.own (.sl sz ds)]⟩) := by
 obtain ⟨h1, h2⟩ := BR_yes h
 exact ⟨Nat.le_of_ble_eq_true h1, by rw [rewrote_eq]; exact .mk (normW_of h2)⟩
def reRowW (e : D) (er : List D) (k : D → Prop) : Prop := match e with
 | .st _ => k (.st er)
 | .v x => (match er with | [] => k (.v x) | y :: _ => k y)
 | .sl s l => (match er with | [] => k (.sl s l) | y :: _ => k y)
 | .hole => (match er with | [] => k .hole | y :: _ => k y)
theorem reRowW_of {e : D} {er : List D} {k : D → Prop} (h : reRowW e er k) : k (e.reRow er) := by
 cases e <;> cases er <;> exact h
def setAtW : List D → List (Nat × Nat) → Nat → D → (List D → Prop) → Prop
 | row, [], q, d, k => setW row q d k
 | row, (q, i) :: p, q', d, k => nthW row q fun c => match c with
  | .sl sz ds => IxN ds i fun e => rowW e fun er => setAtW er p q' d fun er' => reRowW e er' fun e' => setW row q (.sl sz (ds.set i e')) k
  | _ => False
theorem setAtW_of : ∀ {p : List (Nat × Nat)} {row : List D} {q : Nat} {d : D} {k : List D → Prop}, setAtW row p q d k → ∃ row', setAt row p q d = some row' ∧ k row'
 | [], row, q, d, k, h => by
  obtain ⟨h1, h2⟩ := setW_of h
  exact ⟨_, by simp [setAt, h1], h2⟩
 | (q, i) :: p, row, q', d, k, h => by
  obtain ⟨c, h1, h2⟩ := nthW_of h
  split at h2
  ·obtain ⟨e, h3, h4⟩ := IxN_of h2
   obtain ⟨er', h5, h6⟩ := setAtW_of (p := p) (rowW_of h4)
   obtain ⟨h7, h8⟩ := setW_of (reRowW_of h6)
   exact ⟨_, by simp [setAt, h1, h3, h5], h8⟩
  ·exact h2.elim
def setRowW (row : List C) (p : List (Nat × Nat)) (q : Nat) (c : C) (k : List C → Prop) : Prop := match p with
 | [] => setW row q c k
 | (q1, i) :: r => (match c with
  | .own d => nthW row q1 fun c1 => (match c1 with
   | .own d1 => (match d1 with
    | .sl sz ds => IxN ds i fun e => rowW e fun er => setAtW er r q d fun er' => reRowW e er' fun e' => setW row q1 (.own (.sl sz (ds.set i e'))) k
    | _ => False)
   | _ => False)
  | _ => False)
theorem setRowW_of {row : List C} {p : List (Nat × Nat)} {q : Nat} {c : C} {k : List C → Prop} (h : setRowW row p q c k) : ∃ row', setRow row p q c = some row' ∧ k row' := by
 cases p with
 | nil =>
  obtain ⟨h1, h2⟩ := setW_of h
  exact ⟨_, by simp [setRow, h1], h2⟩
 | cons x r =>
  obtain ⟨q1, i⟩ := x
  unfold setRowW at h
  simp only at h
  split at h
  ·obtain ⟨c1, h1, h2⟩ := nthW_of h
   split at h2
   ·split at h2
    ·obtain ⟨e, h3, h4⟩ := IxN_of h2
     obtain ⟨er', h5, h6⟩ := setAtW_of (rowW_of h4)
     obtain ⟨h7, h8⟩ := setW_of (reRowW_of h6)
     exact ⟨_, by simp [setRow, h1, h3, h5], h8⟩
    ·exact h2.elim
   ·exact h2.elim
  ·exact h.elim
def wroteR (rs : Rs) (b : Nat) (p : List (Nat × Nat)) (q : Nat) (m : Bool) (row : List C) (s : Option (Nat × Nat)) : Rs := ((⟨[], rs⟩ : St).wrote b p q m row s).roots
def killH (b : Nat) (p : List (Nat × Nat)) (q : Nat) : TS → TS := TS.kill (hitR b p q) (hitP b p q)
theorem wrote_eq {n : Nat} {e : List En} {rs : Rs} {b q : Nat} {p : List (Nat × Nat)} {m : Bool} {row : List C} {s : Option (Nat × Nat)} :
  (stOf n e rs).wrote b p q m row s = stOf n (.app (killH b p q) :: e) (wroteR rs b p q m row s) := by
 unfold wroteR
 cases s with
 | none =>
  simp only [St.wrote, St.kill, St.setRoot]
  exact stOf_app
 | some s =>
  obtain ⟨k1, q1⟩ := s
  have h1 : ∀ l : List TS, (((⟨l, rs⟩ : St).kill (hitR b p q) (hitP b p q)).setRoot b ⟨m, row⟩).root k1 = (((⟨[], rs⟩ : St).kill (hitR b p q) (hitP b p q)).setRoot b ⟨m, row⟩).root k1 := fun l => rfl
  simp only [St.wrote]
  rw [show (stOf n e rs) = ⟨(stOf n e rs).tmps, rs⟩ from rfl, h1]
  split
  ·simp only [St.kill, St.setRoot]
   exact stOf_app
  ·simp only [St.kill, St.setRoot]
   exact stOf_app
def store1W (b : Nat) (p : List (Nat × Nat)) (q : Nat) (c : C) (e : List En) (rs : Rs) (K : Kn) : Prop := rootW rs b fun m row => forceCs (row.map (C.kill (hitR b p q))) fun row => match c with
 | .ro d => (match d with
  | .v x => setRowW row p q (.own (.v x)) fun row => normW b rs (wroteR rs b p q m row none) fun rs => K (.app (killH b p q) :: e) rs
  | .sl sz ds => (match p with
   | [] => setRowW row [] q (.ro (.sl sz ds)) fun row => normW b rs (wroteR rs b [] q m row none) fun rs => K (.app (killH b [] q) :: e) rs
   | _ => False)
  | _ => False)
 | .ref s => (match s with
  | ⟨sk, sp, sq⟩ => (match sp with
   | [] => BR (Nat.beq sk b) False (cellW rs sk [] sq fun _ c => match c with
    | .own d => (match d with
     | .v x => setRowW row p q (.own (.v x)) fun row => normW b rs (wroteR rs b p q m row (some (sk, sq))) fun rs => K (.app (killH b p q) :: e) rs
     | .sl sz ds => setRowW row p q (.own (.sl sz ds)) fun row => normW b rs (wroteR rs b p q m row (some (sk, sq))) fun rs => K (.app (killH b p q) :: e) rs
     | _ => False)
    | .ro d => (match p with
     | [] => setRowW row [] q (.ref ⟨sk, [], sq⟩) fun row => normW b rs (wroteR rs b [] q m row none) fun rs => K (.app (killH b [] q) :: e) rs
     | _ => False)
    | .ref _ => (match p with
     | [] => setRowW row [] q (.ref ⟨sk, [], sq⟩) fun row => normW b rs (wroteR rs b [] q m row none) fun rs => K (.app (killH b [] q) :: e) rs
     | _ => False)
    | _ => False)
   | x :: sp => (match p with
    | [] => BR (hitR b [] q ⟨sk, x :: sp, sq⟩) False (setRowW row [] q (.ref ⟨sk, x :: sp, sq⟩) fun row => normW b rs (wroteR rs b [] q m row none) fun rs => K (.app (killH b [] q) :: e) rs)
    | _ => False)))
 | _ => False
theorem hitR_off {b q : Nat} {s : Pl} (h : s.k ≠ b) : hitR b [] q s = false := by simp [hitR, h]
theorem BR_no {b : Bool} {A : Prop} (h : BR b False A) : b = false ∧ A := by cases b <;> simp_all [BR]
theorem store1W_of {n b q : Nat} {p : List (Nat × Nat)} {c : C} {e : List En} {rs : Rs} {K : Kn} (h : store1W b p q c e rs K) : ∃ st', (stOf n e rs).store1 ⟨b, p, q⟩ c = some st' ∧ Lg n K st' := by
 obtain ⟨m, row, h1, h2⟩ := rootW_of (n := n) (e := e) h
 have h3 := forceCs_iff.1 h2
 have fin : ∀ {row' : List C} {s : Option (Nat × Nat)}, (normW b rs (wroteR rs b p q m row' s) fun rs => K (.app (killH b p q) :: e) rs) → Lg n K ((stOf n e rs).wrote b p q m row' s) := fun hn => by
  rw [wrote_eq]
  exact .mk (normW_of hn)
 split at h3
 ·split at h3
  ·obtain ⟨row', h4, h5⟩ := setRowW_of h3
   exact ⟨_, by simp [St.store1, h1, h4], fin h5⟩
  ·split at h3
   ·obtain ⟨row', h4, h5⟩ := setRowW_of h3
    exact ⟨_, by simp [St.store1, h1, h4], fin h5⟩
   ·exact h3.elim
  ·exact h3.elim
 ·rename_i s
  obtain ⟨sk, sp, sq⟩ := s
  simp only at h3
  split at h3
  ·obtain ⟨h4, h5⟩ := BR_no h3
   have hne : sk ≠ b := fun e => by subst e; simp at h4
   obtain ⟨m', c, h6, _, h7⟩ := cellW_of (n := n) (e := e) h5
   split at h7
   ·split at h7
    ·obtain ⟨row', h8, h9⟩ := setRowW_of h7
     exact ⟨_, by simp [St.store1, h1, hne, h6, h8], fin h9⟩
    ·obtain ⟨row', h8, h9⟩ := setRowW_of h7
     exact ⟨_, by simp [St.store1, h1, hne, h6, h8], fin h9⟩
    ·exact h7.elim
   ·split at h7
    ·obtain ⟨row', h8, h9⟩ := setRowW_of h7
     exact ⟨_, by simp [St.store1, h1, hne, h6, h8, hitR_off (b := b) (q := q) (s := ⟨sk, [], sq⟩) hne], fin h9⟩
    ·exact h7.elim
   ·split at h7
    ·obtain ⟨row', h8, h9⟩ := setRowW_of h7
     exact ⟨_, by simp [St.store1, h1, hne, h6, h8, hitR_off (b := b) (q := q) (s := ⟨sk, [], sq⟩) hne], fin h9⟩
    ·exact h7.elim
   ·exact h7.elim
  ·split at h3
   ·obtain ⟨h4, h5⟩ := BR_no h3
    obtain ⟨row', h8, h9⟩ := setRowW_of h5
    exact ⟨_, by simp [St.store1, h1, h4, h8], fin h9⟩
   ·exact h3.elim
 ·exact h3.elim
def noneW (cs : List C) (k : Prop) : Prop := match cs with
 | [] => k
 | _ :: _ => False
def storesS (b : Nat) (p : List (Nat × Nat)) (f : List C → Nat → List En → Rs → Kn → Prop) (cs : List C) (q : Nat) (e : List En) (rs : Rs) (K : Kn) : Prop := match cs with
 | [] => K e rs
 | c :: cs => cellW rs b p q fun _ _ => store1W b p q c e rs fun e rs => forceCs (cs.map (C.kill (hitR b p q))) fun cs => f cs (q + 1) e rs K
def storesW (b : Nat) (p : List (Nat × Nat)) (n : Nat) : List C → Nat → List En → Rs → Kn → Prop :=
 @Nat.rec (fun _ => List C → Nat → List En → Rs → Kn → Prop) (fun cs _ e rs K => noneW cs (K e rs)) (fun _ ih cs q e rs K => storesS b p ih cs q e rs K) n
theorem storeAll_map {b : Nat} {p : List (Nat × Nat)} {g : C → C} : ∀ {cs : List C} {f : C → C} {q : Nat} {st : St}, St.storeAll b p (cs.map g) f q st = St.storeAll b p cs (fun c => f (g c)) q st
 | [], f, q, st => rfl
 | c :: cs, f, q, st => by
  simp only [St.storeAll, List.map_cons]
  cases st.cellAt ⟨b, p, q⟩ with
  | none => rfl
  | some c0 =>
   simp only
   cases st.store1 ⟨b, p, q⟩ (f (g c)) with
   | none => rfl
   | some st' =>
    simp only
    rw [storeAll_map (cs := cs)]
theorem storesW_of {n b : Nat} {p : List (Nat × Nat)} : ∀ {m : Nat} {cs : List C} {q : Nat} {e : List En} {rs : Rs} {K : Kn}, storesW b p m cs q e rs K → ∃ st', St.storeAll b p cs id q (stOf n e rs) = some st' ∧ Lg n K st'
 | m, [], q, e, rs, K, h => ⟨_, rfl, .mk (by cases m <;> exact h)⟩
 | 0, _ :: _, q, e, rs, K, h => h.elim
 | m + 1, c :: cs, q, e, rs, K, h => by
  have h : cellW rs b p q fun _ _ => store1W b p q c e rs fun e rs => forceCs (cs.map (C.kill (hitR b p q))) fun cs => storesW b p m cs (q + 1) e rs K := h
  obtain ⟨_, c0, h1, _, h2⟩ := cellW_of (n := n) (e := e) h
  obtain ⟨st', h3, e', rs', h4, h5⟩ := store1W_of (n := n) h2
  subst h4
  obtain ⟨st2, h6, h7⟩ := storesW_of (n := n) (m := m) (cs := cs.map (C.kill (hitR b p q))) (forceCs_iff.1 h5)
  refine ⟨st2, ?_, h7⟩
  simp only [St.storeAll, h1, id_eq, h3]
  rw [storeAll_map] at h6
  exact h6
end Go.Proofs.Ytcmoifejjodgcaa.T

