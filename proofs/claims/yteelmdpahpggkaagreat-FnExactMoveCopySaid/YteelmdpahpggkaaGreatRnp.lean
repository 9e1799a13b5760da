/- The reckoned walk, part n: loops that keep all that they do not name; lists that are appended to get their slot's own name. Facts found by their form (Q). No condition. -/
import Derived.Test.YteelmdpahpggkaaGreatRmp
namespace Go.Proofs.YteelmdpahpggkaaGreat.T
open Go
set_option linter.unusedVariables false
set_option linter.unusedSimpArgs false

/-- A fact that is found by its form. -/
class Q (p : Prop) : Prop where
  h : p
/-- What a condition says, in plain words. -/
class Cond (b : Bool) (p q : outParam Prop) : Prop where
  yes : b = true → p
  no : b = false → q
instance (priority := low) (b : Bool) : Cond b (b = true) (b = false) := ⟨id, id⟩
instance (p : Prop) {_ : Decidable p} : Cond (decide p) p (¬ p) := ⟨of_decide_eq_true, of_decide_eq_false⟩
instance (a b : Int) : Cond (a == b) (a = b) (¬ a = b) := ⟨fun h => by simpa using h, fun h => by simpa using h⟩
instance (a b : Int) : Cond (a != b) (¬ a = b) (a = b) := ⟨fun h => by simpa using h, fun h => by simpa using h⟩
instance (b : Bool) (p q : Prop) [h : Cond b p q] : Cond (!b) q p := ⟨fun e => h.no (by simpa using e), fun e => h.yes (by simpa using e)⟩
instance (a b : Bool) (p q p' q' : Prop) [h : Cond a p q] [h' : Cond b p' q'] : Cond (a && b) (p ∧ p') (q ∨ q') :=
  ⟨fun e => by rw [Bool.and_eq_true] at e; exact ⟨h.yes e.1, h'.yes e.2⟩, fun e => by rw [Bool.and_eq_false_iff] at e; exact e.imp h.no h'.no⟩
instance (a b : Bool) (p q p' q' : Prop) [h : Cond a p q] [h' : Cond b p' q'] : Cond (a || b) (p ∨ p') (q ∧ q') :=
  ⟨fun e => by rw [Bool.or_eq_true] at e; exact e.imp h.yes h'.yes, fun e => by rw [Bool.or_eq_false_iff] at e; exact ⟨h.no e.1, h'.no e.2⟩⟩
class CondVs (us vs : List Value) (p : outParam Prop) : Prop where
  h : eqVs us vs = true ↔ p
instance (k k' : IntKind) (a b : Int) : CondVs [.int k a] [.int k' b] (a = b) := ⟨by simp [eqVs, eqV]⟩
instance (a b : Bool) : CondVs [.bool a] [.bool b] (a = b) := ⟨by simp [eqVs, eqV]⟩
instance (k k' : IntKind) (a b : Int) (x y : Value) (us vs : List Value) (p : Prop) [h : CondVs (x :: us) (y :: vs) p] : CondVs (.int k a :: x :: us) (.int k' b :: y :: vs) (a = b ∧ p) := ⟨by rw [← h.h]; show (_ && _) = true ↔ _; rw [Bool.and_eq_true]; simp [eqV]⟩
instance (a b : Bool) (x y : Value) (us vs : List Value) (p : Prop) [h : CondVs (x :: us) (y :: vs) p] : CondVs (.bool a :: x :: us) (.bool b :: y :: vs) (a = b ∧ p) := ⟨by rw [← h.h]; show (_ && _) = true ↔ _; rw [Bool.and_eq_true]; simp [eqV]⟩
instance (us vs : List Value) (p : Prop) [h : CondVs us vs p] : Cond (eqVs us vs) p (¬ p) := ⟨h.h.1, fun e e' => by rw [h.h.2 e'] at e; cases e⟩
theorem cnd {b : Bool} {p q A B : Prop} [h : Cond b p q] (h1 : p → A) (h2 : q → B) : @Bool.rec (fun _ => Prop) B A b := spl (fun e => h1 (h.yes e)) (fun e => h2 (h.no e))
/-- What holds of all elements. -/
class ElS {α : Type} (xs : List α) (S : outParam (α → Prop)) : Prop where
  h : ∀ y ∈ xs, S y
instance (priority := low) {α : Type} (xs : List α) : ElS xs (fun _ => True) := ⟨fun _ _ => trivial⟩
/-- What such an element's length is. -/
class ElB {α : Type} (S : α → Prop) (B : outParam (α → Prop)) : Prop where
  h : ∀ y, S y → B y
instance (priority := low) {α : Type} (S : α → Prop) : ElB S (fun _ => True) := ⟨fun _ _ => trivial⟩
theorem ixkq {α : Type} {f : α → D} {xs : List α} {S B : α → Prop} [hS : ElS xs S] [hB : ElB S B] {m : Nat} {k : D → Prop} (c : ∀ y, xs[m]? = some y → Q (S y) → B y → k (f y)) (h : m < xs.length := by omega) : IxW (xs.map f) (m : Int) k := ⟨m, f xs[m], rfl, by simp [h], c _ (by simp [h]) ⟨hS.h _ (List.getElem_mem h)⟩ (hB.h _ (hS.h _ (List.getElem_mem h)))⟩
theorem ixiq {α : Type} {f : α → D} {xs : List α} {S B : α → Prop} [hS : ElS xs S] [hB : ElB S B] {i : Int} {k : D → Prop} (c : ∀ y, xs[i.toNat]? = some y → Q (S y) → B y → k (f y)) (h : 0 ≤ i ∧ i < xs.length := by omega) : IxW (xs.map f) i k :=
  have h1 : i.toNat < xs.length := by omega
  ⟨i.toNat, f xs[i.toNat], by omega, by simp [h1], c _ (by simp [h1]) ⟨hS.h _ (List.getElem_mem h1)⟩ (hB.h _ (hS.h _ (List.getElem_mem h1)))⟩
class Len1 (l : List D) : Prop where
  h : l.length ≤ 1
instance (d : D) : Len1 [d] := ⟨Nat.le_refl _⟩
instance (l : List D) (k : Nat) (x : D) [h : Len1 l] : Len1 (l.set k x) := ⟨by rw [List.length_set]; exact h.h⟩
instance (l : List D) (x : D) [h1 : Len1 l] [h : WR x] : WL (l.set 0 x) := ⟨fun y hy => by
  match l, h1.h with
  | [], _ => cases hy
  | [d], _ =>
    rw [List.set_cons_zero, List.mem_singleton] at hy
    rw [hy]; exact h⟩
instance (d x : D) [h : WR x] : WL ([d].set 0 x) := ⟨fun y hy => by simp only [List.set_cons_zero, List.mem_singleton] at hy; rw [hy]; exact h⟩
theorem ixoq {α : Type} {f : α → D} {xs : List α} {S B : α → Prop} [hS : ElS xs S] [hB : ElB S B] {m : Nat} {k : D → Prop} (c : ∀ y, xs[m]? = some y → Q (S y) → B y → k (f y)) (h : m < xs.length := by omega) : @Option.rec D (fun _ => Prop) False k ((xs.map f)[m]?) :=
  ixo (y := xs[m]) (by simp [h]) (c _ (by simp [h]) ⟨hS.h _ (List.getElem_mem h)⟩ (hB.h _ (hS.h _ (List.getElem_mem h))))
/-- How long a list can be. -/
class LenX {α : Type} (xs : List α) (n : outParam Nat) : Prop where
  h : xs.length ≤ n
instance {α : Type} : LenX ([] : List α) 0 := ⟨Nat.le_refl _⟩
instance {α : Type} (x : α) (l : List α) (n : Nat) [h : LenX l n] : LenX (x :: l) (n + 1) := ⟨Nat.succ_le_succ h.h⟩
instance {α β : Type} (f : α → β) (l : List α) (n : Nat) [h : LenX l n] : LenX (l.map f) n := ⟨by rw [List.length_map]; exact h.h⟩
instance {α : Type} (p : α → Bool) (l : List α) (n : Nat) [h : LenX l n] : LenX (l.filter p) n := ⟨Nat.le_trans (List.length_filter_le ..) h.h⟩
instance {α : Type} (k : Nat) (l : List α) (n : Nat) [h : LenX l n] : LenX (l.take k) n := ⟨Nat.le_trans (by rw [List.length_take]; exact Nat.min_le_right ..) h.h⟩
instance {α : Type} (k : Nat) (l : List α) (n : Nat) [h : LenX l n] : LenX (l.drop k) n := ⟨Nat.le_trans (by rw [List.length_drop]; exact Nat.sub_le ..) h.h⟩
instance {α : Type} (k : Nat) (x : α) (l : List α) (n : Nat) [h : LenX l n] : LenX (l.set k x) n := ⟨by rw [List.length_set]; exact h.h⟩
instance {α : Type} (a b : List α) (n m : Nat) [h : LenX a n] [h' : LenX b m] : LenX (a ++ b) (n + m) := ⟨by rw [List.length_append]; exact Nat.add_le_add h.h h'.h⟩
instance {α : Type} (k : Nat) (x : α) : LenX (List.replicate k x) k := ⟨by rw [List.length_replicate]; exact Nat.le_refl _⟩
theorem appPq {ds ns : List D} {a b : Nat} {k : Prop} [h : PL ns] [ha : LenX ds a] [hb : LenX ns b] (hk : k) (hl : a + b ≤ 134217728 := by first | decide | omega) : AppP ds ns k := appP hk (Nat.le_trans (Nat.add_le_add ha.h hb.h) hl)
theorem appOq {ds ns : List D} {a b : Nat} {k : Prop} [h : WL ns] [ha : LenX ds a] [hb : LenX ns b] (hk : k) (hl : a + b ≤ 134217728 := by first | decide | omega) : AppO ds ns k := appO hk (Nat.le_trans (Nat.add_le_add ha.h hb.h) hl)
/-- The roots but some. -/
def exceptW (xs : List Nat) : Rs → (Rs → Prop) → Prop
  | [], k => k []
  | (a, ⟨m, row⟩) :: l, k => BR (memB a xs) (exceptW xs l k) (exceptW xs l fun l => k ((a, ⟨m, row⟩) :: l))
theorem exceptW_of {xs : List Nat} : ∀ {rs : Rs} {k : Rs → Prop}, exceptW xs rs k → ∃ kr, k kr
  | [], k, h => ⟨_, h⟩
  | (a, ⟨m, row⟩) :: l, k, h => by
    rcases BR_iff.1 h with ⟨_, h⟩ | ⟨_, h⟩
    · exact exceptW_of (rs := l) h
    · exact (exceptW_of (rs := l) h).elim fun kr h => ⟨_, h⟩
/-- The list that a slot refers to gets the slot's name. -/
def namesA (e : List En) (rs : Rs) : List Nat → (List En → Rs → Prop) → Prop
  | [], k => k e rs
  | v :: l, k => lookW e v fun t => forceS t fun t => match t with
    | .one (.c (.ref pl)) => (match pl with
      | ⟨b, p, q⟩ => (match p, q with
        | [], 0 => BR (Nat.beq b v) (namesA e rs l k) (BR (Nat.blt v 1000000) (normW v rs (nameR b v rs) fun rs => namesA (.app (nameS b v) :: e) rs l k) False)
        | _, _ => namesA e rs l k))
    | _ => namesA e rs l k
theorem namesA_of {n : Nat} : ∀ {l : List Nat} {e : List En} {rs : Rs} {k : List En → Rs → Prop}, namesA e rs l k → ∃ e' rs', k e' rs' ∧ ∀ st2, Can (stOf n e' rs') st2 → Can (stOf n e rs) st2
  | [], e, rs, k, h => ⟨e, rs, h, fun _ h => h⟩
  | v :: l, e, rs, k, h => by
    have h := forceS_iff.1 (lookW_of h)
    generalize look e v = t at h
    split at h
    · rename_i pl
      obtain ⟨b, p, q⟩ := pl
      simp only at h
      split at h
      · rcases BR_iff.1 h with ⟨_, h⟩ | ⟨_, h⟩
        · exact namesA_of h
        · obtain ⟨h1, h2⟩ := BR_yes h
          obtain ⟨e', rs', h3, h4⟩ := namesA_of (n := n) (l := l) (normW_of h2)
          exact ⟨e', rs', h3, fun st2 hc => Can.name b v name_eq (h4 st2 hc) (Nat.le_of_ble_eq_true h1)⟩
      · exact namesA_of h
    · exact namesA_of h
def HeadA (e : List En) (rs : Rs) (vs : List Nat) (E : List En) (R : Rs) : Prop := namesA e rs vs fun e rs => slotsW e E (rootsW rs R)
theorem HeadA.can {n : Nat} {e E : List En} {rs R : Rs} {vs : List Nat} (h : HeadA e rs vs E R) : Can (stOf n e rs) (stOf n E R) := by
  obtain ⟨e', rs', h1, h2⟩ := namesA_of (n := n) h
  obtain ⟨h3, h4⟩ := slotsW_of h1
  exact h2 _ (head_can h3 (rootsW_of h4))
inductive NextA {α : Type} (inv : α → Prop) (v : α → Nat) (vs : List Nat) (x : α) (E : α → List En) (R : α → Rs) (e : List En) (rs : Rs) : Prop
  | mk (y : α) (h1 : v y < v x) (h2 : inv y) (h3 : HeadA e rs vs (E y) (R y))
/-- THE RULE OF LOOPS, with all kept that is not named: js the slots that stay (a list's slot is one of them), vs the slots whose lists change, xs the roots that change. -/
theorem loopA {P : Program} {w0 : World} {g0 : Gh} {n : Nat} {c : Code} {e : List En} {rs : Rs} {K : Kx} {α : Type} (js vs xs : List Nat) (mods : α → List En) (rts : α → Rs) (inv : α → Prop) (v : α → Nat) (x0 : α) (h0 : inv x0)
    (h : namesA e rs vs fun e rs => keepE n e js fun ke => exceptW xs rs fun kr => slotsW e (mods x0 ++ ke) (rootsW rs (rts x0 ++ kr)) ∧
      ∀ x, inv x → appW (mods x) ke fun E => appW (rts x) kr fun R => ∀ N : Kx, (∀ ex e' rs', RoundW (NextA inv v vs x (fun y => mods y ++ ke) (fun y => rts y ++ kr)) K ex e' rs' → N ex e' rs') → wC P w0 g0 n c E R N) : LoopW P w0 g0 n c e rs K := ⟨by
  obtain ⟨e2, rs2, h, hcan⟩ := namesA_of (n := n) h
  obtain ⟨ke, h⟩ := keepE_of h
  obtain ⟨kr, h1, h2⟩ := exceptW_of h
  obtain ⟨h3, h4⟩ := slotsW_of h1
  refine TC.loop (fun μ st => ∃ x, inv x ∧ μ = v x ∧ Can st (stOf n (mods x ++ ke) (rts x ++ kr))) (v x0) ⟨x0, h0, rfl, hcan _ (head_can h3 (rootsW_of h4))⟩ fun μ st ⟨x, hi, hv, hc⟩ => ?_
  refine TC.can hc ?_
  refine (wC_of (appW_of (appW_of (h2 x hi)) _ fun _ _ _ h => h)).mono fun ex st ⟨e', rs', hs, hk⟩ => ?_
  subst hs
  cases ex with
  | normal =>
    obtain ⟨y, h3, h4, h5⟩ := hk
    exact ⟨v y, by rw [hv]; exact h3, y, h4, rfl, h5.can⟩
  | _ => exact .mk hk⟩
/-- The numbers below a bound for which something holds. -/
def rangeF (p : Nat → Bool) (n : Nat) : List Int := ((List.range n).filter p).map fun (k : Nat) => (k : Int)
theorem rangeF_zero {p : Nat → Bool} : rangeF p 0 = [] := rfl
theorem rangeF_succ {p : Nat → Bool} {n : Nat} : rangeF p (n + 1) = rangeF p n ++ if p n = true then [(n : Int)] else [] := by
  simp only [rangeF, List.range_succ, List.filter_append, List.map_append, List.filter_cons, List.filter_nil]
  split <;> rfl
theorem rangeF_len {p : Nat → Bool} {n : Nat} : (rangeF p n).length ≤ n := by
  rw [rangeF, List.length_map]
  exact Nat.le_trans (List.length_filter_le ..) (by simp)
theorem all_dec {α : Type} {p : α → Bool} {xs : List α} {k : Nat} (h : (xs.take k).all p = true) : (∀ x, xs[k]? = some x → p x = false → xs.all p = false) ∧ (xs.length ≤ k → xs.all p = true) :=
  ⟨fun x hx hp => by rw [List.all_eq_false]; exact ⟨x, List.mem_of_getElem? hx, by simp [hp]⟩, fun hk => by rwa [List.take_of_length_le hk] at h⟩
theorem all_next {α : Type} {p : α → Bool} {xs : List α} {k : Nat} {x : α} (h : (xs.take k).all p = true) (hx : xs[k]? = some x) (hp : p x = true) : (xs.take (k + 1)).all p = true := by
  rw [List.take_add_one, hx, List.all_append, h]
  simp [hp]
theorem hda {e E : List En} {k : Prop} (h : slotsW e E k := by repeat' first | exact rfl | refine And.intro ?_ ?_ | exact True.intro | (refine eqS ?_; simp [rangeF_zero]; done)) : slotsW e E k := h
theorem nxa {α : Type} {inv : α → Prop} {v : α → Nat} {vs : List Nat} {x : α} {E : α → List En} {R : α → Rs} {e : List En} {rs : Rs} (y : α) (h2 : inv y) (h3 : HeadA e rs vs (E y) (R y) := by repeat' first | exact rfl | refine And.intro ?_ ?_ | exact True.intro | (refine eqS ?_; simp; done) | (refine eqS ?_; simp [List.take_add_one, List.set_set, rangeF_succ, *]; done) | (refine eqS ?_; exact congrArg (fun z : Int => (I z : TS)) (by omega))) (h1 : v y < v x := by first | omega | (dsimp only; omega)) : NextA inv v vs x E R e rs := ⟨y, h1, h2, h3⟩
end Go.Proofs.YteelmdpahpggkaaGreat.T


