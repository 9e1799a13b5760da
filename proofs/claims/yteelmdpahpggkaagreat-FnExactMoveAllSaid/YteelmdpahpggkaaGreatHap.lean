
import Derived.Test.YteelmdpahpggkaaGreatRmp
import Derived.Test.YteelmdpahpggkaaGreatProg
namespace Go.Proofs.YteelmdpahpggkaaGreat.T
open Go
set_option linter.unusedVariables false
set_option linter.unusedSimpArgs false
class Q (p : Prop) : Prop where
 h : p
class Cond (b : Bool) (p q : outParam Prop) : Prop where
 yes : b = true → p
 no : b = false → q
instance (priority := low) (b : Bool) : Cond b (b = true) (b = false) := ⟨id, id⟩
instance (p : Prop) {_ : Decidable p} : Cond (decide p) p (¬ p) := ⟨of_decide_eq_true, of_decide_eq_false⟩
instance (a b : Int) : Cond (a == b) (a = b) (¬ a = b) := ⟨fun h => by simpa using h, fun h => by simpa using h⟩
instance (a b : Int) : Cond (a != b) (¬ a = b) (a = b) := ⟨fun h => by simpa using h, fun h => by simpa using h⟩
instance (b : Bool) (p q : Prop) [h : Cond b p q] : Cond (!b) q p := ⟨fun e => h.no (by simpa using e), fun e => h.yes (by simpa using e)⟩
instance (a b : Bool) (p q p' q' : Prop) [h : Cond a p q] [h' : Cond b p' q'] : Cond (a && b) (p ∧ p') (q ∨ q') :=
 ⟨fun e => by rw [Bool.and_eq_true] at e; exact ⟨h.yes e.1, h'.yes e.2⟩, fun e => by rw [Bool.and_eq_false_iff] at e; exact e.imp h.no h'.no⟩
instance (a b : Bool) (p q p' q' : Prop) [h : Cond a p q] [h' : Cond b p' q'] : Cond (a || b) (p ∨ p') (q ∧ q') :=
 ⟨fun e => by rw [Bool.or_eq_true] at e; exact e.imp h.yes h'.yes, fun e => by rw [Bool.or_eq_false_iff] at e; exact ⟨h.no e.1, h'.no e.2⟩⟩
class CondVs (us vs : List Value) (p : outParam Prop) : Prop where
 h : eqVs us vs = true ↔ p
instance (k k' : IntKind) (a b : Int) : CondVs [.int k a] [.int k' b] (a = b) := ⟨by simp [eqVs, eqV]⟩
instance (a b : Bool) : CondVs [.bool a] [.bool b] (a = b) := ⟨by simp [eqVs, eqV]⟩
instance (k k' : IntKind) (a b : Int) (x y : Value) (us vs : List Value) (p : Prop) [h : CondVs (x :: us) (y :: vs) p] : CondVs (.int k a :: x :: us) (.int k' b :: y :: vs) (a = b ∧ p) := ⟨by rw [← h.h]; show (_ && _) = true ↔ _; rw [Bool.and_eq_true]; simp [eqV]⟩
instance (a b : Bool) (x y : Value) (us vs : List Value) (p : Prop) [h : CondVs (x :: us) (y :: vs) p] : CondVs (.bool a :: x :: us) (.bool b :: y :: vs) (a = b ∧ p) := ⟨by rw [← h.h]; show (_ && _) = true ↔ _; rw [Bool.and_eq_true]; simp [eqV]⟩
instance (us vs : List Value) (p : Prop) [h : CondVs us vs p] : Cond (eqVs us vs) p (¬ p) := ⟨h.h.1, fun e e' => by rw [h.h.2 e'] at e; cases e⟩
theorem cnd {b : Bool} {p q A B : Prop} [h : Cond b p q] (h1 : p → A) (h2 : q → B) : @Bool.rec (fun _ => Prop) B A b := spl (fun e => h1 (h.yes e)) (fun e => h2 (h.no e))
class ElS {α : Type} (xs : List α) (S : outParam (α → Prop)) : Prop where
 h : ∀ y ∈ xs, S y
instance (priority := low) {α : Type} (xs : List α) : ElS xs (fun _ => True) := ⟨fun _ _ => trivial⟩
class ElB {α : Type} (S : α → Prop) (B : outParam (α → Prop)) : Prop where
 h : ∀ y, S y → B y
instance (priority := low) {α : Type} (S : α → Prop) : ElB S (fun _ => True) := ⟨fun _ _ => trivial⟩
theorem ixkq {α : Type} {f : α → D} {xs : List α} {S B : α → Prop} [hS : ElS xs S] [hB : ElB S B] {m : Nat} {k : D → Prop} (c : ∀ y, xs[m]? = some y → Q (S y) → B y → k (f y)) (h : m < xs.length := by omega) : IxW (xs.map f) (m : Int) k := ⟨m, f xs[m], rfl, by simp [h], c _ (by simp [h]) ⟨hS.h _ (List.getElem_mem h)⟩ (hB.h _ (hS.h _ (List.getElem_mem h)))⟩
theorem ixiq {α : Type} {f : α → D} {xs : List α} {S B : α → Prop} [hS : ElS xs S] [hB : ElB S B] {i : Int} {k : D → Prop} (c : ∀ y, xs[i.toNat]? = some y → Q (S y) → B y → k (f y)) (h : 0 ≤ i ∧ i < xs.length := by omega) : IxW (xs.map f) i k :=
 have h1 : i.toNat < xs.length := by omega
 ⟨i.toNat, f xs[i.toNat], by omega, by simp [h1], c _ (by simp [h1]) ⟨hS.h _ (List.getElem_mem h1)⟩ (hB.h _ (hS.h _ (List.getElem_mem h1)))⟩
class Len1 (l : List D) : Prop where
 h : l.length ≤ 1
instance (d : D) : Len1 [d] := ⟨Nat.le_refl _⟩
instance (l : List D) (k : Nat) (x : D) [h : Len1 l] : Len1 (l.set k x) := ⟨by rw [List.length_set]; exact h.h⟩
instance (l : List D) (x : D) [h1 : Len1 l] [h : WR x] : WL (l.set 0 x) := ⟨fun y hy => by
 match l, h1.h with
 | [], _ => cases hy
 | [d], _ =>
  rw [List.set_cons_zero, List.mem_singleton] at hy
  rw [hy]; exact h⟩
instance (d x : D) [h : WR x] : WL ([d].set 0 x) := ⟨fun y hy => by simp only [List.set_cons_zero, List.mem_singleton] at hy; rw [hy]; exact h⟩
theorem ixoq {α : Type} {f : α → D} {xs : List α} {S B : α → Prop} [hS : ElS xs S] [hB : ElB S B] {m : Nat} {k : D → Prop} (c : ∀ y, xs[m]? = some y → Q (S y) → B y → k (f y)) (h : m < xs.length := by omega) : @Option.rec D (fun _ => Prop) False k ((xs.map f)[m]?) :=
 ixo (y := xs[m]) (by simp [h]) (c _ (by simp [h]) ⟨hS.h _ (List.getElem_mem h)⟩ (hB.h _ (hS.h _ (List.getElem_mem h))))
class LenX {α : Type} (xs : List α) (n : outParam Nat) : Prop where
 h : xs.length ≤ n
instance {α : Type} : LenX ([] : List α) 0 := ⟨Nat.le_refl _⟩
instance {α : Type} (x : α) (l : List α) (n : Nat) [h : LenX l n] : LenX (x :: l) (n + 1) := ⟨Nat.succ_le_succ h.h⟩
instance {α β : Type} (f : α → β) (l : List α) (n : Nat) [h : LenX l n] : LenX (l.map f) n := ⟨by rw [List.length_map]; exact h.h⟩
instance {α : Type} (p : α → Bool) (l : List α) (n : Nat) [h : LenX l n] : LenX (l.filter p) n := ⟨Nat.le_trans (List.length_filter_le ..) h.h⟩
instance {α : Type} (k : Nat) (l : List α) (n : Nat) [h : LenX l n] : LenX (l.take k) n := ⟨Nat.le_trans (by rw [List.length_take]; exact Nat.min_le_right ..) h.h⟩
instance {α : Type} (k : Nat) (l : List α) (n : Nat) [h : LenX l n] : LenX (l.drop k) n := ⟨Nat.le_trans (by rw [List.length_drop]; exact Nat.sub_le ..) h.h⟩
instance {α : Type} (k : Nat) (x : α) (l : List α) (n : Nat) [h : LenX l n] : LenX (l.set k x) n := ⟨by rw [List.length_set]; exact h.h⟩
instance {α : Type} (a b : List α) (n m : Nat) [h : LenX a n] [h' : LenX b m] : LenX (a ++ b) (n + m) := ⟨by rw [List.length_append]; exact Nat.add_le_add h.h h'.h⟩
instance {α : Type} (k : Nat) (x : α) : LenX (List.replicate k x) k := ⟨by rw [List.length_replicate]; exact Nat.le_refl _⟩
theorem appPq {ds ns : List D} {a b : Nat} {k : Prop} [h : PL ns] [ha : LenX ds a] [hb : LenX ns b] (hk : k) (hl : a + b ≤ 134217728 := by first | decide | omega) : AppP ds ns k := appP hk (Nat.le_trans (Nat.add_le_add ha.h hb.h) hl)
theorem appOq {ds ns : List D} {a b : Nat} {k : Prop} [h : WL ns] [ha : LenX ds a] [hb : LenX ns b] (hk : k) (hl : a + b ≤ 134217728 := by first | decide | omega) : AppO ds ns k := appO hk (Nat.le_trans (Nat.add_le_add ha.h hb.h) hl)
def exceptW (xs : List Nat) : Rs → (Rs → Prop) → Prop
 | [], k => k []
 | (a, ⟨m, row⟩) :: l, k => BR (memB a xs) (exceptW xs l k) (exceptW xs l fun l => k ((a, ⟨m, row⟩) :: l))
theorem exceptW_of {xs : List Nat} : ∀ {rs : Rs} {k : Rs → Prop}, exceptW xs rs k → ∃ kr, k kr
 | [], k, h => ⟨_, h⟩
 | (a, ⟨m, row⟩) :: l, k, h => by
  rcases BR_iff.1 h with ⟨_, h⟩ | ⟨_, h⟩
  ·exact exceptW_of (rs := l) h
  ·exact (exceptW_of (rs := l) h).elim fun kr h => ⟨_, h⟩
theorem Can.takeN {st st' st2 : St} {k1 : Nat} {p1 : List (Nat × Nat)} {q1 L : Nat} (h : st.takeN k1 p1 q1 L = some st') (hne : k1 ≠ L) (hL : L < 1000000) (hc : Can st' st2) : Can st st2 := fun hR => by
 obtain ⟨g1, h1⟩ := hR.takeN h hne hL
 exact hc h1
def namesA (e : List En) (rs : Rs) : List Nat → (List En → Rs → Prop) → Prop
 | [], k => k e rs
 | v :: l, k => lookW e v fun t => forceS t fun t => match t with
  | .one (.c (.ref pl)) => (match pl with
   | ⟨b, p, q⟩ => BR (Nat.beq b v) (namesA e rs l k) (BR (Nat.blt v 1000000) (rootW rs b fun m row => BR (!m && Nat.beq row.length 1 && p.isEmpty && Nat.beq q 0)
    (normW v rs (nameR b v rs) fun rs => namesA (.app (nameS b v) :: e) rs l k) (takeW b p q v e rs fun e rs => namesA e rs l k)) False))
  | _ => namesA e rs l k
theorem namesA_of {n : Nat} : ∀ {l : List Nat} {e : List En} {rs : Rs} {k : List En → Rs → Prop}, namesA e rs l k → ∃ e' rs', k e' rs' ∧ ∀ st2, Can (stOf n e' rs') st2 → Can (stOf n e rs) st2
 | [], e, rs, k, h => ⟨e, rs, h, fun _ h => h⟩
 | v :: l, e, rs, k, h => by
  have h := forceS_iff.1 (lookW_of h)
  generalize look e v = t at h
  split at h
  ·rename_i pl
   obtain ⟨b, p, q⟩ := pl
   simp only at h
   rcases BR_iff.1 h with ⟨_, h⟩ | ⟨_, h⟩
   ·exact namesA_of h
   ·obtain ⟨h1, h2⟩ := BR_yes h
    obtain ⟨m, row, h3, h4⟩ := rootW_of (n := n) (e := e) h2
    rcases BR_iff.1 h4 with ⟨_, h5⟩ | ⟨_, h5⟩
    ·obtain ⟨e', rs', h6, h7⟩ := namesA_of (n := n) (l := l) (normW_of h5)
     exact ⟨e', rs', h6, fun st2 hc => Can.name b v name_eq (h7 st2 hc) (Nat.le_of_ble_eq_true h1)⟩
    ·obtain ⟨h6, st', h7, e1, rs1, h8, h9⟩ := takeW_of (n := n) h5
     obtain ⟨e', rs', h10, h11⟩ := namesA_of (n := n) (l := l) h9
     exact ⟨e', rs', h10, fun st2 hc => Can.takeN h7 h6 (Nat.le_of_ble_eq_true h1) (h8 ▸ h11 st2 hc)⟩
  ·exact namesA_of h
def HeadA (e : List En) (rs : Rs) (vs : List Nat) (E : List En) (R : Rs) : Prop := namesA e rs vs fun e rs => slotsW e E (rootsW rs R)
theorem HeadA.can {n : Nat} {e E : List En} {rs R : Rs} {vs : List Nat} (h : HeadA e rs vs E R) : Can (stOf n e rs) (stOf n E R) := by
 obtain ⟨e', rs', h1, h2⟩ := namesA_of (n := n) h
 obtain ⟨h3, h4⟩ := slotsW_of h1
 exact h2 _ (head_can h3 (rootsW_of h4))
inductive NextA {α : Type} (inv : α → Prop) (v : α → Nat) (vs : List Nat) (x : α) (E : α → List En) (R : α → Rs) (e : List En) (rs : Rs) : Prop
 | mk (y : α) (h1 : v y < v x) (h2 : inv y) (h3 : HeadA e rs vs (E y) (R y))
theorem loopA {P : Program} {w0 : World} {g0 : Gh} {n : Nat} {c : Code} {e : List En} {rs : Rs} {K : Kx} {α : Type} (js vs xs : List Nat) (mods : α → List En) (rts : α → Rs) (inv : α → Prop) (v : α → Nat) (x0 : α) (h0 : inv x0)
  (h : namesA e rs vs fun e rs => keepE n e js fun ke => exceptW xs rs fun kr => slotsW e (mods x0 ++ ke) (rootsW rs (rts x0 ++ kr)) ∧
   ∀ x, inv x → appW (mods x) ke fun E => appW (rts x) kr fun R => ∀ N : Kx, (∀ ex e' rs', RoundW (NextA inv v vs x (fun y => mods y ++ ke) (fun y => rts y ++ kr)) K ex e' rs' → N ex e' rs') → wC P w0 g0 n c E R N) : LoopW P w0 g0 n c e rs K := ⟨by
 obtain ⟨e2, rs2, h, hcan⟩ := namesA_of (n := n) h
 obtain ⟨ke, h⟩ := keepE_of h
 obtain ⟨kr, h1, h2⟩ := exceptW_of h
 obtain ⟨h3, h4⟩ := slotsW_of h1
 refine TC.loop (fun μ st => ∃ x, inv x ∧ μ = v x ∧ Can st (stOf n (mods x ++ ke) (rts x ++ kr))) (v x0) ⟨x0, h0, rfl, hcan _ (head_can h3 (rootsW_of h4))⟩ fun μ st ⟨x, hi, hv, hc⟩ => ?_
 refine TC.can hc ?_
 refine (wC_of (appW_of (appW_of (h2 x hi)) _ fun _ _ _ h => h)).mono fun ex st ⟨e', rs', hs, hk⟩ => ?_
 subst hs
 cases ex with
 | normal =>
  obtain ⟨y, h3, h4, h5⟩ := hk
  exact ⟨v y, by rw [hv]; exact h3, y, h4, rfl, h5.can⟩
 | _ => exact .mk hk⟩
def rangeF (p : Nat → Bool) (n : Nat) : List Int := ((List.range n).filter p).map fun (k : Nat) => (k : Int)
theorem rangeF_zero {p : Nat → Bool} : rangeF p 0 = [] := rfl
theorem rangeF_succ {p : Nat → Bool} {n : Nat} : rangeF p (n + 1) = rangeF p n ++ if p n = true then [(n : Int)] else [] := by
 simp only [rangeF, List.range_succ, List.filter_append, List.map_append, List.filter_cons, List.filter_nil]
 split <;> rfl
theorem rangeF_len {p : Nat → Bool} {n : Nat} : (rangeF p n).length ≤ n := by
 rw [rangeF, List.length_map]
 exact Nat.le_trans (List.length_filter_le ..) (by simp)
theorem all_dec {α : Type} {p : α → Bool} {xs : List α} {k : Nat} (h : (xs.take k).all p = true) : (∀ x, xs[k]? = some x → p x = false → xs.all p = false) ∧ (xs.length ≤ k → xs.all p = true) :=
 ⟨fun x hx hp => by rw [List.all_eq_false]; exact ⟨x, List.mem_of_getElem? hx, by simp [hp]⟩, fun hk => by rwa [List.take_of_length_le hk] at h⟩
theorem all_next {α : Type} {p : α → Bool} {xs : List α} {k : Nat} {x : α} (h : (xs.take k).all p = true) (hx : xs[k]? = some x) (hp : p x = true) : (xs.take (k + 1)).all p = true := by
 rw [List.take_add_one, hx, List.all_append, h]
 simp [hp]
theorem cvu {a : Int} {k : Int → Prop} (c : k a) (h : 0 ≤ a := by omega) (h2 : a < 18446744073709551616 := by omega) : ConvW .u64 a k := ⟨a, by rw [IntKind.wrap_u64]; omega, c⟩
theorem hda {e E : List En} {k : Prop} (h : slotsW e E k := by repeat' first | exact rfl | refine And.intro ?_ ?_ | exact True.intro | (refine eqS ?_; simp [rangeF_zero]; done)) : slotsW e E k := h
theorem nxa {α : Type} {inv : α → Prop} {v : α → Nat} {vs : List Nat} {x : α} {E : α → List En} {R : α → Rs} {e : List En} {rs : Rs} (y : α) (h2 : inv y) (h3 : HeadA e rs vs (E y) (R y) := by repeat' first | exact rfl | refine And.intro ?_ ?_ | exact True.intro | (refine eqS ?_; simp; done) | (refine eqS ?_; simp [List.take_add_one, List.set_set, rangeF_succ, *]; done) | (refine eqS ?_; exact congrArg (fun z : Int => (I z : TS)) (by omega))) (h1 : v y < v x := by first | omega | (dsimp only; omega)) : NextA inv v vs x E R e rs := ⟨y, h1, h2, h3⟩
end Go.Proofs.YteelmdpahpggkaaGreat.T

namespace Go.Proofs.YteelmdpahpggkaaGreat.T
open Go
set_option linter.unusedVariables false
set_option linter.unusedSimpArgs false
set_option maxRecDepth 100000
set_option maxHeartbeats 1000000
theorem at_of {α : Type} {xs : List α} {k : Nat} (h : k < xs.length) : ∃ x, xs[k]? = some x := ⟨xs[k], List.getElem?_eq_getElem h⟩
theorem eq_step {α : Type} {xs ys : List α} {k : Nat} {x : α} (h : xs.take k = ys.take k) (hx : xs[k]? = some x) (hy : ys[k]? = some x) : xs.take (k + 1) = ys.take (k + 1) := by
 rw [List.take_add_one, List.take_add_one, h, hx, hy]
theorem eq_off {α : Type} {xs ys : List α} {k : Nat} {x y : α} (hx : xs[k]? = some x) (hy : ys[k]? = some y) (h : x ≠ y) : xs ≠ ys := fun e => by
 subst e
 rw [hx] at hy
 exact h (Option.some.inj hy)
theorem eq_all {α : Type} {xs ys : List α} {k : Nat} (hl : xs.length = ys.length) (h : xs.take k = ys.take k) (hk : xs.length ≤ k) : xs = ys := by
 rwa [List.take_of_length_le hk, List.take_of_length_le (by omega)] at h
def szFold {α : Type} (f : α → Int → Int) : List α → Int → Int
 | [], n => n
 | x :: l, n => if f x n < 0 then -1 else szFold f l (f x n)
def szThen : List (Int → Int) → Int → Int
 | [], n => n
 | f :: l, n => if f n < 0 then -1 else szThen l (f n)
theorem szFold_ok {α : Type} {f : α → Int → Int} {S : α → Prop} (hf : ∀ x n, 0 ≤ f x n → f x n ≤ n ∧ (n ≤ 1048576 → S x)) : ∀ (xs : List α) (n : Int), 0 ≤ szFold f xs n → szFold f xs n ≤ n ∧ (n ≤ 1048576 → ∀ x ∈ xs, S x)
 | [], n, h => ⟨by simp [szFold], fun _ x hx => by cases hx⟩
 | x :: l, n, h => by
  unfold szFold at h ⊢
  split at h
  ·omega
  ·rename_i h0
   rw [if_neg h0]
   have h1 := hf x n (by omega)
   have h2 := szFold_ok hf l _ h
   refine ⟨by omega, fun hn y hy => ?_⟩
   rcases List.mem_cons.1 hy with rfl | hy
   ·exact h1.2 hn
   ·exact h2.2 (by omega) y hy
theorem szFold_drop {α : Type} {f : α → Int → Int} {xs : List α} {k : Nat} {x : α} (h : xs[k]? = some x) (n : Int) : szFold f (xs.drop k) n = if f x n < 0 then -1 else szFold f (xs.drop (k + 1)) (f x n) := by
 have hk := (List.getElem?_eq_some_iff.1 h).1
 rw [List.drop_eq_getElem_cons hk]
 have : xs[k] = x := (List.getElem?_eq_some_iff.1 h).2
 rw [this]
 rfl
abbrev dInt (x : Int) : D := .v (.int .i64 x)
abbrev dIntS (xs : List Int) : D := .sl 1 (xs.map dInt)
def SmIntS (xs : List Int) : Prop := xs.length ≤ 1048576
abbrev dIntSS (xs : List (List Int)) : D := .sl 1 (xs.map dIntS)
def SmIntSS (xs : List (List Int)) : Prop := xs.length ≤ 1048576 ∧ ∀ x ∈ xs, SmIntS x
structure VSlot where
 Page : Int
 Rights : Int
 deriving DecidableEq
abbrev rSlot (x : VSlot) : List D := [.v (.int .i64 x.Page), .v (.int .i64 x.Rights)]
abbrev dSlot (x : VSlot) : D := .st (rSlot x)
abbrev dSlotS (xs : List VSlot) : D := .sl 2 (xs.map dSlot)
def SmSlotS (xs : List VSlot) : Prop := xs.length ≤ 1048576
abbrev dBool (x : Bool) : D := .v (.bool x)
abbrev dBoolS (xs : List Bool) : D := .sl 1 (xs.map dBool)
def SmBoolS (xs : List Bool) : Prop := xs.length ≤ 1048576
structure VIns where
 Op : Int
 X : Int
 deriving DecidableEq
abbrev rIns (x : VIns) : List D := [.v (.int .i64 x.Op), .v (.int .i64 x.X)]
abbrev dIns (x : VIns) : D := .st (rIns x)
abbrev dInsS (xs : List VIns) : D := .sl 2 (xs.map dIns)
def SmInsS (xs : List VIns) : Prop := xs.length ≤ 1048576
structure VCtl where
 Traps : Int
 Post : Int
 Open : Bool
 deriving DecidableEq
abbrev rCtl (x : VCtl) : List D := [.v (.int .i64 x.Traps), .v (.int .i64 x.Post), .v (.bool x.Open)]
structure VExit where
 Kind : Int
 Page : Int
 Write : Bool
 N : Int
 deriving DecidableEq
abbrev rExit (x : VExit) : List D := [.v (.int .i64 x.Kind), .v (.int .i64 x.Page), .v (.bool x.Write), .v (.int .i64 x.N)]
structure VGuest where
 Prog : List VIns
 A : Int
 Pc : Int
 Written : List VSlot
 Live : List VSlot
 Ctl : VCtl
 Pending : Int
 Exit : VExit
 Halted : Bool
 Seen : List Int
 deriving DecidableEq
abbrev rGuest (x : VGuest) : List D := [.sl 2 (x.Prog.map dIns), .v (.int .i64 x.A), .v (.int .i64 x.Pc), .sl 2 (x.Written.map dSlot), .sl 2 (x.Live.map dSlot), .v (.int .i64 x.Ctl.Traps), .v (.int .i64 x.Ctl.Post), .v (.bool x.Ctl.Open), .v (.int .i64 x.Pending), .v (.int .i64 x.Exit.Kind), .v (.int .i64 x.Exit.Page), .v (.bool x.Exit.Write), .v (.int .i64 x.Exit.N), .v (.bool x.Halted), .sl 1 (x.Seen.map dInt)]
abbrev dGuest (x : VGuest) : D := .st (rGuest x)
def SmGuest (x : VGuest) : Prop := SmInsS x.Prog ∧ SmSlotS x.Written ∧ SmSlotS x.Live ∧ SmIntS x.Seen
abbrev dGuestS (xs : List VGuest) : D := .sl 15 (xs.map dGuest)
def SmGuestS (xs : List VGuest) : Prop := xs.length ≤ 1048576 ∧ ∀ x ∈ xs, SmGuest x
structure VKept where
 Known : List Bool
 Slots : List VSlot
 deriving DecidableEq
abbrev rKept (x : VKept) : List D := [.sl 1 (x.Known.map dBool), .sl 2 (x.Slots.map dSlot)]
abbrev dKept (x : VKept) : D := .st (rKept x)
def SmKept (x : VKept) : Prop := SmBoolS x.Known ∧ SmSlotS x.Slots
abbrev dKeptS (xs : List VKept) : D := .sl 2 (xs.map dKept)
def SmKeptS (xs : List VKept) : Prop := xs.length ≤ 1048576 ∧ ∀ x ∈ xs, SmKept x
structure VMon where
 Outer : List VSlot
 Out : List (List Int)
 Dirty : List Bool
 Guests : List VGuest
 Outs : List Int
 Pending : Int
 Traps : Int
 Tables : List VKept
 Own : Int
 deriving DecidableEq
abbrev rMon (x : VMon) : List D := [.sl 2 (x.Outer.map dSlot), .sl 1 (x.Out.map dIntS), .sl 1 (x.Dirty.map dBool), .sl 15 (x.Guests.map dGuest), .sl 1 (x.Outs.map dInt), .v (.int .i64 x.Pending), .v (.int .i64 x.Traps), .sl 2 (x.Tables.map dKept), .v (.int .i64 x.Own)]
abbrev dMon (x : VMon) : D := .st (rMon x)
def SmMon (x : VMon) : Prop := SmSlotS x.Outer ∧ SmIntSS x.Out ∧ SmBoolS x.Dirty ∧ SmGuestS x.Guests ∧ SmIntS x.Outs ∧ SmKeptS x.Tables
abbrev dMonS (xs : List VMon) : D := .sl 9 (xs.map dMon)
def SmMonS (xs : List VMon) : Prop := xs.length ≤ 1048576 ∧ ∀ x ∈ xs, SmMon x
structure VEntry where
 Tag : Int
 Page : Int
 Host : Int
 Rights : Int
 deriving DecidableEq
abbrev rEntry (x : VEntry) : List D := [.v (.int .i64 x.Tag), .v (.int .i64 x.Page), .v (.int .i64 x.Host), .v (.int .i64 x.Rights)]
abbrev dEntry (x : VEntry) : D := .st (rEntry x)
abbrev dEntryS (xs : List VEntry) : D := .sl 4 (xs.map dEntry)
def SmEntryS (xs : List VEntry) : Prop := xs.length ≤ 1048576
structure VHost where
 Memory : List (List Int)
 Mons : List VMon
 Buffer : List VEntry
 IoBuffer : List VEntry
 deriving DecidableEq
abbrev rHost (x : VHost) : List D := [.sl 1 (x.Memory.map dIntS), .sl 9 (x.Mons.map dMon), .sl 4 (x.Buffer.map dEntry), .sl 4 (x.IoBuffer.map dEntry)]
def SmHost (x : VHost) : Prop := SmIntSS x.Memory ∧ SmMonS x.Mons ∧ SmEntryS x.Buffer ∧ SmEntryS x.IoBuffer
structure VMove where
 M : Int
 Have : List (List Int)
 deriving DecidableEq
abbrev rMove (x : VMove) : List D := [.v (.int .i64 x.M), .sl 1 (x.Have.map dIntS)]
def SmMove (x : VMove) : Prop := SmIntSS x.Have
structure VBare where
 Memory : List (List Int)
 Guests : List VGuest
 Outs : List Int
 Pending : Int
 deriving DecidableEq
def SmBare (x : VBare) : Prop := SmIntSS x.Memory ∧ SmGuestS x.Guests ∧ SmIntS x.Outs
def SmBareS (xs : List VBare) : Prop := xs.length ≤ 1048576 ∧ ∀ x ∈ xs, SmBare x
structure VSaved where
 Mons : List VBare
 Traps : List Int
 Own : List Int
 deriving DecidableEq
def SmSaved (x : VSaved) : Prop := SmBareS x.Mons ∧ SmIntS x.Traps ∧ SmIntS x.Own
structure VTold where
 Ok : Bool
 N : Int
 deriving DecidableEq
def SmToldS (xs : List VTold) : Prop := xs.length ≤ 1048576
structure VAct where
 Kind : Int
 M : Int
 G : Int
 X : Int
 Y : Int
 Z : Int
 deriving DecidableEq
def SmActS (xs : List VAct) : Prop := xs.length ≤ 1048576
def SmInsSS (xs : List (List VIns)) : Prop := xs.length ≤ 1048576 ∧ ∀ x ∈ xs, SmInsS x
def SmInsSSS (xs : List (List (List VIns))) : Prop := xs.length ≤ 1048576 ∧ ∀ x ∈ xs, SmInsSS x
def szIntS (xs : List Int) (n : Int) : Int := if n - xs.length < 0 then -1 else n - xs.length
theorem szIntS_ok (xs : List Int) (n : Int) (h : 0 ≤ szIntS xs n) : szIntS xs n ≤ n ∧ (n ≤ 1048576 → SmIntS xs) := by
 unfold szIntS at h ⊢
 split at h
 ·omega
 ·rename_i h0
  rw [if_neg h0]
  exact ⟨by omega, fun hn => by unfold SmIntS; omega⟩
def szIntSS (xs : List (List Int)) (n : Int) : Int := if n - xs.length < 0 then -1 else szFold szIntS xs (n - xs.length)
theorem szIntSS_ok (xs : List (List Int)) (n : Int) (h : 0 ≤ szIntSS xs n) : szIntSS xs n ≤ n ∧ (n ≤ 1048576 → SmIntSS xs) := by
 unfold szIntSS at h ⊢
 split at h
 ·omega
 ·rename_i h0
  rw [if_neg h0]
  obtain ⟨h1, h2⟩ := szFold_ok szIntS_ok xs _ h
  exact ⟨by omega, fun hn => ⟨by omega, h2 (by omega)⟩⟩
def szSlotS (xs : List VSlot) (n : Int) : Int := if n - xs.length < 0 then -1 else n - xs.length
theorem szSlotS_ok (xs : List VSlot) (n : Int) (h : 0 ≤ szSlotS xs n) : szSlotS xs n ≤ n ∧ (n ≤ 1048576 → SmSlotS xs) := by
 unfold szSlotS at h ⊢
 split at h
 ·omega
 ·rename_i h0
  rw [if_neg h0]
  exact ⟨by omega, fun hn => by unfold SmSlotS; omega⟩
def szBoolS (xs : List Bool) (n : Int) : Int := if n - xs.length < 0 then -1 else n - xs.length
theorem szBoolS_ok (xs : List Bool) (n : Int) (h : 0 ≤ szBoolS xs n) : szBoolS xs n ≤ n ∧ (n ≤ 1048576 → SmBoolS xs) := by
 unfold szBoolS at h ⊢
 split at h
 ·omega
 ·rename_i h0
  rw [if_neg h0]
  exact ⟨by omega, fun hn => by unfold SmBoolS; omega⟩
def szInsS (xs : List VIns) (n : Int) : Int := if n - xs.length < 0 then -1 else n - xs.length
theorem szInsS_ok (xs : List VIns) (n : Int) (h : 0 ≤ szInsS xs n) : szInsS xs n ≤ n ∧ (n ≤ 1048576 → SmInsS xs) := by
 unfold szInsS at h ⊢
 split at h
 ·omega
 ·rename_i h0
  rw [if_neg h0]
  exact ⟨by omega, fun hn => by unfold SmInsS; omega⟩
def szGuest (x : VGuest) (n : Int) : Int := szThen [szInsS x.Prog, szSlotS x.Written, szSlotS x.Live, szIntS x.Seen] n
theorem szGuest_ok (x : VGuest) (n : Int) (h : 0 ≤ szGuest x n) : szGuest x n ≤ n ∧ (n ≤ 1048576 → SmGuest x) := by
 unfold szGuest at h ⊢
 simp only [szThen] at h ⊢
 have e0 := szInsS_ok x.Prog (n)
 have e1 := szSlotS_ok x.Written (szInsS x.Prog (n))
 have e2 := szSlotS_ok x.Live (szSlotS x.Written (szInsS x.Prog (n)))
 have e3 := szIntS_ok x.Seen (szSlotS x.Live (szSlotS x.Written (szInsS x.Prog (n))))
 repeat' split at h
 all_goals (try omega)
 simp only [*, if_false]
 simp only [Int.not_lt] at *
 refine ⟨by omega, fun hn => ⟨by exact (e0 (by omega)).2 (by omega), by exact (e1 (by omega)).2 (by omega), by exact (e2 (by omega)).2 (by omega), by exact (e3 (by omega)).2 (by omega)⟩⟩
def szGuestS (xs : List VGuest) (n : Int) : Int := if n - xs.length < 0 then -1 else szFold szGuest xs (n - xs.length)
theorem szGuestS_ok (xs : List VGuest) (n : Int) (h : 0 ≤ szGuestS xs n) : szGuestS xs n ≤ n ∧ (n ≤ 1048576 → SmGuestS xs) := by
 unfold szGuestS at h ⊢
 split at h
 ·omega
 ·rename_i h0
  rw [if_neg h0]
  obtain ⟨h1, h2⟩ := szFold_ok szGuest_ok xs _ h
  exact ⟨by omega, fun hn => ⟨by omega, h2 (by omega)⟩⟩
def szKept (x : VKept) (n : Int) : Int := szThen [szBoolS x.Known, szSlotS x.Slots] n
theorem szKept_ok (x : VKept) (n : Int) (h : 0 ≤ szKept x n) : szKept x n ≤ n ∧ (n ≤ 1048576 → SmKept x) := by
 unfold szKept at h ⊢
 simp only [szThen] at h ⊢
 have e0 := szBoolS_ok x.Known (n)
 have e1 := szSlotS_ok x.Slots (szBoolS x.Known (n))
 repeat' split at h
 all_goals (try omega)
 simp only [*, if_false]
 simp only [Int.not_lt] at *
 refine ⟨by omega, fun hn => ⟨by exact (e0 (by omega)).2 (by omega), by exact (e1 (by omega)).2 (by omega)⟩⟩
def szKeptS (xs : List VKept) (n : Int) : Int := if n - xs.length < 0 then -1 else szFold szKept xs (n - xs.length)
theorem szKeptS_ok (xs : List VKept) (n : Int) (h : 0 ≤ szKeptS xs n) : szKeptS xs n ≤ n ∧ (n ≤ 1048576 → SmKeptS xs) := by
 unfold szKeptS at h ⊢
 split at h
 ·omega
 ·rename_i h0
  rw [if_neg h0]
  obtain ⟨h1, h2⟩ := szFold_ok szKept_ok xs _ h
  exact ⟨by omega, fun hn => ⟨by omega, h2 (by omega)⟩⟩
def szMon (x : VMon) (n : Int) : Int := szThen [szSlotS x.Outer, szIntSS x.Out, szBoolS x.Dirty, szGuestS x.Guests, szIntS x.Outs, szKeptS x.Tables] n
theorem szMon_ok (x : VMon) (n : Int) (h : 0 ≤ szMon x n) : szMon x n ≤ n ∧ (n ≤ 1048576 → SmMon x) := by
 unfold szMon at h ⊢
 simp only [szThen] at h ⊢
 have e0 := szSlotS_ok x.Outer (n)
 have e1 := szIntSS_ok x.Out (szSlotS x.Outer (n))
 have e2 := szBoolS_ok x.Dirty (szIntSS x.Out (szSlotS x.Outer (n)))
 have e3 := szGuestS_ok x.Guests (szBoolS x.Dirty (szIntSS x.Out (szSlotS x.Outer (n))))
 have e4 := szIntS_ok x.Outs (szGuestS x.Guests (szBoolS x.Dirty (szIntSS x.Out (szSlotS x.Outer (n)))))
 have e5 := szKeptS_ok x.Tables (szIntS x.Outs (szGuestS x.Guests (szBoolS x.Dirty (szIntSS x.Out (szSlotS x.Outer (n))))))
 repeat' split at h
 all_goals (try omega)
 simp only [*, if_false]
 simp only [Int.not_lt] at *
 refine ⟨by omega, fun hn => ⟨by exact (e0 (by omega)).2 (by omega), by exact (e1 (by omega)).2 (by omega), by exact (e2 (by omega)).2 (by omega), by exact (e3 (by omega)).2 (by omega), by exact (e4 (by omega)).2 (by omega), by exact (e5 (by omega)).2 (by omega)⟩⟩
def szMonS (xs : List VMon) (n : Int) : Int := if n - xs.length < 0 then -1 else szFold szMon xs (n - xs.length)
theorem szMonS_ok (xs : List VMon) (n : Int) (h : 0 ≤ szMonS xs n) : szMonS xs n ≤ n ∧ (n ≤ 1048576 → SmMonS xs) := by
 unfold szMonS at h ⊢
 split at h
 ·omega
 ·rename_i h0
  rw [if_neg h0]
  obtain ⟨h1, h2⟩ := szFold_ok szMon_ok xs _ h
  exact ⟨by omega, fun hn => ⟨by omega, h2 (by omega)⟩⟩
def szEntryS (xs : List VEntry) (n : Int) : Int := if n - xs.length < 0 then -1 else n - xs.length
theorem szEntryS_ok (xs : List VEntry) (n : Int) (h : 0 ≤ szEntryS xs n) : szEntryS xs n ≤ n ∧ (n ≤ 1048576 → SmEntryS xs) := by
 unfold szEntryS at h ⊢
 split at h
 ·omega
 ·rename_i h0
  rw [if_neg h0]
  exact ⟨by omega, fun hn => by unfold SmEntryS; omega⟩
def szHost (x : VHost) (n : Int) : Int := szThen [szIntSS x.Memory, szMonS x.Mons, szEntryS x.Buffer, szEntryS x.IoBuffer] n
theorem szHost_ok (x : VHost) (n : Int) (h : 0 ≤ szHost x n) : szHost x n ≤ n ∧ (n ≤ 1048576 → SmHost x) := by
 unfold szHost at h ⊢
 simp only [szThen] at h ⊢
 have e0 := szIntSS_ok x.Memory (n)
 have e1 := szMonS_ok x.Mons (szIntSS x.Memory (n))
 have e2 := szEntryS_ok x.Buffer (szMonS x.Mons (szIntSS x.Memory (n)))
 have e3 := szEntryS_ok x.IoBuffer (szEntryS x.Buffer (szMonS x.Mons (szIntSS x.Memory (n))))
 repeat' split at h
 all_goals (try omega)
 simp only [*, if_false]
 simp only [Int.not_lt] at *
 refine ⟨by omega, fun hn => ⟨by exact (e0 (by omega)).2 (by omega), by exact (e1 (by omega)).2 (by omega), by exact (e2 (by omega)).2 (by omega), by exact (e3 (by omega)).2 (by omega)⟩⟩
theorem szIntS_le (x : List Int) (n : Int) (h : 0 ≤ n) : szIntS x n ≤ n := by
 by_cases g : 0 ≤ szIntS x n
 ·exact (szIntS_ok x n g).1
 ·omega
theorem szIntSS_le (x : List (List Int)) (n : Int) (h : 0 ≤ n) : szIntSS x n ≤ n := by
 by_cases g : 0 ≤ szIntSS x n
 ·exact (szIntSS_ok x n g).1
 ·omega
theorem szSlotS_le (x : List VSlot) (n : Int) (h : 0 ≤ n) : szSlotS x n ≤ n := by
 by_cases g : 0 ≤ szSlotS x n
 ·exact (szSlotS_ok x n g).1
 ·omega
theorem szBoolS_le (x : List Bool) (n : Int) (h : 0 ≤ n) : szBoolS x n ≤ n := by
 by_cases g : 0 ≤ szBoolS x n
 ·exact (szBoolS_ok x n g).1
 ·omega
theorem szInsS_le (x : List VIns) (n : Int) (h : 0 ≤ n) : szInsS x n ≤ n := by
 by_cases g : 0 ≤ szInsS x n
 ·exact (szInsS_ok x n g).1
 ·omega
theorem szGuestS_le (x : List VGuest) (n : Int) (h : 0 ≤ n) : szGuestS x n ≤ n := by
 by_cases g : 0 ≤ szGuestS x n
 ·exact (szGuestS_ok x n g).1
 ·omega
theorem szMonS_le (x : List VMon) (n : Int) (h : 0 ≤ n) : szMonS x n ≤ n := by
 by_cases g : 0 ≤ szMonS x n
 ·exact (szMonS_ok x n g).1
 ·omega
theorem szEntryS_le (x : List VEntry) (n : Int) (h : 0 ≤ n) : szEntryS x n ≤ n := by
 by_cases g : 0 ≤ szEntryS x n
 ·exact (szEntryS_ok x n g).1
 ·omega
end Go.Proofs.YteelmdpahpggkaaGreat.T

