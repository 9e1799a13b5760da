/- The reckoned walk, part j: what must be shown, in short words. No condition. -/
import Derived.Test.YteelmdpahpggkaaGreatRip
namespace Go.Proofs.YteelmdpahpggkaaGreat.T
open Go
set_option linter.unusedVariables false
set_option linter.unusedSimpArgs false

theorem rng {a : Int} {k : Prop} (c : k) (lo : -9223372036854775808 ≤ a := by omega) (hi : a ≤ 9223372036854775807 := by omega) : RngW a k := ⟨lo, hi, c⟩
theorem nz {a : Int} {k : Prop} (c : k) (h : a ≠ 0 := by first | decide | omega) : NzW a k := ⟨h, c⟩
theorem lenq {ds : List D} {k : Nat → Prop} (n : Nat) (c : k n) (h : ds.length = n := by simp <;> omega) : LenW ds k := ⟨n, h, c⟩
/-- The element is known. -/
theorem ixm {α : Type} {f : α → D} {xs : List α} {i : Int} {m : Nat} {y : α} {k : D → Prop} (hy : xs[m]? = some y) (c : k (f y)) (h0 : i = m := by omega) : IxW (xs.map f) i k := ⟨m, f y, h0, by rw [List.getElem?_map, hy]; rfl, c⟩
theorem ixd {ds : List D} {i : Int} {m : Nat} {d : D} {k : D → Prop} (hy : ds[m]? = some d) (c : k d) (h0 : i = m := by omega) : IxW ds i k := ⟨m, d, h0, hy, c⟩
theorem bnd {ds : List D} {m : Nat} {k : Nat → Prop} (c : k m) (h : m < ds.length := by simp <;> omega) : BndW ds (m : Int) k := ⟨m, rfl, h, c⟩
theorem bndi {ds : List D} {i : Int} {k : Nat → Prop} (c : k i.toNat) (h : 0 ≤ i ∧ i < ds.length := by simp <;> omega) : BndW ds i k := ⟨i.toNat, by omega, by omega, c⟩
/-- At a place in a list of its own. -/
theorem ixo {α : Type} {f : α → D} {xs : List α} {m : Nat} {y : α} {k : D → Prop} (hy : xs[m]? = some y) (c : k (f y)) : @Option.rec D (fun _ => Prop) False k ((xs.map f)[m]?) := ixn (by rw [List.getElem?_map, hy]; rfl) c
theorem cut {n : Nat} {i j : Int} (a b : Nat) {k : Nat → Nat → Prop} (c : k a b) (h0 : i = a := by omega) (h1 : j = b := by omega) (h2 : a ≤ b := by omega) (h3 : b ≤ n := by first | omega | (simp <;> omega)) : CutW n i j k := ⟨a, b, h0, h1, h2, h3, c⟩
theorem mkw {n n' : Int} (m : Nat) {k : Nat → Prop} (c : k m) (h : n = m := by omega) (h' : n' = m := by omega) (hm : m ≤ 134217728 := by omega) : MakeW n n' k := ⟨m, h, h', hm, c⟩
theorem eqa {P : Program} {ty : TypeId} {us vs : List Value} {k : Prop} (c : k) (ht : P.underlying ty = some (.struct (P.fieldsOf ty)) := by exact rfl) (hp : P.stoodInHeld ty = false := by kernel_rfl) (hm : P.eqGuardType P.depth ty = false := by kernel_rfl)
    (hf : fieldsOk P 0 (P.fieldsOf ty).toList us vs = true := by exact rfl) : EqA P ty us vs k := ⟨ht, hp, hm, hf, c⟩
theorem nxt {α : Type} {inv : α → Prop} {v : α → Nat} {x : α} {E : α → List En} {R : α → Rs} {e : List En} {rs : Rs} (nm : List (Nat × Nat)) (y : α) (h2 : inv y) (h3 : HeadW e rs nm (E y) (R y) := by repeat' first | exact rfl | refine And.intro ?_ ?_ | exact True.intro | (refine eqS ?_; simp; done)) (h1 : v y < v x := by first | omega | (dsimp only; omega)) : NextW inv v x E R e rs := ⟨nm, y, h1, h2, h3⟩
theorem ixs {ds : List D} {i : Nat} {d : D} {k : D → Prop} (c : k d) (h : i < ds.length := by first | omega | (simp only [List.length_set] <;> omega)) : @Option.rec D (fun _ => Prop) False k ((ds.set i d)[i]?) := ixn (by rw [List.getElem?_set_self h]) c
/-- A list's length in plain words. -/
class LenI (ds : List D) (n : outParam Nat) : Prop where
  h : ds.length = n
instance (priority := low) (ds : List D) : LenI ds ds.length := ⟨rfl⟩
instance {α : Type} (f : α → D) (xs : List α) : LenI (xs.map f) xs.length := ⟨List.length_map ..⟩
instance (a b : List D) (n m : Nat) [h : LenI a n] [h2 : LenI b m] : LenI (a ++ b) (n + m) := ⟨by rw [List.length_append, h.h, h2.h]⟩
instance (i : Nat) (d : D) (a : List D) (n : Nat) [h : LenI a n] : LenI (a.set i d) n := ⟨by rw [List.length_set, h.h]⟩
instance (i : Nat) (d : D) : LenI (List.replicate i d) i := ⟨List.length_replicate ..⟩
instance : LenI [] 0 := ⟨rfl⟩
theorem len {ds : List D} {n : Nat} {k : Nat → Prop} [h : LenI ds n] (c : k n) : LenW ds k := ⟨n, h.h, c⟩
theorem mkn {m : Nat} {k : Nat → Prop} (c : k m) (hm : m ≤ 134217728 := by omega) : MakeW (m : Int) (m : Int) k := ⟨m, rfl, rfl, hm, c⟩
theorem cvs {a : Int} {k : Int → Prop} (c : k a) (lo : -9223372036854775808 ≤ a := by omega) (hi : a ≤ 9223372036854775807 := by omega) : ConvW .i64 a k := ⟨a, by rw [IntKind.wrap_i64]; omega, c⟩
theorem hdw {e : List En} {rs : Rs} {nm : List (Nat × Nat)} {E : List En} {R : Rs} (h : HeadW e rs nm E R := by repeat' first | exact rfl | refine And.intro ?_ ?_ | exact True.intro | (refine eqS ?_; simp; done)) : HeadW e rs nm E R := h
theorem cutO {n : Nat} {i j : Int} (a b : Nat) {k : Nat → Nat → Prop} (c : k a b) (h0 : i = a := by omega) (h1 : j = b := by omega) (h2 : a < b := by omega) (h3 : b ≤ n := by first | omega | (simp <;> omega)) : CutO n i j k := ⟨a, b, h0, h1, h2, h3, c⟩
theorem cpy {ds ns : List D} {lo len : Nat} {k : Nat → List D → Prop} (n : Nat) (l : List D) [hd : PL ds] [hn : PL ns] (c : k n l) (h1 : n = Nat.min ns.length len := by rfl) (h0 : 0 < n := by decide) (he : l = ds.take lo ++ ns.take n ++ ds.drop (lo + n) := by rfl) : CopyP ds ns lo len k := ⟨n, l, hd.w, hn.w, h1, h0, he, c⟩
end Go.Proofs.YteelmdpahpggkaaGreat.T

