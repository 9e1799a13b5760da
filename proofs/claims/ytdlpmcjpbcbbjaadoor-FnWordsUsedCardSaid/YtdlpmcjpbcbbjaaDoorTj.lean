/- The lifted walk, part j: what the builtin append does to memory. No condition. -/
import Derived.Test.YtdlpmcjpbcbbjaaDoorTi
namespace Go.Proofs.YtdlpmcjpbcbbjaaDoor.T
open Go
set_option linter.unusedVariables false
set_option linter.unusedSimpArgs false

/-- THE RESULT OF AN APPEND: n elements that were, then the new cells; in the elder block or in a new one; every other block as it was. -/
structure Appended (w w' : World) (v' : Value) (oldb : Option Nat) (n m sz : Nat) (olds news : List Value) : Prop where
  os : w'.os = w.os
  tape : w'.tape = w.tape
  output : w'.output = w.output
  res : (v' = .slice none 0 0 ∧ n = 0 ∧ m = 0 ∧ w' = w) ∨ ∃ b off c cs e, v' = .slice (some ⟨b, off, none⟩) (n + m) c ∧ n + m ≤ c ∧ c ≤ 9223372036854775807 ∧ w'.heap[b]? = some (.cells cs e (0, 0)) ∧ off + c * sz ≤ cs.size ∧
    (∀ t, t < n * sz → w'.cell? ⟨b, off + t, none⟩ = olds[t]?) ∧ (∀ t, t < m * sz → w'.cell? ⟨b, off + n * sz + t, none⟩ = news[t]?) ∧
    ((oldb = some b ∧ w'.heap.size = w.heap.size) ∨ (b = w.heap.size ∧ w'.heap.size = w.heap.size + 1)) ∧ ∀ b', b' < w.heap.size → b' ≠ b → w'.heap[b']? = w.heap[b']?

section
variable {P : Program} {w : World}

theorem run_append_T {t t2 e e2 ty : TypeId} {i : TypeInfo} {z : Value} {sz bytes : Nat} (ht : P.underlying t = some (.slice e)) (ht2 : P.underlying t2 = some (.slice e2))
    (hi : P.info? e = some i) (hz : i.zero = some z) (hsz : i.size = sz) (hby : i.bytes = bytes) (hzs : z.cells.size = sz)
    {v x : Value} {oldb : Option Nat} {n m : Nat} {olds news : List Value} (hol : olds.length = n * sz) (hnl : news.length = m * sz) (h1 : ∀ u ∈ news, u.oneCell' = true)
    (hv : (v = .slice none 0 0 ∧ n = 0 ∧ oldb = none) ∨ ∃ b off c cs e0, v = .slice (some ⟨b, off, none⟩) n c ∧ oldb = some b ∧ n ≤ c ∧ c ≤ 9223372036854775807 ∧ w.heap[b]? = some (.cells cs e0 (0, 0)) ∧ off + c * sz ≤ cs.size ∧
      (∀ j u, olds[j]? = some u → w.cell? ⟨b, off + j, none⟩ = some u))
    (hlen : ∀ w, (Builtin.lenOf x).run P w = .ok m w) (hf : ∀ w', (∀ a, w'.cell? a = w.cell? a) → (Builtin.firstCells sz m x).run P w' = .ok news.toArray w')
    (hmax : n + m ≤ 9223372036854775807) (hbytes : (n + m) * bytes ≤ 140737488355328) :
    ∃ v' w', (Builtin.append_ #[t, t2] ty #[v, x]).run P w = .ok v' w' ∧ Appended w w' v' oldb n m sz olds news := by
  subst hsz
  subst hby
  have hsmall : ((n + m : Nat) : Int) ≤ 9223372036854775807 := by omega
  rcases hv with ⟨rfl, rfl, rfl⟩ | ⟨b, off, c, cs, e0, rfl, rfl, hnc, hcm, hb, hfit, hold⟩
  · have holds : olds = [] := List.eq_nil_of_length_eq_zero (by simpa using hol)
    subst holds
    by_cases hm : m = 0
    · subst hm
      have hn : news = [] := List.eq_nil_of_length_eq_zero (by simpa using hnl)
      subst hn
      refine ⟨.slice none 0 0, w, ?_, rfl, rfl, rfl, .inl ⟨rfl, rfl, rfl, rfl⟩⟩
      have hf0 := hf w (fun _ => rfl)
      simp [Builtin.append_, run_underlying ht, run_underlying ht2, sizeOf, typeInfo, hi, hlen, hf0]
    · have hf0 := hf w.drew (fun _ => rfl)
      have h63' : ¬ (9223372036854775807 < (m : Int)) := by omega
      have h48' : ¬ (281474976710656 < Builtin.nextslicecap m 0 * i.bytes) := by
        rw [nextslicecap_zero (by omega)]
        have := hbytes
        simp only [Nat.zero_add] at this
        omega
      have hge := grownCap_ge w m 0 e
      have hcm : grownCap w m 0 e ≤ maxLen := grownCap_le_maxLen w m 0 e (by simp only [maxLen]; omega)
      have hrun : (Builtin.append_ #[t, t2] ty #[.slice none 0 0, x]).run P w =
          .ok (.slice (some ⟨w.heap.size, 0, none⟩) m (grownCap w m 0 e)) (w.drew.alloc (.cells (news.toArray ++ Builtin.zeroCells z.cells (grownCap w m 0 e - m)) e)) := by
        simp [Builtin.append_, run_underlying ht, run_underlying ht2, sizeOf, typeInfo, zeroValue, hi, hz, hlen, hm, h63', h48', Question.forced, run_firstCells_none, hf0, newRow, grownCap]
      refine ⟨_, _, hrun, rfl, rfl, rfl, .inr ⟨w.heap.size, 0, grownCap w m 0 e, _, e, by rw [Nat.zero_add], by omega, by simp only [maxLen] at hcm; omega, heap_alloc_new w.drew _, ?_, ?_, ?_, .inr ⟨rfl, by simp⟩, ?_⟩⟩
      · simp only [Array.size_append, List.size_toArray, size_zeroCells, hzs, hnl, ← Nat.add_mul, Nat.zero_add]
        exact Nat.mul_le_mul_right _ (by omega)
      · intro t ht; simp at ht
      · intro j hj
        have : (w.drew.alloc (.cells (news.toArray ++ Builtin.zeroCells z.cells (grownCap w m 0 e - m)) e)).cell? ⟨w.drew.heap.size, 0 + 0 * i.size + j, none⟩ = (news.toArray ++ Builtin.zeroCells z.cells (grownCap w m 0 e - m))[0 + 0 * i.size + j]? := World.cell?_alloc_new w.drew _ e _
        rw [show w.heap.size = w.drew.heap.size from rfl, this]
        simp only [Nat.zero_mul, Nat.zero_add]
        rw [Array.getElem?_append_left (by simp; omega)]
        simp
      · intro b' hb' _
        exact heap_alloc_old w.drew _ hb'
  · by_cases hroom : n + m ≤ c
    · have hf0 := hf w (fun _ => rfl)
      have hfit2 : off + n * i.size + news.length ≤ cs.size := by
        have : (n + m) * i.size ≤ c * i.size := Nat.mul_le_mul_right _ hroom
        rw [Nat.add_mul] at this
        omega
      have hst := run_storeCells_at P b (off + n * i.size) e0 news 0 cs w hb (by simpa using hfit2) h1
      simp only [Nat.add_zero] at hst
      have hrun : (Builtin.append_ #[t, t2] ty #[.slice (some ⟨b, off, none⟩) n c, x]).run P w =
          .ok (.slice (some ⟨b, off, none⟩) (n + m) c) (w.setRow b (cs.toList.take (off + n * i.size) ++ news ++ cs.toList.drop (off + n * i.size + news.length)).toArray) := by
        simp [Builtin.append_, run_underlying ht, run_underlying ht2, sizeOf, typeInfo, hi, hlen, hroom, hf0, Addr.add_lit, hst]
      have hheap := setRow_heap w b cs (cs.toList.take (off + n * i.size) ++ news ++ cs.toList.drop (off + n * i.size + news.length)).toArray e0 _ hb
      have hcell : ∀ t, (w.setRow b (cs.toList.take (off + n * i.size) ++ news ++ cs.toList.drop (off + n * i.size + news.length)).toArray).cell? ⟨b, t, none⟩ =
          (cs.toList.take (off + n * i.size) ++ news ++ cs.toList.drop (off + n * i.size + news.length))[t]? := fun t => by
        simp only [World.cell?]
        rw [hheap]
        simp
      have htl : (cs.toList.take (off + n * i.size)).length = off + n * i.size := by simp; omega
      refine ⟨_, _, hrun, rfl, rfl, rfl, .inr ⟨b, off, c, _, e0, rfl, hroom, hcm, hheap, ?_, ?_, ?_, .inl ⟨rfl, by simp⟩, fun b' _ hb' => setRow_other w b b' _ hb'⟩⟩
      · simp only [List.size_toArray, List.length_append, List.length_take, List.length_drop, Array.length_toList]
        omega
      · intro j hj
        rw [hcell, List.append_assoc, List.getElem?_append_left (by omega), List.getElem?_take, if_pos (by omega)]
        have h2 := hold j olds[j] (List.getElem?_eq_getElem (by omega))
        simp only [World.cell?, hb] at h2
        have hlt : j < olds.length := by omega
        rw [List.getElem?_eq_getElem hlt]
        simpa using h2
      · intro j hj
        rw [hcell, List.append_assoc, List.getElem?_append_right (by omega), htl, List.getElem?_append_left (by omega)]
        congr 1
        omega
    · have hf0 := hf w.drew (fun _ => rfl)
      have h63' : ¬ (9223372036854775807 < ((n : Int) + (m : Int))) := by omega
      have h48' : ¬ (281474976710656 < Builtin.nextslicecap (n + m) c * i.bytes) := by
        have := growslice_fits (old := c) (need := n + m) (bytes := i.bytes) (by omega) hbytes
        omega
      have hge := grownCap_ge w (n + m) c e
      have hcm' : grownCap w (n + m) c e ≤ maxLen := grownCap_le_maxLen w (n + m) c e (by simp only [maxLen]; omega)
      have hfo := run_firstCells_some (P := P) w.drew i.size n ⟨b, off, none⟩ n c olds hol (fun j u hu => by rw [Addr.add_lit]; exact hold j u hu)
      have hrun : (Builtin.append_ #[t, t2] ty #[.slice (some ⟨b, off, none⟩) n c, x]).run P w =
          .ok (.slice (some ⟨w.heap.size, 0, none⟩) (n + m) (grownCap w (n + m) c e)) (w.drew.alloc (.cells (olds.toArray ++ news.toArray ++ Builtin.zeroCells z.cells (grownCap w (n + m) c e - (n + m))) e)) := by
        simp [Builtin.append_, run_underlying ht, run_underlying ht2, sizeOf, typeInfo, zeroValue, hi, hz, hlen, hroom, h63', h48', Question.forced, hfo, hf0, newRow, grownCap, ← List.append_toArray]
      have hcell : ∀ t, (w.drew.alloc (.cells (olds.toArray ++ news.toArray ++ Builtin.zeroCells z.cells (grownCap w (n + m) c e - (n + m))) e)).cell? ⟨w.heap.size, t, none⟩ =
          (olds.toArray ++ news.toArray ++ Builtin.zeroCells z.cells (grownCap w (n + m) c e - (n + m)))[t]? := fun t => World.cell?_alloc_new w.drew _ e t
      refine ⟨_, _, hrun, rfl, rfl, rfl, .inr ⟨w.heap.size, 0, grownCap w (n + m) c e, _, e, rfl, hge, by simp only [maxLen] at hcm'; omega, heap_alloc_new w.drew _, ?_, ?_, ?_, .inr ⟨rfl, by simp⟩, ?_⟩⟩
      · simp only [Array.size_append, List.size_toArray, size_zeroCells, hzs, hnl, hol, ← Nat.add_mul, Nat.zero_add]
        exact Nat.mul_le_mul_right _ (by omega)
      · intro j hj
        rw [hcell, Array.append_assoc, Array.getElem?_append_left (by simp; omega)]
        simp
      · intro j hj
        rw [hcell, Array.append_assoc, Array.getElem?_append_right (by simp; omega), Array.getElem?_append_left (by simp; omega)]
        simp only [List.size_toArray, List.getElem?_toArray, Nat.zero_add]
        congr 1
        omega
      · intro b' hb' _
        exact heap_alloc_old w.drew _ hb'
end
end Go.Proofs.YtdlpmcjpbcbbjaaDoor.T
