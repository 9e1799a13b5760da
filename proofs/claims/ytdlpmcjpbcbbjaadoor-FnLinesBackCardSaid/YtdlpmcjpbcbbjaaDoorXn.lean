/- Lines of actions and instructions come back, also with blanks around them. No condition. -/
import Derived.Test.YtdlpmcjpbcbbjaaDoorXh
namespace Go.Proofs.YtdlpmcjpbcbbjaaDoor.T
open Go
set_option linter.unusedVariables false
set_option linter.unusedSimpArgs false
set_option maxRecDepth 100000
set_option maxHeartbeats 1000000

theorem blank_end {p t : ByteArray} (ht : t = ⟨#[]⟩ ∨ ∃ u, t = ⟨#[32]⟩ ++ u) : blank (p ++ t) p.size = true := by
  rcases ht with rfl | ⟨u, rfl⟩
  · unfold blank
    rw [ba_app_nil]
    simp
  · unfold blank
    rw [Bool.or_eq_true]
    right
    rw [decide_eq_true_eq, app_list, List.getElem?_append_right (by rw [size_list]; exact Nat.le_refl _), size_list, Nat.sub_self, app_list]
    rfl
theorem words_join2 : ∀ (ws : List ByteArray) (p t : ByteArray) (W : List ByteArray), (∀ w ∈ ws, Word w) → ws ≠ [] → (t = ⟨#[]⟩ ∨ ∃ u, t = ⟨#[32]⟩ ++ u) → wordsTo (p ++ joinSp ws ++ t) p.size = (W, p.size) → wordsTo (p ++ joinSp ws ++ t) ((p ++ joinSp ws).size + 1) = (W ++ ws, (p ++ joinSp ws).size + 1)
  | [], _, _, _, _, h, _, _ => absurd rfl h
  | [w], p, t, W, hw, _, ht, h => by
    have hw1 := hw w List.mem_cons_self
    rw [joinSp_one] at h ⊢
    have hs : (p ++ w).size = p.size + w.size := ByteArray.size_append ..
    have h1 := words_run (e := p.size + w.size) h (by have := hw1.1; omega) (fun j h1 h2 => mid_black hw1 h1 h2) (by have := blank_end (p := p ++ w) ht; rwa [hs] at this)
    rw [hs, h1, mid_extract]
  | w :: v :: l, p, t, W, hw, _, ht, h => by
    have hw1 := hw w List.mem_cons_self
    have hj : p ++ joinSp (w :: v :: l) = (p ++ w ++ ⟨#[32]⟩) ++ joinSp (v :: l) := by simp only [joinSp, tailSp, ByteArray.append_assoc]
    have hj2 : p ++ joinSp (w :: v :: l) ++ t = p ++ w ++ (tailSp (v :: l) ++ t) := by simp only [joinSp, ByteArray.append_assoc]
    have hj3 : tailSp (v :: l) ++ t = ⟨#[32]⟩ ++ (v ++ tailSp l ++ t) := by simp only [tailSp, ByteArray.append_assoc]
    have hs : (p ++ w).size = p.size + w.size := ByteArray.size_append ..
    have hz : (p ++ w ++ (⟨#[32]⟩ : ByteArray)).size = p.size + w.size + 1 := by rw [ByteArray.size_append, hs]; rfl
    have h1 := words_run (e := p.size + w.size) h (by have := hw1.1; omega) (fun j h1 h2 => by rw [hj2]; exact mid_black hw1 h1 h2) (by
      have := blank_end (p := p ++ w) (t := tailSp (v :: l) ++ t) (Or.inr ⟨_, hj3⟩)
      rw [hs] at this
      rw [hj2]
      exact this)
    have h2 := words_join2 (v :: l) (p ++ w ++ ⟨#[32]⟩) t (W ++ [w]) (fun u hu => hw u (List.mem_cons_of_mem _ hu)) (by simp) ht (by
      rw [← hj, hz, h1]
      congr 3
      rw [hj2]
      exact mid_extract p w _)
    rw [← hj] at h2
    rw [h2]
    simp
theorem parts_of {s : ByteArray} {ws : List ByteArray} (h : wordsTo s (s.size + 1) = (ws, s.size + 1)) (hs : s.size ≤ 600) (hb : s.data.toList.all okB = true) (hl : ws.length ≤ 12) : parts s = some ws := by
  unfold parts
  rw [if_neg (by omega), if_pos hb, h, if_neg (by simp only; omega)]
theorem blank_head (t : ByteArray) : blank (⟨#[32]⟩ ++ t) 0 = true := by
  unfold blank
  rw [Bool.or_eq_true]
  right
  rw [decide_eq_true_eq, app_list]
  rfl
theorem blank_next (t : ByteArray) : blank (⟨#[32, 32]⟩ ++ t) 0 = true ∧ blank (⟨#[32, 32]⟩ ++ t) 1 = true := by
  constructor <;>
  · unfold blank
    rw [Bool.or_eq_true]
    right
    rw [decide_eq_true_eq, app_list]
    rfl
theorem parts_one {ws : List ByteArray} (h : ∀ w ∈ ws, Word w) (hne : ws ≠ []) (hs : (joinSp ws).size ≤ 500) (hb : (joinSp ws).data.toList.all okB = true) (hl : ws.length ≤ 12) : parts (⟨#[32]⟩ ++ joinSp ws) = some ws := by
  have h0 : wordsTo (⟨#[32]⟩ ++ joinSp ws ++ ⟨#[]⟩) 1 = ([], 1) := by
    rw [ba_app_nil]
    exact words_skip (b := 0) rfl (blank_head _) (by omega)
  have h1 := words_join2 ws ⟨#[32]⟩ ⟨#[]⟩ [] h hne (Or.inl rfl) h0
  rw [ba_app_nil, List.nil_append] at h1
  refine parts_of h1 ?_ (ok_app (by decide +kernel) hb) hl
  rw [ByteArray.size_append]
  have : (⟨#[32]⟩ : ByteArray).size = 1 := rfl
  omega
theorem parts_both {ws : List ByteArray} (h : ∀ w ∈ ws, Word w) (hne : ws ≠ []) (hs : (joinSp ws).size ≤ 500) (hb : (joinSp ws).data.toList.all okB = true) (hl : ws.length ≤ 12) : parts (⟨#[32, 32]⟩ ++ joinSp ws ++ ⟨#[32]⟩) = some ws := by
  have hb1 := blank_next (joinSp ws ++ ⟨#[32]⟩)
  rw [← ByteArray.append_assoc] at hb1
  have h0 : wordsTo (⟨#[32, 32]⟩ ++ joinSp ws ++ ⟨#[32]⟩) 2 = ([], 2) := words_skip (words_skip (b := 0) rfl hb1.1 (by omega)) hb1.2 (by omega)
  have h1 := words_join2 ws ⟨#[32, 32]⟩ ⟨#[32]⟩ [] h hne (Or.inr ⟨⟨#[]⟩, (ba_app_nil _).symm⟩) h0
  rw [List.nil_append] at h1
  have hz : (⟨#[32, 32]⟩ ++ joinSp ws ++ ⟨#[32]⟩ : ByteArray).size = (⟨#[32, 32]⟩ ++ joinSp ws : ByteArray).size + 1 := by rw [ByteArray.size_append]; rfl
  have hz2 : (⟨#[32, 32]⟩ ++ joinSp ws : ByteArray).size = 2 + (joinSp ws).size := by rw [ByteArray.size_append]; rfl
  rw [← hz] at h1
  refine parts_of (words_skip h1 (by unfold blank; simp) (by omega)) (by omega) (ok_app (ok_app (by decide +kernel) hb) (by decide +kernel)) hl

theorem actName_word : ∀ i : Fin 17, (actName ((i.val : Int) + 1)).size ≠ 0 ∧ (∀ c ∈ (actName ((i.val : Int) + 1)).data.toList, c ≠ 32) ∧ (actName ((i.val : Int) + 1)).data.toList.all okB = true := by decide +kernel
theorem tail_ok : ∀ l : List ByteArray, (∀ w ∈ l, w.data.toList.all okB = true) → (tailSp l).data.toList.all okB = true
  | [], _ => rfl
  | w :: l, h => by
    rw [tailSp]
    exact ok_app (ok_app (by decide +kernel) (h w List.mem_cons_self)) (tail_ok l fun v hv => h v (List.mem_cons_of_mem _ hv))
theorem tail_size : ∀ l : List ByteArray, (∀ w ∈ l, w.size ≤ 10) → (tailSp l).size ≤ 11 * l.length
  | [], _ => Nat.le_refl _
  | w :: l, h => by
    have h1 := h w List.mem_cons_self
    have h2 := tail_size l fun v hv => h v (List.mem_cons_of_mem _ hv)
    rw [tailSp, ByteArray.size_append, ByteArray.size_append, List.length_cons]
    have : (⟨#[32]⟩ : ByteArray).size = 1 := rfl
    omega

theorem go_in {uses : List UInt8} {c : UInt8} {n : Int} {l : List (UInt8 × Int)} {s : ByteArray} (h : lineGo uses ((c, n) :: l) s ≠ ⟨#[]⟩) : (if uses.contains c = true then inR n 0 1000000000 = true else n = 0) ∧ ∃ t, lineGo uses l t ≠ ⟨#[]⟩ := by
  unfold lineGo at h
  split at h
  · rename_i h1
    rw [if_pos h1]
    split at h
    · rename_i h2
      exact ⟨h2, _, h⟩
    · exact absurd rfl h
  · rename_i h1
    rw [if_neg h1]
    split at h
    · exact absurd rfl h
    · rename_i h2
      exact ⟨Classical.byContradiction h2, _, h⟩
theorem nat_of {b : Bool} {n : Int} (h : if b = true then inR n 0 1000000000 = true else n = 0) : ∃ m : Nat, n = m ∧ m ≤ 1000000000 ∧ (b = false → m = 0) := by
  refine ⟨n.toNat, ?_⟩
  cases b
  · simp only [Bool.false_eq_true, if_false] at h
    subst h
    simp
  · simp only [if_true, inR, Bool.and_eq_true, decide_eq_true_eq] at h
    exact ⟨by omega, by omega, fun e => by cases e⟩
abbrev numsOf (k : Int) (m g x y z : Nat) : List ByteArray := (actUses k).data.toList.map fun c => if c = 109 then dec (m : Int) else if c = 103 then dec (g : Int) else if c = 120 then dec (x : Int) else if c = 121 then dec (y : Int) else dec (z : Int)
theorem actLine_words {a : VAct} (h : actLine a ≠ ⟨#[]⟩) : inR a.Kind 1 17 = true ∧ ∃ m g x y z : Nat, (m ≤ 1000000000 ∧ g ≤ 1000000000 ∧ x ≤ 1000000000 ∧ y ≤ 1000000000 ∧ z ≤ 1000000000) ∧
    a = fillTo a.Kind (numsOf a.Kind m g x y z) (actUses a.Kind).size := by
  obtain ⟨k, M, G, X, Y, Z⟩ := a
  unfold actLine at h
  split at h
  case isFalse => exact absurd rfl h
  rename_i hk
  refine ⟨hk, ?_⟩
  simp only at hk
  obtain ⟨h1, s1, h⟩ := go_in h
  obtain ⟨h2, s2, h⟩ := go_in h
  obtain ⟨h3, s3, h⟩ := go_in h
  obtain ⟨h4, s4, h⟩ := go_in h
  obtain ⟨h5, s5, h⟩ := go_in h
  simp only at h1 h2 h3 h4 h5
  obtain ⟨m, rfl, hm, em⟩ := nat_of h1
  obtain ⟨g, rfl, hg, eg⟩ := nat_of h2
  obtain ⟨x, rfl, hx, ex⟩ := nat_of h3
  obtain ⟨y, rfl, hy, ey⟩ := nat_of h4
  obtain ⟨z, rfl, hz, ez⟩ := nat_of h5
  refine ⟨m, g, x, y, z, ⟨hm, hg, hx, hy, hz⟩, ?_⟩
  clear h h1 h2 h3 h4 h5
  unfold usesL at em eg ex ey ez
  simp only at em eg ex ey ez ⊢
  rcases in17 hk with rfl | rfl | rfl | rfl | rfl | rfl | rfl | rfl | rfl | rfl | rfl | rfl | rfl | rfl | rfl | rfl | rfl <;>
    (simp [actUses] at em eg ex ey ez; simp [actUses, lit_size, fillTo, setF, numAt, numOf, readDec_dec hm, readDec_dec hg, readDec_dec hx, readDec_dec hy, readDec_dec hz, *])
theorem numsOf_dec {k : Int} {m g x y z : Nat} (h : m ≤ 1000000000 ∧ g ≤ 1000000000 ∧ x ≤ 1000000000 ∧ y ≤ 1000000000 ∧ z ≤ 1000000000) : ∀ w ∈ numsOf k m g x y z, ∃ n : Nat, w = dec (n : Int) ∧ n ≤ 1000000000 := fun w hw => by
  obtain ⟨c, _, rfl⟩ := List.mem_map.1 hw
  repeat' split
  · exact ⟨_, rfl, h.1⟩
  · exact ⟨_, rfl, h.2.1⟩
  · exact ⟨_, rfl, h.2.2.1⟩
  · exact ⟨_, rfl, h.2.2.2.1⟩
  · exact ⟨_, rfl, h.2.2.2.2⟩
theorem actLine_split {a : VAct} (h : actLine a ≠ ⟨#[]⟩) : ∃ ws : List ByteArray, actLine a = joinSp (actName a.Kind :: ws) ∧ (∀ w ∈ actName a.Kind :: ws, Word w) ∧ (joinSp (actName a.Kind :: ws)).size ≤ 61 ∧ (joinSp (actName a.Kind :: ws)).data.toList.all okB = true ∧
    ws.length ≤ 5 ∧ ∀ s, parts s = some (actName a.Kind :: ws) → readAct s = some a := by
  obtain ⟨hk, m, g, x, y, z, hb, ha⟩ := actLine_words h
  have hk1 : 1 ≤ a.Kind ∧ a.Kind ≤ 17 := by simpa [inR] using hk
  have ht : actTo (actName a.Kind) 17 = a.Kind := actTo_name hk1.1 hk1.2 rfl
  have hd := numsOf_dec (k := a.Kind) hb
  have hl : (numsOf a.Kind m g x y z).length = (actUses a.Kind).size := by rw [List.length_map]; exact size_list _
  have hu := uses_size a.Kind
  have hall : ((numsOf a.Kind m g x y z).all fun v => (readDec v).isSome) = true := by
    rw [List.all_eq_true]
    intro w hw
    obtain ⟨n, rfl, hn⟩ := hd w hw
    rw [readDec_dec hn]
    rfl
  have hblack : ∀ v ∈ numsOf a.Kind m g x y z, ∀ c ∈ v.data.toList, c ≠ 32 := fun w hw => by
    obtain ⟨n, rfl, hn⟩ := hd w hw
    exact dec_black n
  have hw := actName_word ⟨(a.Kind - 1).toNat, by omega⟩
  simp only at hw
  rw [show (((a.Kind - 1).toNat : Nat) : Int) + 1 = a.Kind by omega] at hw
  have e := (actLine_back (w := actName a.Kind) hblack (by rw [ht]; omega)).2 (by rw [ht]; exact ⟨hl, hall⟩)
  rw [ht, ← ha] at e
  refine ⟨_, e, fun w hw' => ?_, ?_, ?_, by omega, fun s hs => ?_⟩
  · rcases List.mem_cons.1 hw' with rfl | h1
    · exact ⟨hw.1, hw.2.1⟩
    · obtain ⟨n, rfl, hn⟩ := hd w h1
      exact word_dec hn
  · have h1 := tail_size _ fun w hw => by obtain ⟨n, rfl, hn⟩ := hd w hw; exact (dec_small hn).2
    have h2 := actName_size a.Kind
    rw [joinSp, ByteArray.size_append]
    omega
  · rw [joinSp]
    exact ok_app hw.2.2 (tail_ok _ fun w hw => by obtain ⟨n, rfl, hn⟩ := hd w hw; exact ok_dec n)
  · rw [readAct_two hs, ht, if_pos ⟨by omega, hl, hall⟩, hl, ← ha]
theorem actLine_small (a : VAct) : (actLine a).size ≤ 61 := by
  by_cases h : actLine a = ⟨#[]⟩
  · rw [h]; decide
  · obtain ⟨ws, e, _, h1, _⟩ := actLine_split h
    rw [e]
    exact h1
theorem readAct_pad (a : VAct) : readAct (⟨#[32, 32]⟩ ++ actLine a ++ ⟨#[32]⟩) = if actLine a = ⟨#[]⟩ then none else some a := by
  by_cases h : actLine a = ⟨#[]⟩
  · rw [if_pos h, h]
    have hp : parts (⟨#[32, 32]⟩ ++ ⟨#[]⟩ ++ ⟨#[32]⟩) = some [] := by decide +kernel
    exact readAct_none fun a l e => by rw [hp] at e; cases e
  · rw [if_neg h]
    obtain ⟨ws, e, hw, h1, h2, h3, h4⟩ := actLine_split h
    rw [e]
    exact h4 _ (parts_both hw (by simp) (by omega) h2 (by simp; omega))
theorem insLine_small (i : VIns) : (insLine i).size ≤ 30 := by
  by_cases h : insOk i = true
  · have hx : 0 ≤ i.X ∧ i.X ≤ 1000000000 := by
      unfold insOk at h
      repeat' split at h
      all_goals first | (simp only [inR, Bool.and_eq_true, decide_eq_true_eq] at h; omega) | (simp only [decide_eq_true_eq] at h; omega) | cases h
    obtain ⟨n, hn⟩ := Int.eq_ofNat_of_zero_le hx.1
    have hds := dec_small (n := n) (by omega)
    have hsz := opName_size i.Op
    unfold insLine
    rw [if_pos h, hn, ByteArray.size_append, ByteArray.size_append]
    have : (⟨#[32]⟩ : ByteArray).size = 1 := rfl
    omega
  · rw [insLine_bad h]
    decide
theorem readIns_pad (i : VIns) : readIns (⟨#[32]⟩ ++ insLine i) = if insLine i = ⟨#[]⟩ then none else some i := by
  by_cases h : insOk i = true
  · rw [if_neg (insLine_ne h)]
    have ho := insOk_op h
    have hw := opName_word ⟨(i.Op - 1).toNat, by omega⟩
    simp only at hw
    rw [show (((i.Op - 1).toNat : Nat) : Int) + 1 = i.Op by omega] at hw
    have hx : 0 ≤ i.X ∧ i.X ≤ 1000000000 := by
      have h := h
      unfold insOk at h
      repeat' split at h
      all_goals first | (simp only [inR, Bool.and_eq_true, decide_eq_true_eq] at h; omega) | (simp only [decide_eq_true_eq] at h; omega) | cases h
    obtain ⟨n, hn⟩ := Int.eq_ofNat_of_zero_le hx.1
    have hn1 : n ≤ 1000000000 := by omega
    have hl : insLine i = joinSp [opName i.Op, dec (n : Int)] := by
      unfold insLine
      rw [if_pos h, joinSp_two, hn]
    have hs := insLine_small i
    rw [hl] at hs
    have hp : parts (⟨#[32]⟩ ++ insLine i) = some [opName i.Op, dec (n : Int)] := by
      rw [hl]
      refine parts_one (fun w hw' => ?_) (by simp) (by omega) ?_ (by simp)
      · simp only [List.mem_cons, List.not_mem_nil, or_false] at hw'
        rcases hw' with rfl | rfl
        · exact ⟨hw.1, hw.2.1⟩
        · exact word_dec hn1
      · rw [joinSp_two]
        exact ok_app (ok_app hw.2.2 (by decide +kernel)) (ok_dec n)
    rw [readIns_two hp]
    have hop : opTo (opName i.Op) 8 = i.Op := opTo_name (by omega) (by omega) rfl
    have hnum : numOf (dec (n : Int)) = n := by unfold numOf; rw [readDec_dec hn1]; rfl
    have e : (⟨opTo (opName i.Op) 8, numOf (dec (n : Int))⟩ : VIns) = i := by
      rw [hop, hnum, ← hn]
    rw [e, if_pos ⟨by rw [readDec_dec hn1]; rfl, h⟩]
  · rw [insLine_bad h, if_pos rfl]
    have hp : parts (⟨#[32]⟩ ++ ⟨#[]⟩) = some [] := by decide +kernel
    exact readIns_none fun a b e => by rw [hp] at e; cases e
end Go.Proofs.YtdlpmcjpbcbbjaaDoor.T
