/- Words joined by spaces are parted again; instructions come back from their lines. No condition. -/
import Derived.Test.YtfiakjbnfaaamaaDoorWo
namespace Go.Proofs.YtfiakjbnfaaamaaDoor.T
open Go
set_option linter.unusedVariables false
set_option linter.unusedSimpArgs false
set_option maxRecDepth 100000

theorem words_run {s : ByteArray} {W : List ByteArray} {b e : Nat} (h : wordsTo s b = (W, b)) (hlt : b < e) (hbl : ∀ j, b ≤ j → j < e → blank s j = false) (he : blank s e = true) : wordsTo s (e + 1) = (W ++ [s.extract b e], e + 1) := by
  have key : ∀ d, b + d ≤ e → wordsTo s (b + d) = (W, b) := fun d => by
    induction d with
    | zero => intro _; exact h
    | succ d ih =>
      intro hd
      exact words_stay (ih (by omega)) (hbl (b + d) (by omega) (by omega))
  have h1 := key (e - b) (by omega)
  rw [show b + (e - b) = e by omega] at h1
  exact words_add h1 he hlt
theorem app_list (a b : ByteArray) : (a ++ b).data.toList = a.data.toList ++ b.data.toList := by simp [ByteArray.data_append]
theorem size_list (a : ByteArray) : a.data.toList.length = a.size := by rw [Array.length_toList]; rfl
theorem mid_extract (p w t : ByteArray) : (p ++ w ++ t).extract p.size (p.size + w.size) = w := by
  apply ByteArray.ext
  apply Array.ext'
  rw [ByteArray.data_extract, Array.toList_extract, List.extract_eq_take_drop, app_list, app_list, List.append_assoc, ← size_list p, ← size_list w]
  rw [List.drop_left, Nat.add_sub_cancel_left, List.take_left]
theorem mid_black {p w t : ByteArray} (hw : Word w) {j : Nat} (h1 : p.size ≤ j) (h2 : j < p.size + w.size) : blank (p ++ w ++ t) j = false := by
  have hl : (p ++ w ++ t).size = p.size + w.size + t.size := by rw [ByteArray.size_append, ByteArray.size_append]
  have hj : j - p.size < w.data.toList.length := by rw [size_list]; omega
  unfold blank
  rw [Bool.or_eq_false_iff]
  refine ⟨by rw [decide_eq_false_iff_not, hl]; omega, ?_⟩
  rw [decide_eq_false_iff_not, app_list, app_list, List.append_assoc, List.getElem?_append_right (by rw [size_list]; exact h1), List.getElem?_append_left (by rw [size_list]; exact hj), size_list, List.getElem?_eq_getElem hj]
  intro e
  exact hw.2 _ (List.getElem_mem hj) (Option.some.inj e)
theorem words_join : ∀ (ws : List ByteArray) (p : ByteArray) (W : List ByteArray), (∀ w ∈ ws, Word w) → ws ≠ [] → wordsTo (p ++ joinSp ws) p.size = (W, p.size) → wordsTo (p ++ joinSp ws) ((p ++ joinSp ws).size + 1) = (W ++ ws, (p ++ joinSp ws).size + 1)
  | [], _, _, _, h, _ => absurd rfl h
  | [w], p, W, hw, _, h => by
    have hw1 := hw w List.mem_cons_self
    rw [joinSp_one] at h ⊢
    have hn : p ++ w = p ++ w ++ ⟨#[]⟩ := (ba_app_nil _).symm
    have hs : (p ++ w).size = p.size + w.size := ByteArray.size_append ..
    have h1 := words_run (e := p.size + w.size) h (by have := hw1.1; omega) (fun j h1 h2 => by rw [hn]; exact mid_black hw1 h1 h2) (by unfold blank; rw [hs]; simp)
    rw [hs, h1]
    congr 3
    rw [hn]
    exact mid_extract p w _
  | w :: v :: l, p, W, hw, _, h => by
    have hw1 := hw w List.mem_cons_self
    have hj : p ++ joinSp (w :: v :: l) = (p ++ w ++ ⟨#[32]⟩) ++ joinSp (v :: l) := by simp only [joinSp, tailSp, ByteArray.append_assoc]
    have hj2 : p ++ joinSp (w :: v :: l) = p ++ w ++ tailSp (v :: l) := by simp only [joinSp, ByteArray.append_assoc]
    have hz : (p ++ w ++ (⟨#[32]⟩ : ByteArray)).size = p.size + w.size + 1 := by rw [ByteArray.size_append, ByteArray.size_append]; rfl
    have h1 := words_run (e := p.size + w.size) h (by have := hw1.1; omega) (fun j h1 h2 => by rw [hj2]; exact mid_black hw1 h1 h2) (by
      unfold blank
      rw [Bool.or_eq_true]
      right
      rw [decide_eq_true_eq, hj, app_list, List.getElem?_append_left (by rw [size_list, hz]; omega), app_list, List.getElem?_append_right (by rw [size_list, ByteArray.size_append]; omega), size_list, ByteArray.size_append]
      simp)
    have h2 := words_join (v :: l) (p ++ w ++ ⟨#[32]⟩) (W ++ [w]) (fun u hu => hw u (List.mem_cons_of_mem _ hu)) (by simp) (by
      rw [← hj, hz, h1]
      congr 3
      rw [hj2]
      exact mid_extract p w _)
    rw [← hj] at h2
    rw [h2]
    simp
theorem parts_join {ws : List ByteArray} (h : ∀ w ∈ ws, Word w) (hne : ws ≠ []) (hs : (joinSp ws).size ≤ 600) (hb : (joinSp ws).data.toList.all okB = true) (hl : ws.length ≤ 12) : parts (joinSp ws) = some ws := by
  have h1 := words_join ws ⟨#[]⟩ [] h hne rfl
  rw [ba_nil_app, List.nil_append] at h1
  unfold parts
  rw [if_neg (by omega), if_pos hb, h1, if_neg (by simp only; omega)]
theorem ok_app {a b : ByteArray} (h1 : a.data.toList.all okB = true) (h2 : b.data.toList.all okB = true) : (a ++ b).data.toList.all okB = true := by
  rw [app_list, List.all_append, h1, h2]
  rfl
theorem ok_dec (n : Nat) : (dec (n : Int)).data.toList.all okB = true := by
  rw [List.all_eq_true]
  intro c hc
  rw [dec_nat] at hc
  obtain ⟨k, hk⟩ := List.getElem?_of_mem hc
  obtain ⟨d, hd⟩ := Lib.digit_of_decFrom _ _ _ (decFrom_digits n) k c hk
  unfold Lib.digitVal at hd
  split at hd
  · simp [okB, inR]; omega
  · cases hd
theorem word_dec {n : Nat} (h : n ≤ 1000000000) : Word (dec (n : Int)) := ⟨by have := dec_small h; omega, dec_black n⟩
theorem opName_word : ∀ i : Fin 8, (opName ((i.val : Int) + 1)).size ≠ 0 ∧ (∀ c ∈ (opName ((i.val : Int) + 1)).data.toList, c ≠ 32) ∧ (opName ((i.val : Int) + 1)).data.toList.all okB = true := by decide +kernel
theorem readIns_back {i : VIns} (h : insOk i = true) : readIns (insLine i) = some i := by
  have ho := insOk_op h
  have hw := opName_word ⟨(i.Op - 1).toNat, by omega⟩
  simp only at hw
  rw [show (((i.Op - 1).toNat : Nat) : Int) + 1 = i.Op by omega] at hw
  have hx : 0 ≤ i.X ∧ i.X ≤ 1000000000 := by
    unfold insOk at h
    repeat' split at h
    all_goals first | (simp only [inR, Bool.and_eq_true, decide_eq_true_eq] at h; omega) | (simp only [decide_eq_true_eq] at h; omega) | cases h
  obtain ⟨n, hn⟩ := Int.eq_ofNat_of_zero_le hx.1
  have hn1 : n ≤ 1000000000 := by omega
  have hl : insLine i = joinSp [opName i.Op, dec (n : Int)] := by
    unfold insLine
    rw [if_pos h, joinSp_two, hn]
  have hsz := opName_size i.Op
  have hds := dec_small hn1
  have hp : parts (insLine i) = some [opName i.Op, dec (n : Int)] := by
    rw [hl]
    refine parts_join (fun w hw' => ?_) (by simp) ?_ ?_ (by simp)
    · simp only [List.mem_cons, List.not_mem_nil, or_false] at hw'
      rcases hw' with rfl | rfl
      · exact ⟨hw.1, hw.2.1⟩
      · exact word_dec hn1
    · rw [joinSp_two, ByteArray.size_append, ByteArray.size_append]
      have : (⟨#[32]⟩ : ByteArray).size = 1 := rfl
      omega
    · rw [joinSp_two]
      exact ok_app (ok_app hw.2.2 (by decide +kernel)) (ok_dec n)
  rw [readIns_two hp]
  have hop : opTo (opName i.Op) 8 = i.Op := opTo_name (by omega) (by omega) rfl
  have hnum : numOf (dec (n : Int)) = n := by unfold numOf; rw [readDec_dec hn1]; rfl
  have e : (⟨opTo (opName i.Op) 8, numOf (dec (n : Int))⟩ : VIns) = i := by
    rw [hop, hnum, ← hn]
  rw [e, if_pos ⟨by rw [readDec_dec hn1]; rfl, h⟩]
end Go.Proofs.YtfiakjbnfaaamaaDoor.T
