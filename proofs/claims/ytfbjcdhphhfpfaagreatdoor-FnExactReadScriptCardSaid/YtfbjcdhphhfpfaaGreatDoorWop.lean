/- Actions read from a line: what both sides compute, in plain Lean. No condition. -/
import Derived.Test.YtfbjcdhphhfpfaaGreatDoorWgp
import Derived.Test.YtfbjcdhphhfpfaaGreatDoorWlp
namespace Go.Proofs.YtfbjcdhphhfpfaaGreatDoor.T
open Go
set_option linter.unusedVariables false
set_option linter.unusedSimpArgs false
set_option maxRecDepth 100000

theorem tailSp_list : ∀ l : List ByteArray, (tailSp l).data.toList = l.flatMap fun w => 32 :: w.data.toList
  | [] => rfl
  | w :: l => by simp only [tailSp, ByteArray.data_append, Array.toList_append, tailSp_list l, List.flatMap_cons]; rfl
theorem tw_app {w r : List UInt8} (hw : ∀ c ∈ w, c ≠ 32) (hr : r = [] ∨ ∃ t, r = 32 :: t) : (w ++ r).takeWhile (fun c => decide (c ≠ 32)) = w := by
  induction w with
  | nil =>
    rcases hr with rfl | ⟨t, rfl⟩
    · rfl
    · simp
  | cons c w ih =>
    rw [List.cons_append, List.takeWhile_cons_of_pos (by simpa using hw c List.mem_cons_self), ih fun d hd => hw d (List.mem_cons_of_mem _ hd)]
theorem flat_head (l : List ByteArray) : (l.flatMap fun w => 32 :: w.data.toList) = [] ∨ ∃ t, (l.flatMap fun w => 32 :: w.data.toList) = 32 :: t := by
  cases l with
  | nil => exact .inl rfl
  | cons w l => exact .inr ⟨_, by rw [List.flatMap_cons]; rfl⟩
theorem flat_inj : ∀ (l m : List ByteArray), (∀ w ∈ l, ∀ c ∈ w.data.toList, c ≠ 32) → (∀ w ∈ m, ∀ c ∈ w.data.toList, c ≠ 32) → (l.flatMap fun w => 32 :: w.data.toList) = (m.flatMap fun w => 32 :: w.data.toList) → l = m
  | [], [], _, _, _ => rfl
  | [], w :: m, _, _, h => by simp at h
  | w :: l, [], _, _, h => by simp at h
  | w :: l, v :: m, hl, hm, h => by
    simp only [List.flatMap_cons, List.cons_append, List.cons.injEq, true_and] at h
    have h1 := tw_app (hl w List.mem_cons_self) (flat_head l)
    have h2 := tw_app (hm v List.mem_cons_self) (flat_head m)
    rw [h, h2] at h1
    have e : v = w := ByteArray.ext (Array.ext' h1)
    subst e
    rw [flat_inj l m (fun w hw => hl w (List.mem_cons_of_mem _ hw)) (fun w hw => hm w (List.mem_cons_of_mem _ hw)) (List.append_cancel_left h)]
theorem tailSp_inj {l m : List ByteArray} (hl : ∀ w ∈ l, ∀ c ∈ w.data.toList, c ≠ 32) (hm : ∀ w ∈ m, ∀ c ∈ w.data.toList, c ≠ 32) (h : tailSp l = tailSp m) : l = m :=
  flat_inj l m hl hm (by rw [← tailSp_list, ← tailSp_list, h])
theorem dec_black (n : Nat) : ∀ c ∈ (dec (n : Int)).data.toList, c ≠ 32 := fun c hc e => by
  rw [dec_nat] at hc
  obtain ⟨k, hk⟩ := List.getElem?_of_mem hc
  obtain ⟨d, hd⟩ := Lib.digit_of_decFrom _ _ _ (decFrom_digits n) k c hk
  subst e
  revert hd
  simp [Lib.digitVal]

/-- The action that a word names, 0 if none. -/
def actTo (w : ByteArray) : Nat → Int
  | 0 => 0
  | k + 1 => if actName ((k : Int) + 1) = w then (k : Int) + 1 else actTo w k
theorem actTo_in (w : ByteArray) : ∀ k, 0 ≤ actTo w k ∧ actTo w k ≤ k ∧ (actTo w k ≠ 0 → actName (actTo w k) = w)
  | 0 => ⟨Int.le_refl _, Int.le_refl _, fun h => absurd rfl h⟩
  | k + 1 => by
    have := actTo_in w k
    unfold actTo
    split
    · rename_i h
      exact ⟨by omega, by omega, fun _ => h⟩
    · exact ⟨this.1, by omega, this.2.2⟩
theorem actName_inj : ∀ i : Fin 17, actTo (actName ((i.val : Int) + 1)) 17 = (i.val : Int) + 1 := by decide +kernel
theorem actTo_name {w : ByteArray} {op : Int} (h1 : 1 ≤ op) (h2 : op ≤ 17) (h : actName op = w) : actTo w 17 = op := by
  have := actName_inj ⟨(op - 1).toNat, by omega⟩
  simp only at this
  rw [show (((op - 1).toNat : Nat) : Int) + 1 = op by omega, h] at this
  exact this
def setF (c : UInt8) (n : Int) (a : VAct) : VAct := if c = 109 then { a with M := n } else if c = 103 then { a with G := n } else if c = 120 then { a with X := n } else if c = 121 then { a with Y := n } else { a with Z := n }
theorem numAt_nat (ws : List ByteArray) (j : Nat) : ∃ n : Nat, numAt ws j = (n : Int) ∧ n ≤ 1000000000 := by
  unfold numAt
  split
  · exact ⟨_, rfl, numOf_le _⟩
  · exact ⟨0, rfl, by omega⟩
theorem numAt_in (ws : List ByteArray) (j : Nat) : inR (numAt ws j) 0 1000000000 = true := by
  obtain ⟨n, h1, h2⟩ := numAt_nat ws j
  rw [h1]
  simp [inR]
  omega
/-- The action, filled from the words behind the name. -/
def fillTo (k : Int) (ws : List ByteArray) : Nat → VAct
  | 0 => ⟨k, 0, 0, 0, 0, 0⟩
  | j + 1 => setF (((actUses k).data.toList[j]?).getD 0) (numAt ws j) (fillTo k ws j)
theorem setF_kind (c : UInt8) (n : Int) (a : VAct) : (setF c n a).Kind = a.Kind := by
  unfold setF
  repeat' split
  all_goals rfl
theorem fillTo_kind (k : Int) (ws : List ByteArray) : ∀ j, (fillTo k ws j).Kind = k
  | 0 => rfl
  | j + 1 => by rw [fillTo, setF_kind, fillTo_kind]
theorem in17 {k : Int} (h : inR k 1 17 = true) : k = 1 ∨ k = 2 ∨ k = 3 ∨ k = 4 ∨ k = 5 ∨ k = 6 ∨ k = 7 ∨ k = 8 ∨ k = 9 ∨ k = 10 ∨ k = 11 ∨ k = 12 ∨ k = 13 ∨ k = 14 ∨ k = 15 ∨ k = 16 ∨ k = 17 := by
  simp only [inR, Bool.and_eq_true, decide_eq_true_eq] at h
  omega
theorem actLine_fill {k : Int} (h : inR k 1 17 = true) (ws : List ByteArray) :
    actLine (fillTo k ws (actUses k).size) = actName k ++ tailSp ((List.range (actUses k).size).map fun j => dec (numAt ws j)) := by
  have hn := numAt_in ws
  rcases in17 h with rfl | rfl | rfl | rfl | rfl | rfl | rfl | rfl | rfl | rfl | rfl | rfl | rfl | rfl | rfl | rfl | rfl <;>
    simp [actLine, usesL, actUses, fillTo_kind, h, lit_size, fillTo, setF, actPairs, lineGo, hn, List.range_succ, tailSp, ba_app_nil, ByteArray.append_assoc]
def readAct (s : ByteArray) : Option VAct := match parts s with
  | some (w :: ws) => if actTo w 17 ≠ 0 ∧ ws.length = (actUses (actTo w 17)).size ∧ (ws.all fun v => (readDec v).isSome) = true then some (fillTo (actTo w 17) ws ws.length) else none
  | _ => none
/-- The reference's question is the program's. -/
theorem actLine_back {w : ByteArray} {ws : List ByteArray} (hw : ∀ v ∈ ws, ∀ c ∈ v.data.toList, c ≠ 32) (h : actTo w 17 ≠ 0) :
    actLine (fillTo (actTo w 17) ws (actUses (actTo w 17)).size) = joinSp (w :: ws) ↔ ws.length = (actUses (actTo w 17)).size ∧ (ws.all fun v => (readDec v).isSome) = true := by
  have h1 := actTo_in w 17
  have hk : inR (actTo w 17) 1 17 = true := by simp only [inR, Bool.and_eq_true, decide_eq_true_eq]; omega
  rw [actLine_fill hk, h1.2.2 h, joinSp]
  have key : ∀ m, ws.length = m → (((List.range m).map fun j => dec (numAt ws j)) = ws ↔ (ws.all fun v => (readDec v).isSome) = true) := fun m hm => by
    subst hm
    rw [List.all_eq_true]
    constructor
    · intro e v hv
      obtain ⟨j, hj⟩ := List.getElem?_of_mem hv
      have hj' := (List.getElem?_eq_some_iff.1 hj).1
      have e2 := congrArg (fun l => l[j]?) e
      simp only [List.getElem?_map, List.getElem?_range hj', Option.map_some, hj, Option.some.injEq] at e2
      unfold numAt at e2
      rw [hj] at e2
      exact (numOf_iff v).1 e2
    · intro hall
      apply List.ext_getElem?
      intro j
      rw [List.getElem?_map]
      by_cases hj : j < ws.length
      · have hg := List.getElem?_eq_getElem hj
        rw [List.getElem?_range hj, Option.map_some, hg]
        unfold numAt
        rw [hg]
        exact congrArg some ((numOf_iff _).2 (hall _ (List.getElem_mem hj)))
      · rw [List.getElem?_eq_none (by simpa using hj), List.getElem?_eq_none (by omega)]
        rfl
  constructor
  · intro e
    have e2 := tailSp_inj (fun v hv c hc => by
      obtain ⟨j, _, rfl⟩ := List.mem_map.1 hv
      obtain ⟨n, hn, _⟩ := numAt_nat ws j
      rw [hn] at hc
      exact dec_black n c hc) hw (ba_cancel e)
    have hl : ws.length = (actUses (actTo w 17)).size := by rw [← e2]; simp
    exact ⟨hl, (key _ hl).1 e2⟩
  · rintro ⟨hl, hall⟩
    rw [(key _ hl).2 hall]
theorem actLine_ne {w : ByteArray} {ws : List ByteArray} (h : actTo w 17 ≠ 0) : actLine (fillTo (actTo w 17) ws (actUses (actTo w 17)).size) ≠ ⟨#[]⟩ := by
  have h1 := actTo_in w 17
  have hk : inR (actTo w 17) 1 17 = true := by simp only [inR, Bool.and_eq_true, decide_eq_true_eq]; omega
  rw [actLine_fill hk]
  intro e
  have := congrArg ByteArray.size e
  simp only [ByteArray.size_append, lit_size, List.size_toArray, List.length_nil] at this
  have h0 : (actName (actTo w 17)).size = 0 := by omega
  have hp : ∀ i : Fin 17, (actName ((i.val : Int) + 1)).size ≠ 0 := by decide +kernel
  refine hp ⟨(actTo w 17 - 1).toNat, by omega⟩ ?_
  simp only
  rw [show (((actTo w 17 - 1).toNat : Nat) : Int) + 1 = actTo w 17 by omega]
  exact h0
theorem actLine_zero (ws : List ByteArray) : actLine (fillTo 0 ws (actUses 0).size) = ⟨#[]⟩ := by
  unfold actLine
  rw [fillTo_kind]
  rfl
theorem readAct_none {s : ByteArray} (h : ∀ a l, parts s ≠ some (a :: l)) : readAct s = none := by
  unfold readAct
  split
  · rename_i a l e
    exact absurd e (h a l)
  · rfl
theorem readAct_two {s a : ByteArray} {l : List ByteArray} (h : parts s = some (a :: l)) : readAct s = if actTo a 17 ≠ 0 ∧ l.length = (actUses (actTo a 17)).size ∧ (l.all fun v => (readDec v).isSome) = true then some (fillTo (actTo a 17) l l.length) else none := by
  unfold readAct
  rw [h]
/-- What ReadAct gives: the action, or none and false. -/
abbrev RAct (q : Option VAct) : Res → Prop := RG [.a (rAct (q.getD ⟨0, 0, 0, 0, 0, 0⟩)), .c (.v (.bool q.isSome))]
theorem setF_int (c : UInt8) (n : Int) (a : VAct) : setF c n a = if (c.toNat : Int) = 109 then { a with M := n } else if (c.toNat : Int) = 103 then { a with G := n } else if (c.toNat : Int) = 120 then { a with X := n } else if (c.toNat : Int) = 121 then { a with Y := n } else { a with Z := n } := by
  have e : ∀ d : UInt8, (c = d) = ((c.toNat : Int) = (d.toNat : Int)) := fun d => propext ⟨fun h => by rw [h], fun h => UInt8.toNat_inj.1 (by omega)⟩
  simp only [setF, e]
  rfl
theorem numAt_cons (a : ByteArray) (l : List ByteArray) (j : Nat) : numAt (a :: l) (j + 1) = numAt l j := rfl
theorem fillTo_next {k : Int} {l : List ByteArray} {j : Nat} {c : UInt8} (hc : (actUses k).data.toList[j]? = some c) : fillTo k l (j + 1) = setF c (numAt l j) (fillTo k l j) := by rw [fillTo, hc]; rfl
theorem uses_letter (k : Int) : ∀ c ∈ (actUses k).data.toList, c = 109 ∨ c = 103 ∨ c = 120 ∨ c = 121 ∨ c = 122 := by
  unfold actUses
  repeat' split
  all_goals decide
theorem uses_size (k : Int) : (actUses k).size ≤ 5 := by
  unfold actUses
  repeat' split
  all_goals decide +kernel
theorem numAt_at {l : List ByteArray} {j : Nat} {x : ByteArray} (h : l[j]? = some x) : numAt l j = (numOf x : Int) := by unfold numAt; rw [h]
end Go.Proofs.YtfbjcdhphhfpfaaGreatDoor.T

