/- Scripts of the laws: what reading them gives, in plain Lean. No condition. -/
import Derived.Test.YtfiakjbnfaaamaaDoorYa
import Derived.Test.YtfiakjbnfaaamaaDoorXh
namespace Go.Proofs.YtfiakjbnfaaamaaDoor.T
open Go
set_option linter.unusedVariables false
set_option linter.unusedSimpArgs false
set_option maxRecDepth 100000

theorem lines_nl (a b : ByteArray) (h : ∀ c ∈ a.data.toList, c ≠ 10) : linesOf (a ++ (⟨#[10]⟩ ++ b)) = a :: linesOf b := by
  unfold linesOf
  rw [app_list, app_list, show (⟨#[10]⟩ : ByteArray).data.toList = [10] from rfl, List.singleton_append, cutL_app _ _ h]
  rfl
theorem lines_none : linesOf ⟨#[]⟩ = [⟨#[]⟩] := rfl
/-- Lines, each with its line feed. -/
def textOf : List ByteArray → ByteArray
  | [] => ⟨#[]⟩
  | l :: ls => l ++ (⟨#[10]⟩ ++ textOf ls)
theorem textOf_app : ∀ (a b : List ByteArray), textOf (a ++ b) = textOf a ++ textOf b
  | [], b => (ba_nil_app _).symm
  | l :: ls, b => by rw [List.cons_append, textOf, textOf, textOf_app ls b, ByteArray.append_assoc, ByteArray.append_assoc]
theorem lines_text : ∀ (ls : List ByteArray), (∀ l ∈ ls, ∀ c ∈ l.data.toList, c ≠ 10) → linesOf (textOf ls) = ls ++ [⟨#[]⟩]
  | [], _ => lines_none
  | l :: ls, h => by rw [textOf, lines_nl _ _ (h l List.mem_cons_self), lines_text ls fun x hx => h x (List.mem_cons_of_mem _ hx)]; rfl

/- ONE LINE -/
theorem read_step {l : ByteArray} {ls ws : List ByteArray} {s : VScript} {k : Nat} (hp : parts l = some ws) (hs : skipW ws = false) {r : VScript} (ha : accept s l ws = (r, true)) : readFrom (l :: ls) s k = readFrom ls r (k + 1) := by
  rw [readFrom, hp]
  simp [hs, ha]
theorem read_stop {l : ByteArray} {ls ws : List ByteArray} {s r : VScript} {k : Nat} (hp : parts l = some ws) (hs : skipW ws = false) (ha : accept s l ws = (r, false)) : readFrom (l :: ls) s k = (noScript, (k : Int) + 1) := by
  rw [readFrom, hp]
  simp [hs, ha]
theorem read_pass {l : ByteArray} {ls ws : List ByteArray} {s : VScript} {k : Nat} (hp : parts l = some ws) (hs : skipW ws = true) : readFrom (l :: ls) s k = readFrom ls s (k + 1) := by
  rw [readFrom, hp]
  simp [hs]
theorem parts_mon : parts wMon = some [wMon] := by decide +kernel
theorem parts_gst : parts wGst = some [wGst] := by decide +kernel
theorem parts_nil : parts ⟨#[]⟩ = some [] := by decide +kernel
theorem act_mon : readAct wMon = none := by decide +kernel
theorem act_gst : readAct wGst = none := by decide +kernel
theorem ne_mg : ([wGst] : List ByteArray) ≠ [wMon] := by decide +kernel

/-- The words of an instruction's line. -/
theorem parts_ins {i : VIns} (h : insOk i = true) : ∃ n : Nat, i.X = (n : Int) ∧ n ≤ 1000000000 ∧ parts (insLine i) = some [opName i.Op, dec (n : Int)] := by
  have ho := insOk_op h
  have hw := opName_word ⟨(i.Op - 1).toNat, by omega⟩
  simp only at hw
  rw [show (((i.Op - 1).toNat : Nat) : Int) + 1 = i.Op by omega] at hw
  have hx : 0 ≤ i.X ∧ i.X ≤ 1000000000 := by
    unfold insOk at h
    repeat' split at h
    all_goals first | (simp only [inR, Bool.and_eq_true, decide_eq_true_eq] at h; omega) | (simp only [decide_eq_true_eq] at h; omega) | cases h
  obtain ⟨n, hn⟩ := Int.eq_ofNat_of_zero_le hx.1
  have hn1 : n ≤ 1000000000 := by omega
  have hl : insLine i = joinSp [opName i.Op, dec (n : Int)] := by
    unfold insLine
    rw [if_pos h, joinSp_two, hn]
  have hsz := opName_size i.Op
  have hds := dec_small hn1
  refine ⟨n, hn, hn1, ?_⟩
  rw [hl]
  refine parts_join (fun w hw' => ?_) (by simp) ?_ ?_ (by simp)
  · simp only [List.mem_cons, List.not_mem_nil, or_false] at hw'
    rcases hw' with rfl | rfl
    · exact ⟨hw.1, hw.2.1⟩
    · exact word_dec hn1
  · rw [joinSp_two, ByteArray.size_append, ByteArray.size_append]
    have : (⟨#[32]⟩ : ByteArray).size = 1 := rfl
    omega
  · rw [joinSp_two]
    exact ok_app (ok_app hw.2.2 (by decide +kernel)) (ok_dec n)
theorem op_first : ∀ i : Fin 8, (opName ((i.val : Int) + 1)).data.toList[0]? ≠ some 35 := by decide +kernel
theorem op_acts : ∀ i : Fin 8, actTo (opName ((i.val : Int) + 1)) 17 = 0 ∨ (actUses (actTo (opName ((i.val : Int) + 1)) 17)).size ≠ 1 := by decide +kernel
/-- An instruction's line is no action, no comment, no heading. -/
theorem ins_line {i : VIns} (h : insOk i = true) : ∃ ws, parts (insLine i) = some ws ∧ skipW ws = false ∧ readAct (insLine i) = none ∧ ws ≠ [wMon] ∧ ws ≠ [wGst] ∧ readIns (insLine i) = some i := by
  obtain ⟨n, hn, hn1, hp⟩ := parts_ins h
  have ho := insOk_op h
  have h1 := op_first ⟨(i.Op - 1).toNat, by omega⟩
  have h2 := op_acts ⟨(i.Op - 1).toNat, by omega⟩
  simp only at h1 h2
  rw [show (((i.Op - 1).toNat : Nat) : Int) + 1 = i.Op by omega] at h1 h2
  refine ⟨_, hp, ?_, ?_, by simp, by simp, readIns_back h⟩
  · exact decide_eq_false h1
  · rw [readAct_two hp, if_neg]
    rintro ⟨h3, h4, _⟩
    rcases h2 with h2 | h2
    · exact h3 h2
    · exact h2 (by rw [← h4]; rfl)

/- THE SHORT SCRIPT -/
theorem ok_line {l : ByteArray} (h : l.data.toList.all okB = true) : ∀ c ∈ l.data.toList, c ≠ 10 := fun c hc e => by
  have := List.all_eq_true.1 h c hc
  subst e
  revert this
  decide
theorem ins_ok {i : VIns} (h : insOk i = true) : ∀ c ∈ (insLine i).data.toList, c ≠ 10 := by
  obtain ⟨n, hn, hn1, hp⟩ := parts_ins h
  have ho := insOk_op h
  have hw := opName_word ⟨(i.Op - 1).toNat, by omega⟩
  simp only at hw
  rw [show (((i.Op - 1).toNat : Nat) : Int) + 1 = i.Op by omega] at hw
  refine ok_line ?_
  unfold insLine
  rw [if_pos h, hn]
  exact ok_app (ok_app hw.2.2 (by decide +kernel)) (ok_dec n)
theorem nl_mon : ∀ c ∈ wMon.data.toList, c ≠ 10 := by decide +kernel
theorem nl_gst : ∀ c ∈ wGst.data.toList, c ≠ 10 := by decide +kernel
abbrev tCold : ByteArray := ⟨#[99, 111, 108, 100]⟩
theorem nl_cold : ∀ c ∈ tCold.data.toList, c ≠ 10 := by decide +kernel
/-- The script of one guest. -/
def shortT (n : Int) : ByteArray := ⟨#[109, 111, 110, 105, 116, 111, 114, 10, 103, 117, 101, 115, 116, 10, 115, 101, 116, 32]⟩ ++ dec n ++ ⟨#[10]⟩
theorem short_text (n : Int) (h0 : 0 ≤ n) (h1 : n ≤ 99) : shortT n = textOf [wMon, wGst, insLine ⟨1, n⟩] := by
  have hok : insOk ⟨1, n⟩ = true := by simp [insOk, inR]; omega
  have e : insLine ⟨1, n⟩ = ⟨#[115, 101, 116, 32]⟩ ++ dec n := by
    unfold insLine
    rw [if_pos hok]
    show (opName 1 ++ ⟨#[32]⟩) ++ dec n = _
    rw [show opName 1 ++ (⟨#[32]⟩ : ByteArray) = ⟨#[115, 101, 116, 32]⟩ by decide +kernel]
  rw [e]
  unfold shortT
  simp only [textOf, ba_app_nil]
  rw [← ByteArray.append_assoc, ← ByteArray.append_assoc, ← ByteArray.append_assoc, ← ByteArray.append_assoc, ← ByteArray.append_assoc]
  congr 2
theorem short_read (n : Int) (h0 : 0 ≤ n) (h1 : n ≤ 99) : readScript (shortT n) = (⟨[[[⟨1, n⟩]]], []⟩, 0) ∧ readScript (shortT n ++ ⟨#[99, 111, 108, 100, 10, 103, 117, 101, 115, 116, 10]⟩) = (noScript, 5) ∧ (shortT n).size ≤ 40 := by
  have hok : insOk ⟨1, n⟩ = true := by simp [insOk, inR]; omega
  obtain ⟨ws, g1, g2, g3, g4, g5, g6⟩ := ins_line hok
  have hsz : (shortT n).size ≤ 40 := by
    unfold shortT
    rw [ByteArray.size_append, ByteArray.size_append]
    have := dec_size (n := n) (by omega) (by omega)
    have a1 : (⟨#[109, 111, 110, 105, 116, 111, 114, 10, 103, 117, 101, 115, 116, 10, 115, 101, 116, 32]⟩ : ByteArray).size = 18 := rfl
    have a2 : (⟨#[10]⟩ : ByteArray).size = 1 := rfl
    omega
  have run : ∀ (ls : List ByteArray) (k : Nat), readFrom (wMon :: wGst :: insLine ⟨1, n⟩ :: ls) noScript k = readFrom ls ⟨[[[⟨1, n⟩]]], []⟩ (k + 3) := fun ls k => by
    rw [read_step parts_mon (by decide +kernel) (accept_mon act_mon rfl rfl), read_step parts_gst (by decide +kernel) (accept_gst (m := 0) (g := []) act_gst rfl ne_mg rfl rfl rfl),
      read_step g1 g2 (accept_ins (m := 0) (j := 0) (g := [[]]) (p := []) g3 rfl g4 rfl rfl g5 g6 rfl rfl)]
    rfl
  refine ⟨?_, ?_, hsz⟩
  · rw [short_text n h0 h1] at hsz ⊢
    unfold readScript
    rw [if_neg (by omega), lines_text _ (fun l hl => by simp only [List.mem_cons, List.not_mem_nil, or_false] at hl; rcases hl with rfl | rfl | rfl; exact nl_mon; exact nl_gst; exact ins_ok hok)]
    show readFrom (wMon :: wGst :: insLine ⟨1, n⟩ :: [⟨#[]⟩]) noScript 0 = _
    rw [run, read_pass parts_nil rfl, readFrom, if_pos]
    simp [scriptOk, monOk, progOk, hok, inR]
  · have e : shortT n ++ ⟨#[99, 111, 108, 100, 10, 103, 117, 101, 115, 116, 10]⟩ = textOf [wMon, wGst, insLine ⟨1, n⟩, tCold, wGst] := by
      rw [short_text n h0 h1, show (⟨#[99, 111, 108, 100, 10, 103, 117, 101, 115, 116, 10]⟩ : ByteArray) = textOf [tCold, wGst] by decide +kernel, ← textOf_app]
      rfl
    have hs2 : (shortT n ++ ⟨#[99, 111, 108, 100, 10, 103, 117, 101, 115, 116, 10]⟩).size ≤ 60 := by
      rw [ByteArray.size_append]
      have : (⟨#[99, 111, 108, 100, 10, 103, 117, 101, 115, 116, 10]⟩ : ByteArray).size = 11 := rfl
      omega
    rw [e] at hs2 ⊢
    unfold readScript
    rw [if_neg (by omega), lines_text _ (fun l hl => by simp only [List.mem_cons, List.not_mem_nil, or_false] at hl; rcases hl with rfl | rfl | rfl | rfl | rfl; exact nl_mon; exact nl_gst; exact ins_ok hok; exact nl_cold; exact nl_gst)]
    show readFrom (wMon :: wGst :: insLine ⟨1, n⟩ :: [tCold, wGst, ⟨#[]⟩]) noScript 0 = _
    rw [run, read_step (r := ⟨[[[⟨1, n⟩]]], [⟨17, 0, 0, 0, 0, 0⟩]⟩) (show parts tCold = some [tCold] by decide +kernel) (by decide +kernel) (accept_act (show readAct tCold = some ⟨17, 0, 0, 0, 0, 0⟩ by decide +kernel)), read_stop parts_gst (by decide +kernel) (accept_late act_gst (by simp))]
    rfl
theorem read_a : readScript ⟨#[109, 111, 110, 105, 116, 111, 114, 10]⟩ = (noScript, 3) := by decide +kernel
theorem read_b : readScript ⟨#[109, 111, 110, 105, 116, 111, 114, 10, 103, 117, 101, 115, 116, 10]⟩ = (noScript, 4) := by decide +kernel
theorem read_c : readScript ⟨#[103, 117, 101, 115, 116, 10]⟩ = (noScript, 1) := by decide +kernel

/- THE SCRIPT OF MANY GUESTS -/
abbrev wAdd : ByteArray := ⟨#[97, 100, 100, 32, 49]⟩
theorem dec_1 : dec 1 = ⟨#[49]⟩ := by
  have h : (dec ((1 : Nat) : Int)).data.toList = Lib.decDigits 1 := dec_nat 1
  rw [Lib.decDigits_one (by omega)] at h
  apply ByteArray.ext
  apply Array.ext'
  exact h
theorem add_line : wAdd = insLine ⟨2, 1⟩ := by
  unfold insLine
  rw [if_pos (by decide +kernel)]
  show _ = (opName 2 ++ ⟨#[32]⟩) ++ dec 1
  rw [dec_1]
  decide +kernel
def gstL (n : Nat) : List ByteArray := wGst :: List.replicate n wAdd
def monL (g n : Nat) : List ByteArray := wMon :: (List.replicate g (gstL n)).flatten
def allL (m g n : Nat) : List ByteArray := (List.replicate m (monL g n)).flatten
/-- The same by kinds of lines. -/
def stepK : Nat → VScript → VScript × Bool
  | 0, s => (⟨s.All ++ [[]], s.Acts⟩, decide (s.All.length < 3))
  | 1, s => match s.All[s.All.length - 1]? with
    | none => (s, false)
    | some g => (⟨s.All.set (s.All.length - 1) (g ++ [[]]), s.Acts⟩, decide (g.length < 2))
  | _, s => match s.All[s.All.length - 1]? with
    | none => (s, false)
    | some g => match g[g.length - 1]? with
      | none => (s, false)
      | some p => (⟨s.All.set (s.All.length - 1) (g.set (g.length - 1) (p ++ [⟨2, 1⟩])), s.Acts⟩, decide (p.length < 12))
def readK : List Nat → VScript → Nat → VScript × Int
  | [], s, k => if scriptOk s then (s, 0) else (noScript, k + 2)
  | c :: cs, s, k => if (stepK c s).2 then readK cs (stepK c s).1 (k + 1) else (noScript, k + 1)
def lineK : Nat → ByteArray
  | 0 => wMon
  | 1 => wGst
  | _ => wAdd
theorem len_pos {α : Type} {xs : List α} {k : Nat} {x : α} (h : xs[k - 1]? = some x) : xs.length = xs.length - 1 + 1 := by
  have := (List.getElem?_eq_some_iff.1 h).1
  omega
theorem ne_nil_last {α : Type} {xs : List α} (h : xs[xs.length - 1]? = none) : xs = [] := by
  rw [List.getElem?_eq_none_iff] at h
  exact List.eq_nil_of_length_eq_zero (by omega)
theorem step_line (c : Nat) (s : VScript) (h : s.Acts = []) : ∃ ws, parts (lineK c) = some ws ∧ skipW ws = false ∧ accept s (lineK c) ws = stepK c s ∧ (stepK c s).1.Acts = [] := by
  have hins := ins_line (i := ⟨2, 1⟩) (by decide +kernel)
  rw [← add_line] at hins
  obtain ⟨ws, g1, g2, g3, g4, g5, g6⟩ := hins
  match c with
  | 0 => exact ⟨_, parts_mon, by decide +kernel, accept_mon act_mon h rfl, h⟩
  | 1 =>
    refine ⟨_, parts_gst, by decide +kernel, ?_⟩
    show accept s wGst [wGst] = stepK 1 s ∧ _
    cases hg : s.All[s.All.length - 1]? with
    | none =>
      have e : stepK 1 s = (s, false) := by simp only [stepK, hg]
      rw [e]
      exact ⟨accept_none act_gst h ne_mg (ne_nil_last hg), h⟩
    | some g =>
      have e : stepK 1 s = (⟨s.All.set (s.All.length - 1) (g ++ [[]]), s.Acts⟩, decide (g.length < 2)) := by simp only [stepK, hg]
      rw [e]
      exact ⟨accept_gst act_gst h ne_mg (len_pos hg) hg rfl, h⟩
  | c + 2 =>
    refine ⟨ws, g1, g2, ?_⟩
    show accept s wAdd ws = stepK (c + 2) s ∧ _
    cases hg : s.All[s.All.length - 1]? with
    | none =>
      have e : stepK (c + 2) s = (s, false) := by simp only [stepK, hg]
      rw [e]
      exact ⟨accept_none g3 h g4 (ne_nil_last hg), h⟩
    | some g =>
      cases hp : g[g.length - 1]? with
      | none =>
        have e : stepK (c + 2) s = (s, false) := by simp only [stepK, hg, hp]
        rw [e]
        exact ⟨accept_bad g3 h g4 (len_pos hg) hg g5 (.inr (ne_nil_last hp)), h⟩
      | some p =>
        have e : stepK (c + 2) s = (⟨s.All.set (s.All.length - 1) (g.set (g.length - 1) (p ++ [⟨2, 1⟩])), s.Acts⟩, decide (p.length < 12)) := by simp only [stepK, hg, hp]
        rw [e]
        exact ⟨accept_ins g3 h g4 (len_pos hg) hg g5 g6 (len_pos hp) hp, h⟩
theorem read_kinds : ∀ (cs : List Nat) (s : VScript) (k : Nat), s.Acts = [] → readFrom (cs.map lineK ++ [⟨#[]⟩]) s k = readK cs s k
  | [], s, k, _ => by
    show readFrom [⟨#[]⟩] s k = _
    rw [read_pass parts_nil rfl, readFrom, readK]
    push_cast
    rw [Int.add_assoc]
    rfl
  | c :: cs, s, k, h => by
    obtain ⟨ws, h1, h2, h3, h4⟩ := step_line c s h
    rw [List.map_cons, List.cons_append, readK]
    cases hb : (stepK c s).2 with
    | true => rw [read_step h1 h2 (r := (stepK c s).1) (by rw [h3, ← hb]), read_kinds cs _ _ h4]; rfl
    | false => rw [read_stop h1 h2 (r := (stepK c s).1) (by rw [h3, ← hb])]; rfl
def gstK (n : Nat) : List Nat := 1 :: List.replicate n 2
def monK (g n : Nat) : List Nat := 0 :: (List.replicate g (gstK n)).flatten
def allK (m g n : Nat) : List Nat := (List.replicate m (monK g n)).flatten
theorem all_kinds (m g n : Nat) : (allK m g n).map lineK = allL m g n := by
  simp [allK, allL, monK, monL, gstK, gstL, List.map_flatten, List.map_replicate, lineK]
theorem many_run : ∀ (m : Fin 4) (g : Fin 3) (n : Fin 13), (((readK (allK (m.val + 1) (g.val + 1) (n.val + 1)) noScript 0).2 == 0) == (decide (m.val + 1 ≤ 3) && decide (g.val + 1 ≤ 2) && decide (n.val + 1 ≤ 12))) = true ∧
    ((readK (allK (m.val + 1) (g.val + 1) (n.val + 1)) noScript 0).2 ≠ 0 ∨ (readK (allK (m.val + 1) (g.val + 1) (n.val + 1)) noScript 0).1.All.length = m.val + 1) := by decide +kernel
theorem nl_add : ∀ c ∈ wAdd.data.toList, c ≠ 10 := by decide +kernel
theorem all_nl (m g n : Nat) : ∀ l ∈ allL m g n, ∀ c ∈ l.data.toList, c ≠ 10 := fun l hl => by
  rw [← all_kinds] at hl
  obtain ⟨c, _, rfl⟩ := List.mem_map.1 hl
  unfold lineK
  split
  · exact nl_mon
  · exact nl_gst
  · exact nl_add
theorem many_read {m g n : Nat} (hm : 1 ≤ m ∧ m ≤ 4) (hg : 1 ≤ g ∧ g ≤ 3) (hn : 1 ≤ n ∧ n ≤ 13) (hs : (textOf (allL m g n)).size ≤ 12000) :
    ((((readScript (textOf (allL m g n))).2 == 0) == (decide (m ≤ 3) && decide (g ≤ 2) && decide (n ≤ 12))) = true) ∧ ((readScript (textOf (allL m g n))).2 ≠ 0 ∨ (readScript (textOf (allL m g n))).1.All.length = m) := by
  have h := many_run ⟨m - 1, by omega⟩ ⟨g - 1, by omega⟩ ⟨n - 1, by omega⟩
  simp only at h
  rw [Nat.sub_add_cancel hm.1, Nat.sub_add_cancel hg.1, Nat.sub_add_cancel hn.1] at h
  have e : readScript (textOf (allL m g n)) = readK (allK m g n) noScript 0 := by
    unfold readScript
    rw [if_neg (by omega), lines_text _ (all_nl m g n), ← all_kinds, read_kinds _ _ _ rfl]
  rw [e]
  exact h
theorem monL_step (g n k : Nat) (a : List ByteArray) : (a ++ wMon :: (List.replicate k (gstL n)).flatten) ++ gstL n = a ++ wMon :: (List.replicate (k + 1) (gstL n)).flatten := by
  rw [List.replicate_succ', List.flatten_append]
  simp
theorem allL_step (m g n : Nat) : allL m g n ++ monL g n = allL (m + 1) g n := by
  unfold allL
  rw [List.replicate_succ', List.flatten_append]
  simp
theorem text_line (a : List ByteArray) (l : ByteArray) : textOf a ++ (l ++ ⟨#[10]⟩) = textOf (a ++ [l]) := by
  rw [textOf_app]
  simp only [textOf, ba_app_nil]
end Go.Proofs.YtfiakjbnfaaamaaDoor.T
