/- Lines of actions: both sides, and the law's own walk. PRINTED by gen.py out of spec_act.py. -/
import Derived.Test.YtfbjcdhphhfpfaaGreatDoorT3p
import Derived.Test.YtfbjcdhphhfpfaaGreatDoorWfp
import Derived.Shelf.Strings.Runes
import Derived.Lib.IndexAny
namespace Go.Proofs.YtfbjcdhphhfpfaaGreatDoor.T
open Go
set_option linter.unusedVariables false
set_option linter.unusedSimpArgs false
set_option maxRecDepth 100000
set_option maxHeartbeats 1000000

def actNames : List ByteArray := ["step".toUTF8, "set".toUTF8, "flush".toUTF8, "answer".toUTF8, "resume".toUTF8, "inject".toUTF8, "ctl".toUTF8, "poke".toUTF8, "post".toUTF8, "ack".toUTF8, "dma".toUTF8, "read".toUTF8, "out".toUTF8, "in".toUTF8, "guard".toUTF8, "traps".toUTF8, "cold".toUTF8]
def specActs : List ByteArray := ⟨#[]⟩ :: actNames
def actName (k : Int) : ByteArray := if inR k 1 17 then (actNames[(k - 1).toNat]?).getD ⟨#[]⟩ else ⟨#[63]⟩
theorem actNames_size : ∀ i : Fin 17, ((actNames[i.val]?).getD ⟨#[]⟩).size ≤ 6 := by decide +kernel
theorem actName_size (k : Int) : (actName k).size ≤ 6 := by
  unfold actName
  split
  · rename_i h
    simp only [inR, Bool.and_eq_true, decide_eq_true_eq] at h
    exact actNames_size ⟨(k - 1).toNat, by omega⟩
  · decide +kernel
def actUses (k : Int) : ByteArray :=
  if k = 1 ∨ k = 5 then ⟨#[109, 103]⟩ else if k = 2 ∨ k = 7 then ⟨#[109, 103, 120, 121, 122]⟩ else if k = 3 ∨ k = 4 ∨ k = 6 ∨ k = 12 then ⟨#[109, 103, 120]⟩ else if k = 8 then ⟨#[109, 120, 121, 122]⟩
  else if k = 9 ∨ k = 13 ∨ k = 14 ∨ k = 15 ∨ k = 16 then ⟨#[109, 120]⟩ else if k = 10 then ⟨#[109]⟩ else if k = 11 then ⟨#[109, 103, 120, 121]⟩ else ⟨#[]⟩
def letters : List UInt8 := [109, 103, 120, 121, 122]
def actPairs (x : VAct) : List (UInt8 × Int) := [(109, x.M), (103, x.G), (120, x.X), (121, x.Y), (122, x.Z)]
def lineGo (uses : List UInt8) : List (UInt8 × Int) → ByteArray → ByteArray
  | [], s => s
  | (c, n) :: l, s => if uses.contains c then (if inR n 0 1000000000 then lineGo uses l (s ++ ⟨#[32]⟩ ++ dec n) else ⟨#[]⟩) else if n ≠ 0 then ⟨#[]⟩ else lineGo uses l s
def usesL (x : VAct) : List UInt8 := (actUses x.Kind).data.toList
def actLine (x : VAct) : ByteArray := if inR x.Kind 1 17 then lineGo (usesL x) (actPairs x) (actName x.Kind) else ⟨#[]⟩
theorem lineGo_drop {uses : List UInt8} {l : List (UInt8 × Int)} {k : Nat} {c : UInt8} {n : Int} (h : l[k]? = some (c, n)) (s : ByteArray) :
    lineGo uses (l.drop k) s = if uses.contains c then (if inR n 0 1000000000 then lineGo uses (l.drop (k + 1)) (s ++ ⟨#[32]⟩ ++ dec n) else ⟨#[]⟩) else if n ≠ 0 then ⟨#[]⟩ else lineGo uses (l.drop (k + 1)) s := by
  have hk := (List.getElem?_eq_some_iff.1 h).1
  rw [List.drop_eq_getElem_cons hk, (List.getElem?_eq_some_iff.1 h).2]
  rfl
def actPtrs : List Pl := [⟨1, [], 1⟩, ⟨1, [], 2⟩, ⟨1, [], 3⟩, ⟨1, [], 4⟩, ⟨1, [], 5⟩]
def actCells (x : VAct) : List C := [.own (.v (.int .i64 x.M)), .own (.v (.int .i64 x.G)), .own (.v (.int .i64 x.X)), .own (.v (.int .i64 x.Y)), .own (.v (.int .i64 x.Z))]
theorem act_at (x : VAct) {k : Nat} (h : k < 5) : ∃ c n, (actPairs x)[k]? = some (c, n) ∧ letters[k]? = some c ∧ (actCells x)[k]? = some (.own (.v (.int .i64 n))) ∧ (actPtrs.drop k)[0]? = some ⟨1, [], k + 1⟩ ∧ c.toNat < 128 ∧ ([x.M, x.G, x.X, x.Y, x.Z] : List Int)[k]? = some n := by
  have : k = 0 ∨ k = 1 ∨ k = 2 ∨ k = 3 ∨ k = 4 := by omega
  rcases this with rfl | rfl | rfl | rfl | rfl <;> exact ⟨_, _, rfl, rfl, rfl, rfl, by decide, rfl⟩
def actNums (x : VAct) : List Int := [x.M, x.G, x.X, x.Y, x.Z]
theorem ba_at {s : ByteArray} {j : Nat} (h : j < s.size) : ∃ d, s[((j : Nat) : Int).toNat]? = some d ∧ s.data.toList[j]? = some d := by
  have h1 : j < s.data.toList.length := by rw [Array.length_toList]; exact h
  refine ⟨s.data.toList[j], ?_, List.getElem?_eq_getElem h1⟩
  show s[j]? = _
  rw [getElem?_pos s j h]
  simp only [Option.some.injEq]
  rfl
theorem contains_step {l : List UInt8} {j : Nat} {d c : UInt8} (h : l[j]? = some d) : (l.take (j + 1)).contains c = ((l.take j).contains c || ((d.toNat : Int) == (c.toNat : Int))) := by
  rw [List.take_add_one, h, Bool.eq_iff_iff]
  simp only [Option.toList_some, List.contains_eq_mem, List.mem_append, List.mem_singleton, Bool.or_eq_true, decide_eq_true_eq, beq_iff_eq]
  constructor
  · rintro (h | rfl)
    · exact .inl h
    · exact .inr rfl
  · rintro (h | h)
    · exact .inl h
    · exact .inr (UInt8.toNat_inj.1 (by omega))
theorem letter_at {k : Nat} {c : UInt8} (h : letters[k]? = some c) : (⟨#[109, 103, 120, 121, 122]⟩ : ByteArray)[((k : Nat) : Int).toNat]? = some c := by
  have hk : k < 5 := (List.getElem?_eq_some_iff.1 h).1
  have : k = 0 ∨ k = 1 ∨ k = 2 ∨ k = 3 ∨ k = 4 := by omega
  rcases this with rfl | rfl | rfl | rfl | rfl <;> exact h
theorem wrap_i32 {n : Int} (h1 : 0 ≤ n) (h2 : n < 2147483648) : IntKind.i32.wrap n = n := by
  by_cases h : n % 2 ^ 32 ≥ 2 ^ (32 - 1)
  · simp only [IntKind.wrap, IntKind.signed, IntKind.bits, h, decide_true, Bool.and_self, if_true]
    omega
  · simp only [IntKind.wrap, IntKind.signed, IntKind.bits, h, decide_false, Bool.and_false, Bool.false_eq_true, if_false]
    omega
/-- A contract of the shelf's that leaves the world as it was. -/
theorem FunAt.same {P : Program} {f : FuncId} {vs : List Value} {x : Value} {w : World} (hp : plain x = true)
    (h : Calls P f vs.toArray w fun e w' => e = .returned x ∧ w' = w) : FunAt P f (vs.map V) (RV x) w :=
  FunAt.shelf hp (h.mono fun e w' ⟨he, hw⟩ => ⟨he, 0, #[], by rw [hw]; simp [World.drewN]⟩)
theorem containsRune_f (s : ByteArray) (c : UInt8) (hc : c.toNat < 128) : Fun Tryz.prog 59 [S s, V (.int .i32 c.toNat)] (RV (.bool (s.data.toList.contains c))) := fun w => by
  have h := FunAt.same (vs := [.string s, .int .i32 c.toNat]) (x := .bool (s.data.toList.contains c)) rfl (P := Tryz.prog) (f := 59) (w := w)
    ((Any.strings_ContainsRune_ascii laysRune s c.toNat w (by omega) (by omega)).mono fun e w' ⟨he, hw⟩ => ⟨by
      rw [he, Lib.contains_iff_indexByte]
      simp, hw⟩)
  exact h
theorem spec_ActName_f (op : Int) : Fun Tryz.prog 24 [I op] (RV (.string (actName op))) := by
  refine Fun.of Tryz.func24 rfl (by simp [Tryz.ntmps24]) fun w g0 => ?_
  simp only [Tryz.ntmps24, List.length_cons, List.length_nil, Nat.reduceAdd, Nat.reduceSub, List.replicate, List.cons_append, List.nil_append]
  refine TC.seq ?_
  refine TC.region ?_
  refine TL.vE (Val.assign 1 rfl rfl) ?_
  refine TL.nil ?_
  show TC _ _ _ _ _ _
  refine TC.seq ?_
  refine TC.seq ?_
  refine TC.region ?_
  refine TL.vE (Val.move 1 rfl rfl) ?_
  refine TL.cF ((spec_l01In_f _ _ _).k) ?_
  refine TL.vE (Val.not rfl rfl) ?_
  refine TL.nil ?_
  show TC _ _ _ _ _ _
  refine TC.cond rfl (fun hb => ?_) (fun hb => ?_)
  · have hk5 := hb
    refine TC.seq ?_
    refine TC.region ?_
    refine TL.vE (Val.assign 1 rfl rfl) ?_
    refine TL.nil ?_
    show TC _ _ _ _ _ _
    refine TC.ret ?_
    exact ⟨.inr rfl, [_], [_], _, rfl, by decide, rfl, by simp [refV, refC, valC], rfl, resV (by simp_all [actName])⟩
  have hk5 := hb
  refine TC.skip ?_
  show TC _ _ _ _ _ _
  refine TC.seq ?_
  have hr : 1 ≤ op ∧ op ≤ 17 := by simpa [inR] using hb
  obtain ⟨u, hu⟩ := at_of (xs := specActs) (k := op.toNat) (by simp [specActs, actNames]; omega)
  have hu2 : actNames[(op - 1).toNat]? = some u := by rw [show op.toNat = (op - 1).toNat + 1 by omega] at hu; exact hu
  refine TC.region ?_
  refine TL.opK rfl fun K hK => ?_
  refine OpT.buildP rfl rfl (xs := specActs.map fun s => .const (.string s)) rfl rfl (tvs := specActs.map fun s => .c (.ro (.v (.string s)))) rfl rfl (sz := 1) rfl rfl rfl (by decide) (by decide) ?_
  simp only [nrm, Nat.reduceBEq, Nat.reduceBNe, reduceIte]
  refine hK _ ?_
  clear hK K
  refine TL.vE (Val.move 1 rfl rfl) ?_
  refine TL.vE (by exact Val.index rfl rfl rfl rfl rfl rfl (by omega) (by simp [specActs, actNames]; omega)) ?_
  refine TL.valE rfl (by exact Val.load rfl rfl rfl (c := .own (.v (.string u))) (by simp [St.cellAt, St.root, rowAt, D.row, elD, cellD, hu]) rfl) (by simp only [nput, valC]; rfl) ?_
  refine TL.vE (Val.assign 1 rfl rfl) ?_
  refine TL.nil ?_
  show TC _ _ _ _ _ _
  refine TC.ret ?_
  exact ⟨.inr rfl, [_], [_], _, rfl, by decide, rfl, by simp [refV, refC, valC], rfl, resV (by unfold actName; rw [if_pos (by simpa using hb), hu2]; rfl)⟩

theorem spec_ActUses_f (k : Int) : Fun Tryz.prog 25 [I k] (RV (.string (actUses k))) := by
  refine Fun.of Tryz.func25 rfl (by simp [Tryz.ntmps25]) fun w g0 => ?_
  simp only [Tryz.ntmps25, List.length_cons, List.length_nil, Nat.reduceAdd, Nat.reduceSub, List.replicate, List.cons_append, List.nil_append]
  refine TC.seq ?_
  refine TC.region ?_
  refine TL.vE (Val.assign 1 rfl rfl) ?_
  refine TL.nil ?_
  show TC _ _ _ _ _ _
  refine TC.seq ?_
  refine TC.seq ?_
  refine TC.region ?_
  refine TL.vE (Val.move 1 rfl rfl) ?_
  refine TL.nil ?_
  show TC _ _ _ _ _ _
  refine TC.block ?_
  refine TC.seq ?_
  refine TC.seq ?_
  refine TC.region ?_
  refine TL.vE (Val.eql rfl rfl rfl) ?_
  refine TL.vE (Val.assign 1 rfl rfl) ?_
  refine TL.nil ?_
  show TC _ _ _ _ _ _
  refine TC.joinTo ⟨[.one .dead, .one .dead, .one .dead, I k, B (k == 1 || k == 5), .one .dead, .one .dead, .one .dead, .one .dead, .one .dead, .one .dead, .one .dead, .one .dead, .one .dead, .one .dead, .one .dead, .one .dead, .one .dead, .one .dead, .one .dead, .one .dead, .one .dead, .one .dead, .one .dead, .one .dead, .one .dead, .one .dead], []⟩ ?_ (fun st' hcan => ?_)
  · refine TC.cond rfl (fun hb => ?_) (fun hb => ?_)
    · have hk4 := hb
      refine TC.skip ?_
      exact ⟨rfl, (Can.to (by repeat first | exact LessT.nil | refine LessT.drop ?_ | refine LessT.keep ?_ | refine LessT.eq (by simp_all) ?_) (by repeat first | exact .nil | refine .cons rfl rfl ?_))⟩
    have hk4 := hb
    refine TC.region ?_
    refine TL.vE (Val.eql rfl rfl rfl) ?_
    refine TL.vE (Val.assign 1 rfl rfl) ?_
    refine TL.nil ?_
    exact ⟨rfl, (Can.to (by repeat first | exact LessT.nil | refine LessT.drop ?_ | refine LessT.keep ?_ | refine LessT.eq (by simp_all) ?_) (by repeat first | exact .nil | refine .cons rfl rfl ?_))⟩
  · show TC _ _ _ _ _ _
    refine TC.can hcan ?_
    clear hcan
    refine TC.cond rfl (fun hb => ?_) (fun hb => ?_)
    · have hk4 := hb
      refine TC.seq ?_
      refine TC.region ?_
      refine TL.vE (Val.assign 1 rfl rfl) ?_
      refine TL.nil ?_
      show TC _ _ _ _ _ _
      refine TC.ret ?_
      exact ⟨.inr rfl, [_], [_], _, rfl, by decide, rfl, by simp [refV, refC, valC], rfl, resV (by simp_all [actUses])⟩
    have hk4 := hb
    refine TC.seq ?_
    refine TC.seq ?_
    refine TC.region ?_
    refine TL.vE (Val.eql rfl rfl rfl) ?_
    refine TL.vE (Val.assign 1 rfl rfl) ?_
    refine TL.nil ?_
    show TC _ _ _ _ _ _
    refine TC.joinTo ⟨[.one .dead, .one .dead, .one .dead, I k, .one .dead, .one .dead, .one .dead, B (k == 2 || k == 7), .one .dead, .one .dead, .one .dead, .one .dead, .one .dead, .one .dead, .one .dead, .one .dead, .one .dead, .one .dead, .one .dead, .one .dead, .one .dead, .one .dead, .one .dead, .one .dead, .one .dead, .one .dead, .one .dead], []⟩ ?_ (fun st' hcan => ?_)
    · refine TC.cond rfl (fun hb => ?_) (fun hb => ?_)
      · have hk7 := hb
        refine TC.skip ?_
        exact ⟨rfl, (Can.to (by repeat first | exact LessT.nil | refine LessT.drop ?_ | refine LessT.keep ?_ | refine LessT.eq (by simp_all) ?_) (by repeat first | exact .nil | refine .cons rfl rfl ?_))⟩
      have hk7 := hb
      refine TC.region ?_
      refine TL.vE (Val.eql rfl rfl rfl) ?_
      refine TL.vE (Val.assign 1 rfl rfl) ?_
      refine TL.nil ?_
      exact ⟨rfl, (Can.to (by repeat first | exact LessT.nil | refine LessT.drop ?_ | refine LessT.keep ?_ | refine LessT.eq (by simp_all) ?_) (by repeat first | exact .nil | refine .cons rfl rfl ?_))⟩
    · show TC _ _ _ _ _ _
      refine TC.can hcan ?_
      clear hcan
      refine TC.cond rfl (fun hb => ?_) (fun hb => ?_)
      · have hk7 := hb
        refine TC.seq ?_
        refine TC.region ?_
        refine TL.vE (Val.assign 1 rfl rfl) ?_
        refine TL.nil ?_
        show TC _ _ _ _ _ _
        refine TC.ret ?_
        exact ⟨.inr rfl, [_], [_], _, rfl, by decide, rfl, by simp [refV, refC, valC], rfl, resV (by simp_all [actUses])⟩
      have hk7 := hb
      refine TC.seq ?_
      refine TC.seq ?_
      refine TC.region ?_
      refine TL.vE (Val.eql rfl rfl rfl) ?_
      refine TL.vE (Val.assign 1 rfl rfl) ?_
      refine TL.nil ?_
      show TC _ _ _ _ _ _
      refine TC.cond rfl (fun hb => ?_) (fun hb => ?_)
      · have hk10 := hb
        refine TC.skip ?_
        show TC _ _ _ _ _ _
        refine TC.cond rfl (fun hb => ?_) (fun hc => absurd (hc.symm.trans hk10) (by decide))
        refine TC.seq ?_
        refine TC.region ?_
        refine TL.vE (Val.assign 1 rfl rfl) ?_
        refine TL.nil ?_
        show TC _ _ _ _ _ _
        refine TC.ret ?_
        exact ⟨.inr rfl, [_], [_], _, rfl, by decide, rfl, by simp [refV, refC, valC], rfl, resV (by simp_all [actUses])⟩
      have hk10 := hb
      refine TC.seq ?_
      refine TC.region ?_
      refine TL.vE (Val.eql rfl rfl rfl) ?_
      refine TL.vE (Val.assign 1 rfl rfl) ?_
      refine TL.nil ?_
      show TC _ _ _ _ _ _
      refine TC.cond rfl (fun hb => ?_) (fun hb => ?_)
      · have hk10 := hb
        refine TC.skip ?_
        show TC _ _ _ _ _ _
        refine TC.cond rfl (fun hb => ?_) (fun hc => absurd (hc.symm.trans hk10) (by decide))
        refine TC.seq ?_
        refine TC.region ?_
        refine TL.vE (Val.assign 1 rfl rfl) ?_
        refine TL.nil ?_
        show TC _ _ _ _ _ _
        refine TC.ret ?_
        exact ⟨.inr rfl, [_], [_], _, rfl, by decide, rfl, by simp [refV, refC, valC], rfl, resV (by simp_all [actUses])⟩
      have hk10 := hb
      refine TC.seq ?_
      refine TC.region ?_
      refine TL.vE (Val.eql rfl rfl rfl) ?_
      refine TL.vE (Val.assign 1 rfl rfl) ?_
      refine TL.nil ?_
      show TC _ _ _ _ _ _
      refine TC.joinTo ⟨[.one .dead, .one .dead, .one .dead, I k, .one .dead, .one .dead, .one .dead, .one .dead, .one .dead, .one .dead, B (k == 3 || k == 4 || k == 6 || k == 12), .one .dead, .one .dead, .one .dead, .one .dead, .one .dead, .one .dead, .one .dead, .one .dead, .one .dead, .one .dead, .one .dead, .one .dead, .one .dead, .one .dead, .one .dead, .one .dead], []⟩ ?_ (fun st' hcan => ?_)
      · refine TC.cond rfl (fun hb => ?_) (fun hb => ?_)
        · have hk10 := hb
          refine TC.skip ?_
          exact ⟨rfl, (Can.to (by repeat first | exact LessT.nil | refine LessT.drop ?_ | refine LessT.keep ?_ | refine LessT.eq (by simp_all) ?_) (by repeat first | exact .nil | refine .cons rfl rfl ?_))⟩
        have hk10 := hb
        refine TC.region ?_
        refine TL.vE (Val.eql rfl rfl rfl) ?_
        refine TL.vE (Val.assign 1 rfl rfl) ?_
        refine TL.nil ?_
        exact ⟨rfl, (Can.to (by repeat first | exact LessT.nil | refine LessT.drop ?_ | refine LessT.keep ?_ | refine LessT.eq (by simp_all) ?_) (by repeat first | exact .nil | refine .cons rfl rfl ?_))⟩
      · show TC _ _ _ _ _ _
        refine TC.can hcan ?_
        clear hcan
        refine TC.cond rfl (fun hb => ?_) (fun hb => ?_)
        · have hk10 := hb
          refine TC.seq ?_
          refine TC.region ?_
          refine TL.vE (Val.assign 1 rfl rfl) ?_
          refine TL.nil ?_
          show TC _ _ _ _ _ _
          refine TC.ret ?_
          exact ⟨.inr rfl, [_], [_], _, rfl, by decide, rfl, by simp [refV, refC, valC], rfl, resV (by simp_all [actUses])⟩
        have hk10 := hb
        refine TC.seq ?_
        refine TC.region ?_
        refine TL.vE (Val.eql rfl rfl rfl) ?_
        refine TL.vE (Val.assign 1 rfl rfl) ?_
        refine TL.nil ?_
        show TC _ _ _ _ _ _
        refine TC.cond rfl (fun hb => ?_) (fun hb => ?_)
        · have hk15 := hb
          refine TC.seq ?_
          refine TC.region ?_
          refine TL.vE (Val.assign 1 rfl rfl) ?_
          refine TL.nil ?_
          show TC _ _ _ _ _ _
          refine TC.ret ?_
          exact ⟨.inr rfl, [_], [_], _, rfl, by decide, rfl, by simp [refV, refC, valC], rfl, resV (by simp_all [actUses])⟩
        have hk15 := hb
        refine TC.seq ?_
        refine TC.seq ?_
        refine TC.region ?_
        refine TL.vE (Val.eql rfl rfl rfl) ?_
        refine TL.vE (Val.assign 1 rfl rfl) ?_
        refine TL.nil ?_
        show TC _ _ _ _ _ _
        refine TC.cond rfl (fun hb => ?_) (fun hb => ?_)
        · have hk17 := hb
          refine TC.skip ?_
          show TC _ _ _ _ _ _
          refine TC.cond rfl (fun hb => ?_) (fun hc => absurd (hc.symm.trans hk17) (by decide))
          refine TC.seq ?_
          refine TC.region ?_
          refine TL.vE (Val.assign 1 rfl rfl) ?_
          refine TL.nil ?_
          show TC _ _ _ _ _ _
          refine TC.ret ?_
          exact ⟨.inr rfl, [_], [_], _, rfl, by decide, rfl, by simp [refV, refC, valC], rfl, resV (by simp_all [actUses])⟩
        have hk17 := hb
        refine TC.seq ?_
        refine TC.region ?_
        refine TL.vE (Val.eql rfl rfl rfl) ?_
        refine TL.vE (Val.assign 1 rfl rfl) ?_
        refine TL.nil ?_
        show TC _ _ _ _ _ _
        refine TC.cond rfl (fun hb => ?_) (fun hb => ?_)
        · have hk17 := hb
          refine TC.skip ?_
          show TC _ _ _ _ _ _
          refine TC.cond rfl (fun hb => ?_) (fun hc => absurd (hc.symm.trans hk17) (by decide))
          refine TC.seq ?_
          refine TC.region ?_
          refine TL.vE (Val.assign 1 rfl rfl) ?_
          refine TL.nil ?_
          show TC _ _ _ _ _ _
          refine TC.ret ?_
          exact ⟨.inr rfl, [_], [_], _, rfl, by decide, rfl, by simp [refV, refC, valC], rfl, resV (by simp_all [actUses])⟩
        have hk17 := hb
        refine TC.seq ?_
        refine TC.region ?_
        refine TL.vE (Val.eql rfl rfl rfl) ?_
        refine TL.vE (Val.assign 1 rfl rfl) ?_
        refine TL.nil ?_
        show TC _ _ _ _ _ _
        refine TC.cond rfl (fun hb => ?_) (fun hb => ?_)
        · have hk17 := hb
          refine TC.skip ?_
          show TC _ _ _ _ _ _
          refine TC.cond rfl (fun hb => ?_) (fun hc => absurd (hc.symm.trans hk17) (by decide))
          refine TC.seq ?_
          refine TC.region ?_
          refine TL.vE (Val.assign 1 rfl rfl) ?_
          refine TL.nil ?_
          show TC _ _ _ _ _ _
          refine TC.ret ?_
          exact ⟨.inr rfl, [_], [_], _, rfl, by decide, rfl, by simp [refV, refC, valC], rfl, resV (by simp_all [actUses])⟩
        have hk17 := hb
        refine TC.seq ?_
        refine TC.region ?_
        refine TL.vE (Val.eql rfl rfl rfl) ?_
        refine TL.vE (Val.assign 1 rfl rfl) ?_
        refine TL.nil ?_
        show TC _ _ _ _ _ _
        refine TC.joinTo ⟨[.one .dead, .one .dead, .one .dead, I k, .one .dead, .one .dead, .one .dead, .one .dead, .one .dead, .one .dead, .one .dead, .one .dead, .one .dead, .one .dead, .one .dead, .one .dead, .one .dead, B (k == 9 || k == 13 || k == 14 || k == 15 || k == 16), .one .dead, .one .dead, .one .dead, .one .dead, .one .dead, .one .dead, .one .dead, .one .dead, .one .dead], []⟩ ?_ (fun st' hcan => ?_)
        · refine TC.cond rfl (fun hb => ?_) (fun hb => ?_)
          · have hk17 := hb
            refine TC.skip ?_
            exact ⟨rfl, (Can.to (by repeat first | exact LessT.nil | refine LessT.drop ?_ | refine LessT.keep ?_ | refine LessT.eq (by simp_all) ?_) (by repeat first | exact .nil | refine .cons rfl rfl ?_))⟩
          have hk17 := hb
          refine TC.region ?_
          refine TL.vE (Val.eql rfl rfl rfl) ?_
          refine TL.vE (Val.assign 1 rfl rfl) ?_
          refine TL.nil ?_
          exact ⟨rfl, (Can.to (by repeat first | exact LessT.nil | refine LessT.drop ?_ | refine LessT.keep ?_ | refine LessT.eq (by simp_all) ?_) (by repeat first | exact .nil | refine .cons rfl rfl ?_))⟩
        · show TC _ _ _ _ _ _
          refine TC.can hcan ?_
          clear hcan
          refine TC.cond rfl (fun hb => ?_) (fun hb => ?_)
          · have hk17 := hb
            refine TC.seq ?_
            refine TC.region ?_
            refine TL.vE (Val.assign 1 rfl rfl) ?_
            refine TL.nil ?_
            show TC _ _ _ _ _ _
            refine TC.ret ?_
            exact ⟨.inr rfl, [_], [_], _, rfl, by decide, rfl, by simp [refV, refC, valC], rfl, resV (by simp_all [actUses])⟩
          have hk17 := hb
          refine TC.seq ?_
          refine TC.region ?_
          refine TL.vE (Val.eql rfl rfl rfl) ?_
          refine TL.vE (Val.assign 1 rfl rfl) ?_
          refine TL.nil ?_
          show TC _ _ _ _ _ _
          refine TC.cond rfl (fun hb => ?_) (fun hb => ?_)
          · have hk23 := hb
            refine TC.seq ?_
            refine TC.region ?_
            refine TL.vE (Val.assign 1 rfl rfl) ?_
            refine TL.nil ?_
            show TC _ _ _ _ _ _
            refine TC.ret ?_
            exact ⟨.inr rfl, [_], [_], _, rfl, by decide, rfl, by simp [refV, refC, valC], rfl, resV (by simp_all [actUses])⟩
          have hk23 := hb
          refine TC.seq ?_
          refine TC.region ?_
          refine TL.vE (Val.eql rfl rfl rfl) ?_
          refine TL.vE (Val.assign 1 rfl rfl) ?_
          refine TL.nil ?_
          show TC _ _ _ _ _ _
          refine TC.cond rfl (fun hb => ?_) (fun hb => ?_)
          · have hk25 := hb
            refine TC.seq ?_
            refine TC.region ?_
            refine TL.vE (Val.assign 1 rfl rfl) ?_
            refine TL.nil ?_
            show TC _ _ _ _ _ _
            refine TC.ret ?_
            exact ⟨.inr rfl, [_], [_], _, rfl, by decide, rfl, by simp [refV, refC, valC], rfl, resV (by simp_all [actUses])⟩
          have hk25 := hb
          refine TC.skip ?_
          show TC _ _ _ _ _ _
          refine TC.seq ?_
          refine TC.region ?_
          refine TL.vE (Val.assign 1 rfl rfl) ?_
          refine TL.nil ?_
          show TC _ _ _ _ _ _
          refine TC.ret ?_
          exact ⟨.inr rfl, [_], [_], _, rfl, by decide, rfl, by simp [refV, refC, valC], rfl, resV (by simp_all [actUses])⟩

theorem spec_ActOk_f (x : VAct) : Fun Tryz.prog 43 [A (rAct x)] (RV (.bool (inR x.Kind 1 17))) := by
  refine Fun.of Tryz.func43 rfl (by simp [Tryz.ntmps43]) fun w g0 => ?_
  simp only [Tryz.ntmps43, List.length_cons, List.length_nil, Nat.reduceAdd, Nat.reduceSub, List.replicate, List.cons_append, List.nil_append]
  refine TC.seq ?_
  refine TC.region ?_
  refine TL.opK rfl fun K hK => ?_
  first | refine OpT.box rfl rfl (z := 1) rfl (by simp) ?_ | refine OpT.boxAgg rfl rfl rfl ?_
  simp only [nrm, Nat.reduceBEq, Nat.reduceBNe, reduceIte]
  refine hK _ ?_
  clear hK K
  refine TL.vE (Val.assign 1 rfl rfl) ?_
  refine TL.nil ?_
  show TC _ _ _ _ _ _
  refine TC.seq ?_
  refine TC.region ?_
  refine TL.fld ?_
  refine TL.ld ?_
  refine TL.cF ((spec_l01In_f _ _ _).k) ?_
  refine TL.vE (Val.assign 1 rfl rfl) ?_
  refine TL.nil ?_
  show TC _ _ _ _ _ _
  refine TC.ret ?_
  exact ⟨.inr rfl, [_], [_], _, rfl, by decide, rfl, by simp [refV, refC, valC], rfl, rfl⟩

theorem impl_ActName_f (op : Int) : Fun Tryz.prog 52 [I op] (RV (.string (actName op))) := by
  refine Fun.of Tryz.func52 rfl (by simp [Tryz.ntmps52]) fun w g0 => ?_
  simp only [Tryz.ntmps52, List.length_cons, List.length_nil, Nat.reduceAdd, Nat.reduceSub, List.replicate, List.cons_append, List.nil_append]
  refine TC.seq ?_
  refine TC.region ?_
  refine TL.vE (Val.assign 1 rfl rfl) ?_
  refine TL.nil ?_
  show TC _ _ _ _ _ _
  refine TC.seq ?_
  refine TC.seq ?_
  refine TC.region ?_
  refine TL.vE (Val.move 1 rfl rfl) ?_
  refine TL.cF ((impl_within_f _ _ _).k) ?_
  refine TL.vE (Val.not rfl rfl) ?_
  refine TL.nil ?_
  show TC _ _ _ _ _ _
  refine TC.cond rfl (fun hb => ?_) (fun hb => ?_)
  · have hk5 := hb
    refine TC.seq ?_
    refine TC.region ?_
    refine TL.vE (Val.assign 1 rfl rfl) ?_
    refine TL.nil ?_
    show TC _ _ _ _ _ _
    refine TC.ret ?_
    exact ⟨.inr rfl, [_], [_], _, rfl, by decide, rfl, by simp [refV, refC, valC], rfl, resV (by simp_all [actName])⟩
  have hk5 := hb
  refine TC.skip ?_
  show TC _ _ _ _ _ _
  refine TC.seq ?_
  have hr : 1 ≤ op ∧ op ≤ 17 := by simpa [inR] using hb
  obtain ⟨u, hu⟩ := at_of (xs := actNames) (k := (op - 1).toNat) (by simp [specActs, actNames]; omega)
  have hu3 : actNames[op.toNat - 1]? = some u := by rw [show op.toNat - 1 = (op - 1).toNat by omega]; exact hu
  refine TC.region ?_
  refine TL.opK rfl fun K hK => ?_
  refine OpT.buildP rfl rfl (xs := actNames.map fun s => .const (.string s)) rfl rfl (tvs := actNames.map fun s => .c (.ro (.v (.string s)))) rfl rfl (sz := 1) rfl rfl rfl (by decide) (by decide) ?_
  simp only [nrm, Nat.reduceBEq, Nat.reduceBNe, reduceIte]
  refine hK _ ?_
  clear hK K
  refine TL.vE (Val.move 1 rfl rfl) ?_
  refine TL.vE (Val.sub rfl rfl rfl (by first | omega | (simp only [List.length_map]; omega)) (by first | omega | (simp only [List.length_map]; omega))) ?_
  refine TL.vE (by exact Val.index rfl rfl rfl rfl rfl rfl (by omega) (by simp [specActs, actNames]; omega)) ?_
  refine TL.valE rfl (by exact Val.load rfl rfl rfl (c := .own (.v (.string u))) (by simp [St.cellAt, St.root, rowAt, D.row, elD, cellD, hu3]) rfl) (by simp only [nput, valC]; rfl) ?_
  refine TL.vE (Val.assign 1 rfl rfl) ?_
  refine TL.nil ?_
  show TC _ _ _ _ _ _
  refine TC.ret ?_
  exact ⟨.inr rfl, [_], [_], _, rfl, by decide, rfl, by simp [refV, refC, valC], rfl, resV (by unfold actName; rw [if_pos (by simpa using hb), hu]; rfl)⟩

theorem impl_ActUses_f (k : Int) : Fun Tryz.prog 51 [I k] (RV (.string (actUses k))) := by
  refine Fun.of Tryz.func51 rfl (by simp [Tryz.ntmps51]) fun w g0 => ?_
  simp only [Tryz.ntmps51, List.length_cons, List.length_nil, Nat.reduceAdd, Nat.reduceSub, List.replicate, List.cons_append, List.nil_append]
  refine TC.seq ?_
  refine TC.region ?_
  refine TL.vE (Val.assign 1 rfl rfl) ?_
  refine TL.nil ?_
  show TC _ _ _ _ _ _
  refine TC.seq ?_
  refine TC.seq ?_
  refine TC.region ?_
  refine TL.vE (Val.move 1 rfl rfl) ?_
  refine TL.nil ?_
  show TC _ _ _ _ _ _
  refine TC.block ?_
  refine TC.seq ?_
  refine TC.seq ?_
  refine TC.region ?_
  refine TL.vE (Val.eql rfl rfl rfl) ?_
  refine TL.vE (Val.assign 1 rfl rfl) ?_
  refine TL.nil ?_
  show TC _ _ _ _ _ _
  refine TC.joinTo ⟨[.one .dead, .one .dead, .one .dead, I k, B (k == 1 || k == 5), .one .dead, .one .dead, .one .dead, .one .dead, .one .dead, .one .dead, .one .dead, .one .dead, .one .dead, .one .dead, .one .dead, .one .dead, .one .dead, .one .dead, .one .dead, .one .dead, .one .dead, .one .dead, .one .dead, .one .dead, .one .dead, .one .dead], []⟩ ?_ (fun st' hcan => ?_)
  · refine TC.cond rfl (fun hb => ?_) (fun hb => ?_)
    · have hk4 := hb
      refine TC.skip ?_
      exact ⟨rfl, (Can.to (by repeat first | exact LessT.nil | refine LessT.drop ?_ | refine LessT.keep ?_ | refine LessT.eq (by simp_all) ?_) (by repeat first | exact .nil | refine .cons rfl rfl ?_))⟩
    have hk4 := hb
    refine TC.region ?_
    refine TL.vE (Val.eql rfl rfl rfl) ?_
    refine TL.vE (Val.assign 1 rfl rfl) ?_
    refine TL.nil ?_
    exact ⟨rfl, (Can.to (by repeat first | exact LessT.nil | refine LessT.drop ?_ | refine LessT.keep ?_ | refine LessT.eq (by simp_all) ?_) (by repeat first | exact .nil | refine .cons rfl rfl ?_))⟩
  · show TC _ _ _ _ _ _
    refine TC.can hcan ?_
    clear hcan
    refine TC.cond rfl (fun hb => ?_) (fun hb => ?_)
    · have hk4 := hb
      refine TC.seq ?_
      refine TC.region ?_
      refine TL.vE (Val.assign 1 rfl rfl) ?_
      refine TL.nil ?_
      show TC _ _ _ _ _ _
      refine TC.ret ?_
      exact ⟨.inr rfl, [_], [_], _, rfl, by decide, rfl, by simp [refV, refC, valC], rfl, resV (by simp_all [actUses])⟩
    have hk4 := hb
    refine TC.seq ?_
    refine TC.seq ?_
    refine TC.region ?_
    refine TL.vE (Val.eql rfl rfl rfl) ?_
    refine TL.vE (Val.assign 1 rfl rfl) ?_
    refine TL.nil ?_
    show TC _ _ _ _ _ _
    refine TC.joinTo ⟨[.one .dead, .one .dead, .one .dead, I k, .one .dead, .one .dead, .one .dead, B (k == 2 || k == 7), .one .dead, .one .dead, .one .dead, .one .dead, .one .dead, .one .dead, .one .dead, .one .dead, .one .dead, .one .dead, .one .dead, .one .dead, .one .dead, .one .dead, .one .dead, .one .dead, .one .dead, .one .dead, .one .dead], []⟩ ?_ (fun st' hcan => ?_)
    · refine TC.cond rfl (fun hb => ?_) (fun hb => ?_)
      · have hk7 := hb
        refine TC.skip ?_
        exact ⟨rfl, (Can.to (by repeat first | exact LessT.nil | refine LessT.drop ?_ | refine LessT.keep ?_ | refine LessT.eq (by simp_all) ?_) (by repeat first | exact .nil | refine .cons rfl rfl ?_))⟩
      have hk7 := hb
      refine TC.region ?_
      refine TL.vE (Val.eql rfl rfl rfl) ?_
      refine TL.vE (Val.assign 1 rfl rfl) ?_
      refine TL.nil ?_
      exact ⟨rfl, (Can.to (by repeat first | exact LessT.nil | refine LessT.drop ?_ | refine LessT.keep ?_ | refine LessT.eq (by simp_all) ?_) (by repeat first | exact .nil | refine .cons rfl rfl ?_))⟩
    · show TC _ _ _ _ _ _
      refine TC.can hcan ?_
      clear hcan
      refine TC.cond rfl (fun hb => ?_) (fun hb => ?_)
      · have hk7 := hb
        refine TC.seq ?_
        refine TC.region ?_
        refine TL.vE (Val.assign 1 rfl rfl) ?_
        refine TL.nil ?_
        show TC _ _ _ _ _ _
        refine TC.ret ?_
        exact ⟨.inr rfl, [_], [_], _, rfl, by decide, rfl, by simp [refV, refC, valC], rfl, resV (by simp_all [actUses])⟩
      have hk7 := hb
      refine TC.seq ?_
      refine TC.seq ?_
      refine TC.region ?_
      refine TL.vE (Val.eql rfl rfl rfl) ?_
      refine TL.vE (Val.assign 1 rfl rfl) ?_
      refine TL.nil ?_
      show TC _ _ _ _ _ _
      refine TC.cond rfl (fun hb => ?_) (fun hb => ?_)
      · have hk10 := hb
        refine TC.skip ?_
        show TC _ _ _ _ _ _
        refine TC.cond rfl (fun hb => ?_) (fun hc => absurd (hc.symm.trans hk10) (by decide))
        refine TC.seq ?_
        refine TC.region ?_
        refine TL.vE (Val.assign 1 rfl rfl) ?_
        refine TL.nil ?_
        show TC _ _ _ _ _ _
        refine TC.ret ?_
        exact ⟨.inr rfl, [_], [_], _, rfl, by decide, rfl, by simp [refV, refC, valC], rfl, resV (by simp_all [actUses])⟩
      have hk10 := hb
      refine TC.seq ?_
      refine TC.region ?_
      refine TL.vE (Val.eql rfl rfl rfl) ?_
      refine TL.vE (Val.assign 1 rfl rfl) ?_
      refine TL.nil ?_
      show TC _ _ _ _ _ _
      refine TC.cond rfl (fun hb => ?_) (fun hb => ?_)
      · have hk10 := hb
        refine TC.skip ?_
        show TC _ _ _ _ _ _
        refine TC.cond rfl (fun hb => ?_) (fun hc => absurd (hc.symm.trans hk10) (by decide))
        refine TC.seq ?_
        refine TC.region ?_
        refine TL.vE (Val.assign 1 rfl rfl) ?_
        refine TL.nil ?_
        show TC _ _ _ _ _ _
        refine TC.ret ?_
        exact ⟨.inr rfl, [_], [_], _, rfl, by decide, rfl, by simp [refV, refC, valC], rfl, resV (by simp_all [actUses])⟩
      have hk10 := hb
      refine TC.seq ?_
      refine TC.region ?_
      refine TL.vE (Val.eql rfl rfl rfl) ?_
      refine TL.vE (Val.assign 1 rfl rfl) ?_
      refine TL.nil ?_
      show TC _ _ _ _ _ _
      refine TC.joinTo ⟨[.one .dead, .one .dead, .one .dead, I k, .one .dead, .one .dead, .one .dead, .one .dead, .one .dead, .one .dead, B (k == 3 || k == 4 || k == 6 || k == 12), .one .dead, .one .dead, .one .dead, .one .dead, .one .dead, .one .dead, .one .dead, .one .dead, .one .dead, .one .dead, .one .dead, .one .dead, .one .dead, .one .dead, .one .dead, .one .dead], []⟩ ?_ (fun st' hcan => ?_)
      · refine TC.cond rfl (fun hb => ?_) (fun hb => ?_)
        · have hk10 := hb
          refine TC.skip ?_
          exact ⟨rfl, (Can.to (by repeat first | exact LessT.nil | refine LessT.drop ?_ | refine LessT.keep ?_ | refine LessT.eq (by simp_all) ?_) (by repeat first | exact .nil | refine .cons rfl rfl ?_))⟩
        have hk10 := hb
        refine TC.region ?_
        refine TL.vE (Val.eql rfl rfl rfl) ?_
        refine TL.vE (Val.assign 1 rfl rfl) ?_
        refine TL.nil ?_
        exact ⟨rfl, (Can.to (by repeat first | exact LessT.nil | refine LessT.drop ?_ | refine LessT.keep ?_ | refine LessT.eq (by simp_all) ?_) (by repeat first | exact .nil | refine .cons rfl rfl ?_))⟩
      · show TC _ _ _ _ _ _
        refine TC.can hcan ?_
        clear hcan
        refine TC.cond rfl (fun hb => ?_) (fun hb => ?_)
        · have hk10 := hb
          refine TC.seq ?_
          refine TC.region ?_
          refine TL.vE (Val.assign 1 rfl rfl) ?_
          refine TL.nil ?_
          show TC _ _ _ _ _ _
          refine TC.ret ?_
          exact ⟨.inr rfl, [_], [_], _, rfl, by decide, rfl, by simp [refV, refC, valC], rfl, resV (by simp_all [actUses])⟩
        have hk10 := hb
        refine TC.seq ?_
        refine TC.region ?_
        refine TL.vE (Val.eql rfl rfl rfl) ?_
        refine TL.vE (Val.assign 1 rfl rfl) ?_
        refine TL.nil ?_
        show TC _ _ _ _ _ _
        refine TC.cond rfl (fun hb => ?_) (fun hb => ?_)
        · have hk15 := hb
          refine TC.seq ?_
          refine TC.region ?_
          refine TL.vE (Val.assign 1 rfl rfl) ?_
          refine TL.nil ?_
          show TC _ _ _ _ _ _
          refine TC.ret ?_
          exact ⟨.inr rfl, [_], [_], _, rfl, by decide, rfl, by simp [refV, refC, valC], rfl, resV (by simp_all [actUses])⟩
        have hk15 := hb
        refine TC.seq ?_
        refine TC.seq ?_
        refine TC.region ?_
        refine TL.vE (Val.eql rfl rfl rfl) ?_
        refine TL.vE (Val.assign 1 rfl rfl) ?_
        refine TL.nil ?_
        show TC _ _ _ _ _ _
        refine TC.cond rfl (fun hb => ?_) (fun hb => ?_)
        · have hk17 := hb
          refine TC.skip ?_
          show TC _ _ _ _ _ _
          refine TC.cond rfl (fun hb => ?_) (fun hc => absurd (hc.symm.trans hk17) (by decide))
          refine TC.seq ?_
          refine TC.region ?_
          refine TL.vE (Val.assign 1 rfl rfl) ?_
          refine TL.nil ?_
          show TC _ _ _ _ _ _
          refine TC.ret ?_
          exact ⟨.inr rfl, [_], [_], _, rfl, by decide, rfl, by simp [refV, refC, valC], rfl, resV (by simp_all [actUses])⟩
        have hk17 := hb
        refine TC.seq ?_
        refine TC.region ?_
        refine TL.vE (Val.eql rfl rfl rfl) ?_
        refine TL.vE (Val.assign 1 rfl rfl) ?_
        refine TL.nil ?_
        show TC _ _ _ _ _ _
        refine TC.cond rfl (fun hb => ?_) (fun hb => ?_)
        · have hk17 := hb
          refine TC.skip ?_
          show TC _ _ _ _ _ _
          refine TC.cond rfl (fun hb => ?_) (fun hc => absurd (hc.symm.trans hk17) (by decide))
          refine TC.seq ?_
          refine TC.region ?_
          refine TL.vE (Val.assign 1 rfl rfl) ?_
          refine TL.nil ?_
          show TC _ _ _ _ _ _
          refine TC.ret ?_
          exact ⟨.inr rfl, [_], [_], _, rfl, by decide, rfl, by simp [refV, refC, valC], rfl, resV (by simp_all [actUses])⟩
        have hk17 := hb
        refine TC.seq ?_
        refine TC.region ?_
        refine TL.vE (Val.eql rfl rfl rfl) ?_
        refine TL.vE (Val.assign 1 rfl rfl) ?_
        refine TL.nil ?_
        show TC _ _ _ _ _ _
        refine TC.cond rfl (fun hb => ?_) (fun hb => ?_)
        · have hk17 := hb
          refine TC.skip ?_
          show TC _ _ _ _ _ _
          refine TC.cond rfl (fun hb => ?_) (fun hc => absurd (hc.symm.trans hk17) (by decide))
          refine TC.seq ?_
          refine TC.region ?_
          refine TL.vE (Val.assign 1 rfl rfl) ?_
          refine TL.nil ?_
          show TC _ _ _ _ _ _
          refine TC.ret ?_
          exact ⟨.inr rfl, [_], [_], _, rfl, by decide, rfl, by simp [refV, refC, valC], rfl, resV (by simp_all [actUses])⟩
        have hk17 := hb
        refine TC.seq ?_
        refine TC.region ?_
        refine TL.vE (Val.eql rfl rfl rfl) ?_
        refine TL.vE (Val.assign 1 rfl rfl) ?_
        refine TL.nil ?_
        show TC _ _ _ _ _ _
        refine TC.joinTo ⟨[.one .dead, .one .dead, .one .dead, I k, .one .dead, .one .dead, .one .dead, .one .dead, .one .dead, .one .dead, .one .dead, .one .dead, .one .dead, .one .dead, .one .dead, .one .dead, .one .dead, B (k == 9 || k == 13 || k == 14 || k == 15 || k == 16), .one .dead, .one .dead, .one .dead, .one .dead, .one .dead, .one .dead, .one .dead, .one .dead, .one .dead], []⟩ ?_ (fun st' hcan => ?_)
        · refine TC.cond rfl (fun hb => ?_) (fun hb => ?_)
          · have hk17 := hb
            refine TC.skip ?_
            exact ⟨rfl, (Can.to (by repeat first | exact LessT.nil | refine LessT.drop ?_ | refine LessT.keep ?_ | refine LessT.eq (by simp_all) ?_) (by repeat first | exact .nil | refine .cons rfl rfl ?_))⟩
          have hk17 := hb
          refine TC.region ?_
          refine TL.vE (Val.eql rfl rfl rfl) ?_
          refine TL.vE (Val.assign 1 rfl rfl) ?_
          refine TL.nil ?_
          exact ⟨rfl, (Can.to (by repeat first | exact LessT.nil | refine LessT.drop ?_ | refine LessT.keep ?_ | refine LessT.eq (by simp_all) ?_) (by repeat first | exact .nil | refine .cons rfl rfl ?_))⟩
        · show TC _ _ _ _ _ _
          refine TC.can hcan ?_
          clear hcan
          refine TC.cond rfl (fun hb => ?_) (fun hb => ?_)
          · have hk17 := hb
            refine TC.seq ?_
            refine TC.region ?_
            refine TL.vE (Val.assign 1 rfl rfl) ?_
            refine TL.nil ?_
            show TC _ _ _ _ _ _
            refine TC.ret ?_
            exact ⟨.inr rfl, [_], [_], _, rfl, by decide, rfl, by simp [refV, refC, valC], rfl, resV (by simp_all [actUses])⟩
          have hk17 := hb
          refine TC.seq ?_
          refine TC.region ?_
          refine TL.vE (Val.eql rfl rfl rfl) ?_
          refine TL.vE (Val.assign 1 rfl rfl) ?_
          refine TL.nil ?_
          show TC _ _ _ _ _ _
          refine TC.cond rfl (fun hb => ?_) (fun hb => ?_)
          · have hk23 := hb
            refine TC.seq ?_
            refine TC.region ?_
            refine TL.vE (Val.assign 1 rfl rfl) ?_
            refine TL.nil ?_
            show TC _ _ _ _ _ _
            refine TC.ret ?_
            exact ⟨.inr rfl, [_], [_], _, rfl, by decide, rfl, by simp [refV, refC, valC], rfl, resV (by simp_all [actUses])⟩
          have hk23 := hb
          refine TC.seq ?_
          refine TC.region ?_
          refine TL.vE (Val.eql rfl rfl rfl) ?_
          refine TL.vE (Val.assign 1 rfl rfl) ?_
          refine TL.nil ?_
          show TC _ _ _ _ _ _
          refine TC.cond rfl (fun hb => ?_) (fun hb => ?_)
          · have hk25 := hb
            refine TC.seq ?_
            refine TC.region ?_
            refine TL.vE (Val.assign 1 rfl rfl) ?_
            refine TL.nil ?_
            show TC _ _ _ _ _ _
            refine TC.ret ?_
            exact ⟨.inr rfl, [_], [_], _, rfl, by decide, rfl, by simp [refV, refC, valC], rfl, resV (by simp_all [actUses])⟩
          have hk25 := hb
          refine TC.skip ?_
          show TC _ _ _ _ _ _
          refine TC.seq ?_
          refine TC.region ?_
          refine TL.vE (Val.assign 1 rfl rfl) ?_
          refine TL.nil ?_
          show TC _ _ _ _ _ _
          refine TC.ret ?_
          exact ⟨.inr rfl, [_], [_], _, rfl, by decide, rfl, by simp [refV, refC, valC], rfl, resV (by simp_all [actUses])⟩

theorem impl_ActOk_f (x : VAct) : Fun Tryz.prog 58 [A (rAct x)] (RV (.bool (inR x.Kind 1 17))) := by
  refine Fun.of Tryz.func58 rfl (by simp [Tryz.ntmps58]) fun w g0 => ?_
  simp only [Tryz.ntmps58, List.length_cons, List.length_nil, Nat.reduceAdd, Nat.reduceSub, List.replicate, List.cons_append, List.nil_append]
  refine TC.seq ?_
  refine TC.region ?_
  refine TL.opK rfl fun K hK => ?_
  first | refine OpT.box rfl rfl (z := 1) rfl (by simp) ?_ | refine OpT.boxAgg rfl rfl rfl ?_
  simp only [nrm, Nat.reduceBEq, Nat.reduceBNe, reduceIte]
  refine hK _ ?_
  clear hK K
  refine TL.vE (Val.assign 1 rfl rfl) ?_
  refine TL.nil ?_
  show TC _ _ _ _ _ _
  refine TC.seq ?_
  refine TC.region ?_
  refine TL.fld ?_
  refine TL.ld ?_
  refine TL.cF ((impl_within_f _ _ _).k) ?_
  refine TL.vE (Val.assign 1 rfl rfl) ?_
  refine TL.nil ?_
  show TC _ _ _ _ _ _
  refine TC.ret ?_
  exact ⟨.inr rfl, [_], [_], _, rfl, by decide, rfl, by simp [refV, refC, valC], rfl, rfl⟩
end Go.Proofs.YtfbjcdhphhfpfaaGreatDoor.T

