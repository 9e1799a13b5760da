
import Derived.Test.YteelmdpahpggkaaGreatMap
namespace Go.Proofs.YteelmdpahpggkaaGreat.T
open Go
set_option linter.unusedVariables false
set_option linter.unusedSimpArgs false
def pagesOf (t : List VSlot) : List Int := (t.map fun s => s.Page).filter fun p => decide (0 ≤ p)
def pagesIn (x : VMon) : List Int := pagesOf x.Outer
def hostOk (h : VHost) : Bool := memOk h.Memory 12 && inR h.Mons.length 1 3 && bufferOk h.Buffer && bufferOk h.IoBuffer && h.Mons.all monOk && decide (h.Mons.flatMap pagesIn).Nodup
abbrev monAt (h : VHost) (m : Int) : Option VMon := at? h.Mons m
def pageOf (h : VHost) (m n : Int) : List Int := match monAt h m with
 | none => [0, 0, 0, 0]
 | some x => if 0 ≤ n ∧ n ≤ 7 then (if (slotAt x.Outer n).Page ≠ -1 then pageAt h.Memory (slotAt x.Outer n).Page else pageAt x.Out n) else [0, 0, 0, 0]
def leftAt (x : VMon) (v : VMove) (i : Nat) : Bool := decide ((v.Have[i]?.getD []).length = 0) || x.Dirty[i]?.getD false
def moveLeft (h : VHost) (v : VMove) : List Int := match monAt h v.M with
 | none => []
 | some x => if v.Have.length = 8 then rangeF (leftAt x v) 8 else []
def mon (h : VHost) (m : Nat) : VMon := h.Mons[m]?.getD noMon
def setMon (h : VHost) (m : Nat) (x : VMon) : VHost := { h with Mons := h.Mons.set m x }
def slotOf (h : VHost) (m p : Nat) : VSlot := (mon h m).Outer[p]?.getD noSlot
def ownerIn (t : List VSlot) (page : Int) : Option Nat := t.findIdx? fun s => decide (s.Page = page)
def ownerTo (l : List VMon) (page : Int) (m : Nat) : Option (Nat × Nat) := match l with
 | [] => none
 | x :: l => match ownerIn x.Outer page with | some p => some (m, p) | none => ownerTo l page (m + 1)
def ownerOfPage (h : VHost) (page : Int) : Option (Nat × Nat) := if 0 ≤ page then ownerTo h.Mons page 0 else none
def freeB (h : VHost) (p : Nat) : Bool := (ownerOfPage h p).isNone
def freeIn (h : VHost) : List Int := rangeF (freeB h) h.Memory.length
def lessKept (x : VMon) (page : Int) : List VKept := List.zipWith (fun k (g : VGuest) => forgetUses k g.Live page) x.Tables x.Guests
def slotSet (h : VHost) (m p : Nat) (s : VSlot) : VHost :=
 let x := mon h m
 let old := (slotOf h m p).Page
 {h with Mons := h.Mons.set m { x with Tables := lessKept x p, Outer := x.Outer.set p s }, Buffer := if old = -1 then h.Buffer else flushHost h.Buffer old, IoBuffer := if old = -1 then h.IoBuffer else flushHost h.IoBuffer old }
def setOut (h : VHost) (m p : Nat) (cells : List Int) : VHost := setMon h m { mon h m with Out := (mon h m).Out.set p cells }
def setDirty (h : VHost) (m p : Nat) (b : Bool) : VHost := setMon h m { mon h m with Dirty := (mon h m).Dirty.set p b }
def sendOut (h : VHost) (m p : Nat) : VHost := slotSet (setOut h m p (pageAt h.Memory (slotOf h m p).Page)) m p noSlot
def roomFor (h : VHost) : VHost := match freeIn h with
 | [] => (match ownerOfPage h 0 with | some (m, p) => sendOut h m p | none => h)
 | _ => h
def takeIn (h : VHost) (m p : Nat) : VHost :=
 let to := (freeIn h).headD 0
 slotSet (setOut { h with Memory := withPage h.Memory to ((mon h m).Out[p]?.getD []) } m p []) m p ⟨to, 3⟩
def fetchIn (h : VHost) (m p : Nat) : VHost := takeIn (roomFor h) m p
def hasPage (h : VHost) (m page : Int) : Bool := hostOk h && decide (0 ≤ m ∧ m < h.Mons.length) && inR page 0 7
def pageOut (h : VHost) (m page : Int) : Option VHost := if hasPage h m page && decide ((slotOf h m.toNat page.toNat).Page ≠ -1) then some (sendOut h m.toNat page.toNat) else none
def guardP (h : VHost) (m p : Nat) : VHost := if (slotOf h m p).Page = -1 then setDirty h m p false else slotSet (setDirty h m p false) m p ⟨(slotOf h m p).Page, 1⟩
def guard (h : VHost) (m page : Int) : Option VHost := if hasPage h m page then some (guardP h m.toNat page.toNat) else none
def soil (h : VHost) (m p : Nat) : VHost := if iand (slotOf h m p).Rights 2 = 0 then slotSet (setDirty h m p true) m p ⟨(slotOf h m p).Page, 3⟩ else setDirty h m p true
def mendP (h : VHost) (m p : Nat) (need : Int) : VHost :=
 let h1 := if (slotOf h m p).Page = -1 then fetchIn h m p else h
 if iand need 2 = 0 then h1 else soil h1 m p
def setTable (h : VHost) (m g : Nat) (k : VKept) : VHost := setMon h m { mon h m with Tables := (mon h m).Tables.set g k }
def kept (h : VHost) (m g : Nat) : VKept := (mon h m).Tables[g]?.getD noKept
def guestOf (h : VHost) (m g : Nat) : VGuest := (mon h m).Guests[g]?.getD noGuest
def lets (s : Option VSlot) (need : Int) : Bool := match s with | some s => decide (s.Page ≠ -1) && enough s.Rights need | none => false
def filled (h : VHost) (m g : Nat) (page : Int) (q : Nat) (need : Int) : VHost :=
 if lets (ask (kept h m g) page) need then h else
 let h1 := mendP h m q need
 setTable h1 m g (fillK (kept h1 m g) (guestOf h1 m g).Live (mon h1 m).Outer page)
def hasMon (h : VHost) (m : Int) : Bool := hostOk h && decide (0 ≤ m ∧ m < h.Mons.length)
def yields {α : Type} (x : α) (q : Option α) : α × VTold := (q.getD x, ⟨q.isSome, 0⟩)
def moves (h : VHost) (v : VMove) : Bool := hasMon h v.M && decide (v.Have.length = 8)
def moveCopy (h : VHost) (v : VMove) (page : Int) : Option (VHost × VMove) := if moves h v && inR page 0 7 then some ((guard h v.M page).getD h, { v with Have := put v.Have page (pageOf h v.M page) }) else none
def fillLeft (h : VHost) (v : VMove) : List Int → List (List Int) → List (List Int)
 | [], o => o
 | p :: l, o => fillLeft h v l (put o p (pageOf h v.M p))
def moveImage (h : VHost) (v : VMove) : Option VMon := if moves h v then (at? h.Mons v.M).map fun x => { x with Out := fillLeft h v (moveLeft h v) v.Have, Outer := tableNew 8, Dirty := List.replicate 8 false, Tables := x.Tables.map fun _ => keptNew } else none
def outTo (h : VHost) (m : Int) : Nat → VHost
 | 0 => h
 | n + 1 => (pageOut (outTo h m n) m n).getD (outTo h m n)
def haltAll (h : VHost) (m : Nat) : VHost := setMon h m { mon h m with Guests := (mon h m).Guests.map fun g => { g with Halted := true } }
def fence (h : VHost) (m : Int) : Option VHost := if hasMon h m then some (haltAll (outTo h m 8) m.toNat) else none
def land (h : VHost) (x : VMon) : Option VHost := if hostOk h && decide (h.Mons.length < 3) && monOk x && decide (mapped x.Outer ≤ 0) then some { h with Mons := h.Mons ++ [x] } else none
def moveNew (m : Int) : VMove := ⟨m, List.replicate 8 []⟩
def copyAll (h : VHost) (v : VMove) : List Int → VHost × VMove
 | [] => (h, v)
 | p :: l => match moveCopy h v p with | some q => copyAll q.1 q.2 l | none => copyAll h v l
def moveAll (src dst : VHost) (m : Int) (pages : List Int) : Option (VHost × VHost × Int) :=
 let q := copyAll src (moveNew m) pages
 match moveImage q.1 q.2 with
 | none => none
 | some x => match land dst x with
  | none => none
  | some t => some ((fence q.1 m).getD q.1, t, (dst.Mons.length : Int))
end Go.Proofs.YteelmdpahpggkaaGreat.T

namespace Go.Proofs.YteelmdpahpggkaaGreat.T
open Go
set_option linter.unusedVariables false
set_option linter.unusedSimpArgs false
set_option maxRecDepth 100000
set_option maxHeartbeats 1000000
instance : Q ((0 : Int) ≤ 8 ∧ (8 : Int) ≤ 1000) := ⟨by omega⟩
instance : Q ((0 : Int) ≤ 12 ∧ (12 : Int) ≤ 1000) := ⟨by omega⟩
theorem at_in {α : Type} {xs : List α} {i : Int} {y : α} (h : 0 ≤ i) (hy : xs[i.toNat]? = some y) : at? xs i = some y := by unfold at?; rw [if_pos h, hy]
theorem at_out {α : Type} {xs : List α} {i : Int} (h : ¬ (0 ≤ i ∧ i < xs.length)) : at? xs i = none := by
 unfold at?
 split
 ·exact List.getElem?_eq_none (by omega)
 ·rfl
theorem spec_l01In_f (n : Int) (a : Int) (b : Int) : Fun Tryz.prog 180 [I n, I a, I b] (RV (.bool (inR n a b))) := by
 refine Fun.w 15 Tryz.func180 fun w g0 _ => ?_
 refine cnd (fun hg3 => ?_) (fun hg3 => ?_)
 ·exact resV (by first | (rfl; done) | (simp_all; done) | (simp_all; omega) | (refine congrArg Value.bool ?_; rw [Bool.eq_iff_iff]; simp; omega))
 ·exact resV (by first | (rfl; done) | (simp_all; done) | (simp_all; omega) | (refine congrArg Value.bool ?_; rw [Bool.eq_iff_iff]; simp; omega))
theorem impl_within_f (n : Int) (a : Int) (b : Int) : Fun Tryz.prog 185 [I n, I a, I b] (RV (.bool (inR n a b))) := by
 refine Fun.w 15 Tryz.func185 fun w g0 _ => ?_
 refine cnd (fun hg3 => ?_) (fun hg3 => ?_)
 ·exact resV (by first | (rfl; done) | (simp_all; done) | (simp_all; omega) | (refine congrArg Value.bool ?_; rw [Bool.eq_iff_iff]; simp; omega))
 ·exact resV (by first | (rfl; done) | (simp_all; done) | (simp_all; omega) | (refine congrArg Value.bool ?_; rw [Bool.eq_iff_iff]; simp; omega))
theorem impl_has_f (k : Int) (n : Int) : Fun Tryz.prog 141 [I k, I n] (RV (.bool (decide (0 ≤ k ∧ k < n)))) := by
 refine Fun.w 12 Tryz.func141 fun w g0 _ => ?_
 refine cnd (fun hg2 => ?_) (fun hg2 => ?_)
 ·exact resV (by first | (rfl; done) | (simp_all; done) | (simp_all; omega) | (refine congrArg Value.bool ?_; rw [Bool.eq_iff_iff]; simp; omega))
 ·exact resV (by first | (rfl; done) | (simp_all; done) | (simp_all; omega) | (refine congrArg Value.bool ?_; rw [Bool.eq_iff_iff]; simp; omega))
theorem spec_Brought_f (n : Int) (a : Int) (b : Int) : Fun Tryz.prog 170 [I n, I a, I b] (RV (.int .i64 (brought n a b))) := by
 refine Fun.w 21 Tryz.func170 fun w g0 _ => ?_
 refine cnd (fun hg3 => ?_) (fun hg3 => ?_)
 ·exact resV (by first | (simp_all [brought]; done) | (simp_all [brought]; omega) | (simp_all [brought] <;> (try intros) <;> omega) | (refine congrArg Value.bool ?_; rw [Bool.eq_iff_iff]; simp [brought]; omega) | (simp_all [brought] <;> rfl))
 ·refine cnd (fun hb => ?_) (fun hb => ?_)
  ·exact resV (by first | (simp_all [brought]; done) | (simp_all [brought]; omega) | (simp_all [brought] <;> (try intros) <;> omega) | (refine congrArg Value.bool ?_; rw [Bool.eq_iff_iff]; simp [brought]; omega) | (simp_all [brought] <;> rfl))
  ·refine cnd (fun hb2 => ?_) (fun hb2 => ?_)
   ·exact resV (by first | (simp_all [brought]; done) | (simp_all [brought]; omega) | (simp_all [brought] <;> (try intros) <;> omega) | (refine congrArg Value.bool ?_; rw [Bool.eq_iff_iff]; simp [brought]; omega) | (simp_all [brought] <;> rfl))
   ·exact resV (by first | (simp_all [brought]; done) | (simp_all [brought]; omega) | (simp_all [brought] <;> (try intros) <;> omega) | (refine congrArg Value.bool ?_; rw [Bool.eq_iff_iff]; simp [brought]; omega) | (simp_all [brought] <;> rfl))
theorem impl_Brought_f (n : Int) (a : Int) (b : Int) : Fun Tryz.prog 174 [I n, I a, I b] (RV (.int .i64 (brought n a b))) := by
 refine Fun.w 19 Tryz.func174 fun w g0 _ => ?_
 refine cnd (fun hg3 => ?_) (fun hg3 => ?_)
 ·exact resV (by first | (simp_all [brought]; done) | (simp_all [brought]; omega) | (simp_all [brought] <;> (try intros) <;> omega) | (refine congrArg Value.bool ?_; rw [Bool.eq_iff_iff]; simp [brought]; omega) | (simp_all [brought] <;> rfl))
 ·refine cnd (fun hb => ?_) (fun hb => ?_)
  ·exact resV (by first | (simp_all [brought]; done) | (simp_all [brought]; omega) | (simp_all [brought] <;> (try intros) <;> omega) | (refine congrArg Value.bool ?_; rw [Bool.eq_iff_iff]; simp [brought]; omega) | (simp_all [brought] <;> rfl))
  ·exact resV (by first | (simp_all [brought]; done) | (simp_all [brought]; omega) | (simp_all [brought] <;> (try intros) <;> omega) | (refine congrArg Value.bool ?_; rw [Bool.eq_iff_iff]; simp [brought]; omega) | (simp_all [brought] <;> rfl))
theorem spec_RightsOk_f (r : Int) : Fun Tryz.prog 294 [I r] (RV (.bool (inR r 0 3))) := by
 refine Fun.w 5 Tryz.func294 fun w g0 _ => ?_
 refine callP (spec_l01In_f _ _ _).k ?_
 exact rfl
theorem impl_RightsOk_f (r : Int) : Fun Tryz.prog 301 [I r] (RV (.bool (inR r 0 3))) := by
 refine Fun.w 5 Tryz.func301 fun w g0 _ => ?_
 refine callP (impl_within_f _ _ _).k ?_
 exact rfl
theorem spec_Enough_f (r : Int) (n : Int) : Fun Tryz.prog 196 [I r, I n] (RV (.bool (enough r n))) := by
 refine Fun.w 18 Tryz.func196 fun w g0 _ => ?_
 refine callP (spec_RightsOk_f _).k ?_
 refine cnd (fun hg2 => ?_) (fun hg2 => ?_)
 ·refine callP (spec_RightsOk_f _).k ?_
  refine cnd (fun hg6 => ?_) (fun hg6 => ?_)
  ·exact resV (by first | (simp_all [enough]; done) | (simp_all [enough]; omega) | (simp_all [enough] <;> (try intros) <;> omega) | (refine congrArg Value.bool ?_; rw [Bool.eq_iff_iff]; simp [enough]; omega) | (simp_all [enough] <;> rfl))
  ·exact resV (by first | (simp_all [enough]; done) | (simp_all [enough]; omega) | (simp_all [enough] <;> (try intros) <;> omega) | (refine congrArg Value.bool ?_; rw [Bool.eq_iff_iff]; simp [enough]; omega) | (simp_all [enough] <;> rfl))
 ·exact resV (by first | (simp_all [enough]; done) | (simp_all [enough]; omega) | (simp_all [enough] <;> (try intros) <;> omega) | (refine congrArg Value.bool ?_; rw [Bool.eq_iff_iff]; simp [enough]; omega) | (simp_all [enough] <;> rfl))
theorem impl_Enough_f (r : Int) (n : Int) : Fun Tryz.prog 211 [I r, I n] (RV (.bool (enough r n))) := by
 refine Fun.w 18 Tryz.func211 fun w g0 _ => ?_
 refine callP (impl_RightsOk_f _).k ?_
 refine cnd (fun hg2 => ?_) (fun hg2 => ?_)
 ·refine callP (impl_RightsOk_f _).k ?_
  refine cnd (fun hg6 => ?_) (fun hg6 => ?_)
  ·exact resV (by first | (simp_all [enough]; done) | (simp_all [enough]; omega) | (simp_all [enough] <;> (try intros) <;> omega) | (refine congrArg Value.bool ?_; rw [Bool.eq_iff_iff]; simp [enough]; omega) | (simp_all [enough] <;> rfl))
  ·exact resV (by first | (simp_all [enough]; done) | (simp_all [enough]; omega) | (simp_all [enough] <;> (try intros) <;> omega) | (refine congrArg Value.bool ?_; rw [Bool.eq_iff_iff]; simp [enough]; omega) | (simp_all [enough] <;> rfl))
 ·exact resV (by first | (simp_all [enough]; done) | (simp_all [enough]; omega) | (simp_all [enough] <;> (try intros) <;> omega) | (refine congrArg Value.bool ?_; rw [Bool.eq_iff_iff]; simp [enough]; omega) | (simp_all [enough] <;> rfl))
theorem spec_NoSlot_f  : Fun Tryz.prog 183 [] (RP (A (rSlot noSlot))) := by
 refine Fun.w 2 Tryz.func183 fun w g0 _ => ?_
 exact rfl
theorem impl_NoSlot_f  : Fun Tryz.prog 209 [] (RP (A (rSlot noSlot))) := by
 refine Fun.w 2 Tryz.func209 fun w g0 _ => ?_
 exact rfl
theorem spec_SlotOk_f (x : VSlot) (pages : Int) [hp0 : Q (0 ≤ pages ∧ pages ≤ 1000)] : Fun Tryz.prog 290 [A (rSlot x), I pages] (RV (.bool (slotOk x pages))) := by
 refine Fun.w 24 Tryz.func290 fun w g0 _ => ?_
 have hp := hp0.h
 refine regQ ?_
 refine callQ (spec_NoSlot_f).k ?_
 refine eqa ?_
 refine cnd (fun hg3 => ?_) (fun hg3 => ?_)
 ·exact resV (by first | (cases x; (simp_all [slotOk]; done)) | (cases x; (simp_all [slotOk]; omega)) | (cases x; (simp_all [slotOk] <;> (try intros) <;> omega)) | (cases x; (refine congrArg Value.bool ?_; rw [Bool.eq_iff_iff]; simp [slotOk]; omega)) | (cases x; (simp_all [slotOk] <;> rfl)))
 ·refine rng ?_
  refine callQ (spec_l01In_f _ _ _).k ?_
  refine cnd (fun hg9 => ?_) (fun hg9 => ?_)
  ·refine cnd (fun hg13 => ?_) (fun hg13 => ?_)
   ·refine callQ (spec_l01In_f _ _ _).k ?_
    exact resV (by first | (cases x; (simp_all [slotOk]; done)) | (cases x; (simp_all [slotOk]; omega)) | (cases x; (simp_all [slotOk] <;> (try intros) <;> omega)) | (cases x; (refine congrArg Value.bool ?_; rw [Bool.eq_iff_iff]; simp [slotOk]; omega)) | (cases x; (simp_all [slotOk] <;> rfl)))
   ·exact resV (by first | (cases x; (simp_all [slotOk]; done)) | (cases x; (simp_all [slotOk]; omega)) | (cases x; (simp_all [slotOk] <;> (try intros) <;> omega)) | (cases x; (refine congrArg Value.bool ?_; rw [Bool.eq_iff_iff]; simp [slotOk]; omega)) | (cases x; (simp_all [slotOk] <;> rfl)))
  ·exact resV (by first | (cases x; (simp_all [slotOk]; done)) | (cases x; (simp_all [slotOk]; omega)) | (cases x; (simp_all [slotOk] <;> (try intros) <;> omega)) | (cases x; (refine congrArg Value.bool ?_; rw [Bool.eq_iff_iff]; simp [slotOk]; omega)) | (cases x; (simp_all [slotOk] <;> rfl)))
theorem impl_SlotOk_f (x : VSlot) (pages : Int) [hp0 : Q (0 ≤ pages ∧ pages ≤ 1000)] : Fun Tryz.prog 297 [A (rSlot x), I pages] (RV (.bool (slotOk x pages))) := by
 refine Fun.w 24 Tryz.func297 fun w g0 _ => ?_
 have hp := hp0.h
 refine regQ ?_
 refine callQ (impl_NoSlot_f).k ?_
 refine eqa ?_
 refine cnd (fun hg3 => ?_) (fun hg3 => ?_)
 ·exact resV (by first | (cases x; (simp_all [slotOk]; done)) | (cases x; (simp_all [slotOk]; omega)) | (cases x; (simp_all [slotOk] <;> (try intros) <;> omega)) | (cases x; (refine congrArg Value.bool ?_; rw [Bool.eq_iff_iff]; simp [slotOk]; omega)) | (cases x; (simp_all [slotOk] <;> rfl)))
 ·refine cnd (fun hg6 => ?_) (fun hg6 => ?_)
  ·refine rng ?_
   refine callQ (impl_within_f _ _ _).k ?_
   refine cnd (fun hg13 => ?_) (fun hg13 => ?_)
   ·refine callQ (impl_within_f _ _ _).k ?_
    exact resV (by first | (cases x; (simp_all [slotOk]; done)) | (cases x; (simp_all [slotOk]; omega)) | (cases x; (simp_all [slotOk] <;> (try intros) <;> omega)) | (cases x; (refine congrArg Value.bool ?_; rw [Bool.eq_iff_iff]; simp [slotOk]; omega)) | (cases x; (simp_all [slotOk] <;> rfl)))
   ·exact resV (by first | (cases x; (simp_all [slotOk]; done)) | (cases x; (simp_all [slotOk]; omega)) | (cases x; (simp_all [slotOk] <;> (try intros) <;> omega)) | (cases x; (refine congrArg Value.bool ?_; rw [Bool.eq_iff_iff]; simp [slotOk]; omega)) | (cases x; (simp_all [slotOk] <;> rfl)))
  ·exact resV (by first | (cases x; (simp_all [slotOk]; done)) | (cases x; (simp_all [slotOk]; omega)) | (cases x; (simp_all [slotOk] <;> (try intros) <;> omega)) | (cases x; (refine congrArg Value.bool ?_; rw [Bool.eq_iff_iff]; simp [slotOk]; omega)) | (cases x; (simp_all [slotOk] <;> rfl)))
theorem spec_SlotAt_f (t : List VSlot) (n : Int) : Fun Tryz.prog 218 [L 2 (t.map dSlot), I n] (RP (A (rSlot (slotAt t n)))) := by
 refine Fun.w 16 Tryz.func218 fun w g0 hM => ?_
 have hl0 := hM.1.map
 refine len ?_
 refine rng ?_
 refine callP (spec_l01In_f _ _ _).k ?_
 refine cnd (fun hb => ?_) (fun hb => ?_)
 ·refine callP (spec_NoSlot_f).k ?_
  exact (by first | (rw [slotAt, at_out (by omega)]; rfl) | (rw [slotAt, at_in (by omega) (by assumption)]; rfl))
 ·first | refine ixm (by assumption) ?_ | refine bnd ?_ | refine bndi ?_ | refine ixkq (fun y14 hy14 qy14 ly14 => ?_) | refine ixiq (fun y14 hy14 qy14 ly14 => ?_)
  first | refine ixs ?_ | refine ixo (by assumption) ?_ | refine ixoq (fun z1 hz1 qz1 lz1 => ?_) | skip
  exact (by first | (rw [slotAt, at_out (by omega)]; rfl) | (rw [slotAt, at_in (by omega) (by assumption)]; rfl))
theorem impl_SlotAt_f (t : List VSlot) (n : Int) : Fun Tryz.prog 221 [L 2 (t.map dSlot), I n] (RP (A (rSlot (slotAt t n)))) := by
 refine Fun.w 15 Tryz.func221 fun w g0 hM => ?_
 have hl0 := hM.1.map
 refine len ?_
 refine callP (impl_has_f _ _).k ?_
 refine cnd (fun hb => ?_) (fun hb => ?_)
 ·refine callP (impl_NoSlot_f).k ?_
  exact (by first | (rw [slotAt, at_out (by omega)]; rfl) | (rw [slotAt, at_in (by omega) (by assumption)]; rfl))
 ·first | refine ixm (by assumption) ?_ | refine bnd ?_ | refine bndi ?_ | refine ixkq (fun y13 hy13 qy13 ly13 => ?_) | refine ixiq (fun y13 hy13 qy13 ly13 => ?_)
  first | refine ixs ?_ | refine ixo (by assumption) ?_ | refine ixoq (fun z1 hz1 qz1 lz1 => ?_) | skip
  exact (by first | (rw [slotAt, at_out (by omega)]; rfl) | (rw [slotAt, at_in (by omega) (by assumption)]; rfl))
end Go.Proofs.YteelmdpahpggkaaGreat.T

