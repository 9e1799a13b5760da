
import Derived.Test.YtcmoifejjodgcaaNrp
import Derived.Test.YtcmoifejjodgcaaOfp
import Derived.Test.YtcmoifejjodgcaaNpp
import Derived.Test.YtcmoifejjodgcaaMbp
import Derived.Test.YtcmoifejjodgcaaRows
import Derived.WalkKit
import Derived.WalkSpells
import Derived.WalkLawsBesides
import Derived.ProofKit
import Derived.OpenShut
import Derived.Lib.Hide
import Derived.Test.YtcmoifejjodgcaaT3p
import Derived.LoopTactic
import Derived.BigQuiet
import Derived.Laws.Bits128
import Derived.Deep.QuietTactic
namespace Go.Proofs.Ytcmoifejjodgcaa.T
open Go
set_option linter.unusedVariables false
set_option linter.unusedSimpArgs false
set_option maxRecDepth 100000
set_option maxHeartbeats 8000000
def hostGo (all : List (List (List VIns))) (i : Nat) : VHost := ⟨memNew 12, (all.take i).map monNew, [], []⟩
theorem hostGo_end {all : List (List (List VIns))} {i : Nat} (h : i = min all.length 3) : hostGo all i = hostNew all := by
 have e : all.take i = all.take 3 := by
  subst h
  rcases Nat.le_total all.length 3 with h | h
  ·rw [Nat.min_eq_left h, List.take_of_length_le (Nat.le_refl _), List.take_of_length_le h]
  ·rw [Nat.min_eq_right h]
 unfold hostGo hostNew
 rw [e]
theorem monGo_end2 {ps : List (List VIns)} {i : Nat} (h : i ≤ 2 ∧ i ≤ ps.length) (h2 : ¬ i < ps.length ∨ ¬ i < 2) : monGo ps i = monNew ps := monGo_end (by omega)
theorem hostGo_end2 {ps : List (List (List VIns))} {i : Nat} (h : i ≤ 3 ∧ i ≤ ps.length) (h2 : ¬ i < ps.length ∨ ¬ i < 3) : hostGo ps i = hostNew ps := hostGo_end (by omega)
theorem sm_guestNew {p : List VIns} (hp : SmInsS p) : SmGuest (guestNew p) := ⟨hp, by show (tableNew 4).length ≤ _; decide, by show (tableNew 4).length ≤ _; decide, by show ([] : List Int).length ≤ _; decide⟩
theorem sm_monNew {ps : List (List VIns)} (hp : SmInsSS ps) : SmMon (monNew ps) := by
 refine ⟨by show (tableNew 8).length ≤ _; decide, sm_memNew 8 (by decide), by show (List.replicate 8 false).length ≤ _; decide, ⟨?_, fun x hx => ?_⟩, by show ([] : List Int).length ≤ _; decide, ⟨?_, fun x hx => ?_⟩⟩
 ·show ((ps.take 2).map guestNew).length ≤ _
  rw [List.length_map, List.length_take]
  omega
 ·obtain ⟨y, hy, rfl⟩ := List.mem_map.1 hx
  exact sm_guestNew (hp.2 y (List.mem_of_mem_take hy))
 ·show ((ps.take 2).map _).length ≤ _
  rw [List.length_map, List.length_take]
  omega
 ·obtain ⟨y, hy, rfl⟩ := List.mem_map.1 hx
  exact ⟨by show (List.replicate 4 false).length ≤ _; decide, by show (List.replicate 4 noSlot).length ≤ _; decide⟩
theorem sm_hostNew {all : List (List (List VIns))} (hp : SmInsSSS all) : SmHost (hostNew all) := by
 refine ⟨sm_memNew 12 (by decide), ⟨?_, fun x hx => ?_⟩, by show (0 : Nat) ≤ _; decide, by show (0 : Nat) ≤ _; decide⟩
 ·show ((all.take 3).map monNew).length ≤ _
  rw [List.length_map, List.length_take]
  omega
 ·obtain ⟨y, hy, rfl⟩ := List.mem_map.1 hx
  exact sm_monNew (hp.2 y (List.mem_of_mem_take hy))
instance (ps : List (List VIns)) [h : Q (SmInsSS ps)] : Q (SmMon (monNew ps)) := ⟨sm_monNew h.h⟩
instance (all : List (List (List VIns))) [h : Q (SmInsSSS all)] : Q (SmHost (hostNew all)) := ⟨sm_hostNew h.h⟩
theorem sm_guardTo {h : VHost} {m : Int} (hh : SmHost h) : ∀ n, SmHost (guardTo h m n)
 | 0 => hh
 | n + 1 => sm_guard (sm_guardTo hh n)
instance (h : VHost) (m : Int) (n : Nat) [hh : Q (SmHost h)] : Q (SmHost (guardTo h m n)) := ⟨sm_guardTo hh.h n⟩
theorem spec_MonNew_f (ps : List (List VIns)) [Q (SmInsSS ps)] : Fun Try.prog 16 [L 1 (ps.map dInsS)] (RG [.a (rMon (monNew ps))]) := by
 refine Fun.w 36 Try.func16 fun w g0 hM => ?_
 have hl0 := hM.1.map
 refine regTJ [5] [] [] (.fork (.alt 0 (.fork (.alt 1 (.fork (.alt 2 (.fork (.alt 3 (.fork (.alt 4 (.fork (.alt 5 .done .stop)) .stop)) (.alt 4 (.fork (.alt 3 (.fork (.alt 5 .done .stop)) .stop)) .stop))) (.alt 4 (.fork (.alt 2 (.fork (.alt 3 (.fork (.alt 5 .done .stop)) .stop)) .stop)) .stop))) (.alt 2 (.fork (.alt 1 (.fork (.alt 3 (.fork (.alt 4 (.fork (.alt 5 .done .stop)) .stop)) (.alt 4 (.fork (.alt 3 (.fork (.alt 5 .done .stop)) .stop)) .stop))) (.alt 4 (.fork (.alt 1 (.fork (.alt 3 (.fork (.alt 5 .done .stop)) .stop)) .stop)) .stop))) (.alt 4 (.fork (.alt 1 (.fork (.alt 2 (.fork (.alt 3 (.fork (.alt 5 .done .stop)) .stop)) .stop)) (.alt 2 (.fork (.alt 1 (.fork (.alt 3 (.fork (.alt 5 .done .stop)) .stop)) .stop)) .stop))) .stop)))) (.alt 2 (.fork (.alt 0 (.fork (.alt 1 (.fork (.alt 3 (.fork (.alt 4 (.fork (.alt 5 .done .stop)) .stop)) (.alt 4 (.fork (.alt 3 (.fork (.alt 5 .done .stop)) .stop)) .stop))) (.alt 4 (.fork (.alt 1 (.fork (.alt 3 (.fork (.alt 5 .done .stop)) .stop)) .stop)) .stop))) (.alt 4 (.fork (.alt 0 (.fork (.alt 1 (.fork (.alt 3 (.fork (.alt 5 .done .stop)) .stop)) .stop)) .stop)) .stop))) (.alt 4 (.fork (.alt 0 (.fork (.alt 1 (.fork (.alt 2 (.fork (.alt 3 (.fork (.alt 5 .done .stop)) .stop)) .stop)) (.alt 2 (.fork (.alt 1 (.fork (.alt 3 (.fork (.alt 5 .done .stop)) .stop)) .stop)) .stop))) (.alt 2 (.fork (.alt 0 (.fork (.alt 1 (.fork (.alt 3 (.fork (.alt 5 .done .stop)) .stop)) .stop)) .stop)) .stop))) .stop)))) [0, 2] [] [3] [.set 3 (.one (.ptr ⟨3, [], 0⟩))] [(3, ⟨true, [.own (.sl 2 ((tableNew 8).map dSlot)), .own (.sl 1 ((memNew 8).map dIntS)), .own (.sl 1 ((List.replicate 8 false).map dBool)), .own (.sl 15 ([])), .own (.sl 1 []), .own (.v (.int .i64 0)), .own (.v (.int .i64 0)), .own (.sl 2 ([])), .own (.v (.int .i64 0))]⟩)] ?_
 refine ⟨?_, ?_⟩
 ·repeat' first | exact True.intro | refine And.intro ?_ ?_ | (intro _ _) | refine callL (spec_TableNew_f 8 (by decide)).k ?_ | refine callL (spec_MemNew_f 8 (by decide)).k ?_ | refine mkw 8 ?_ | exact rfl | (refine eqS ?_; simp [*]; done)
 refine loopA [0, 2, 3] [] [3] (fun (i : Nat) => [.set 4 (I i)]) (fun (i : Nat) => [(3, ⟨true, [.own (.sl 2 ((tableNew 8).map dSlot)), .own (.sl 1 ((memNew 8).map dIntS)), .own (.sl 1 ((List.replicate 8 false).map dBool)), .own (.sl 15 (((ps.take i).map guestNew).map dGuest)), .own (.sl 1 []), .own (.v (.int .i64 0)), .own (.v (.int .i64 0)), .own (.sl 2 ((List.replicate i keptNew).map dKept)), .own (.v (.int .i64 0))]⟩)]) (fun (i : Nat) => i ≤ 2 ∧ i ≤ ps.length) (fun (i : Nat) => 2 - i) (0) (⟨by omega, by omega⟩) ?_
 refine ⟨hda, fun i hyp N1 hN1 => ?_⟩
 have hyp : i ≤ 2 ∧ i ≤ ps.length := hyp
 have hyp1 := hyp.1
 have hyp2 := hyp.2
 refine len ?_
 refine cnd (fun hg4 => ?_) (fun hg4 => ?_)
 ·refine cnd (fun hb => ?_) (fun hb => ?_)
  ·obtain ⟨p, hp⟩ : ∃ p, ps[i]? = some p := ⟨_, List.getElem?_eq_getElem (by omega)⟩
   have qp : Q (SmInsS p) := ⟨ElS.h p (List.mem_of_getElem? hp)⟩
   refine regU [8, 10] [(0, 0), (1, 0), (2, 0), (3, 0), (4, 0), (5, 0), (6, 1), (7, 1), (8, 1), (9, 0), (10, 1)] ?_
   refine ixm hp ?_
   first | refine ixs ?_ | refine ixo (by assumption) ?_ | refine ixoq (fun z1 hz1 qz1 lz1 => ?_) | skip
   refine callG (spec_GuestNew_f p).k ?_
   first | refine appOq ?_ | refine appO ?_
   refine regU [4, 6] [(0, 0), (1, 0), (2, 1), (3, 1), (4, 1), (5, 0), (6, 1)] ?_
   refine callG (spec_KeptNew_f).k ?_
   first | refine appOq ?_ | refine appO ?_
   refine rng ?_
   refine hN1 _ _ _ ?_
   refine nxa (i + 1) (⟨by omega, by omega⟩) (by repeat' first | exact rfl | refine And.intro ?_ ?_ | exact True.intro | (refine eqS ?_; simp [List.take_add_one, List.set_set, rangeF_succ, List.replicate_succ', List.take_add_one, hp, *]; done) | (refine eqS ?_; exact congrArg (fun z : Int => (I z : TS)) (by omega)))
  ·refine hN1 _ _ _ ?_
   exact (by rw [← monGo_end2 hyp (by omega)]; rfl)
 ·refine hN1 _ _ _ ?_
  exact (by rw [← monGo_end2 hyp (by omega)]; rfl)
theorem spec_HostNew_f (al : List (List (List VIns))) [Q (SmInsSSS al)] : Fun Try.prog 6 [L 1 (al.map dInsSS)] (RG [.a (rHost (hostNew al))]) := by
 refine Fun.w 28 Try.func6 fun w g0 hM => ?_
 have hl0 := hM.1.map
 refine callL (spec_MemNew_f 12 (by decide)).k ?_
 refine loopA [0, 2, 3] [] [3, 6] (fun (i : Nat) => [.set 4 (I i)]) (fun (i : Nat) => [(3, ⟨true, [.own (.sl 1 ((memNew 12).map dIntS)), .own (.sl 9 (((al.take i).map monNew).map dMon)), .own (.sl 4 []), .own (.sl 4 [])]⟩)]) (fun (i : Nat) => i ≤ 3 ∧ i ≤ al.length) (fun (i : Nat) => 3 - i) (0) (⟨by omega, by omega⟩) ?_
 refine ⟨hda, fun i hyp N1 hN1 => ?_⟩
 have hyp : i ≤ 3 ∧ i ≤ al.length := hyp
 have hyp1 := hyp.1
 have hyp2 := hyp.2
 refine len ?_
 refine cnd (fun hg4 => ?_) (fun hg4 => ?_)
 ·refine cnd (fun hb => ?_) (fun hb => ?_)
  ·obtain ⟨p, hp⟩ : ∃ p, al[i]? = some p := ⟨_, List.getElem?_eq_getElem (by omega)⟩
   have qp : Q (SmInsSS p) := ⟨ElS.h p (List.mem_of_getElem? hp)⟩
   refine regU [8, 10] [(0, 0), (1, 0), (2, 0), (3, 0), (4, 0), (5, 0), (6, 1), (7, 1), (8, 1), (9, 0), (10, 1)] ?_
   refine ixm hp ?_
   first | refine ixs ?_ | refine ixo (by assumption) ?_ | refine ixoq (fun z1 hz1 qz1 lz1 => ?_) | skip
   refine callG (spec_MonNew_f p).k ?_
   first | refine appOq ?_ | refine appO ?_
   refine rng ?_
   refine hN1 _ _ _ ?_
   refine nxa (i + 1) (⟨by omega, by omega⟩) (by repeat' first | exact rfl | refine And.intro ?_ ?_ | exact True.intro | (refine eqS ?_; simp [List.take_add_one, List.set_set, rangeF_succ, List.take_add_one, hp, *]; done) | (refine eqS ?_; exact congrArg (fun z : Int => (I z : TS)) (by omega)))
  ·refine hN1 _ _ _ ?_
   exact (by rw [← hostGo_end2 hyp (by omega)]; rfl)
 ·refine hN1 _ _ _ ?_
  exact (by rw [← hostGo_end2 hyp (by omega)]; rfl)
end Go.Proofs.Ytcmoifejjodgcaa.T

namespace Go.Proofs.Ytcmoifejjodgcaa.T
open Go
set_option linter.unusedVariables false
set_option linter.unusedSimpArgs false
set_option maxRecDepth 100000
set_option maxHeartbeats 8000000
theorem sm_land {h : VHost} {x : VMon} (hh : SmHost h) (hx : SmMon x) : SmHost ((land h x).getD h) := by
 unfold land
 split
 ·rename_i hc
  simp only [Bool.and_eq_true, decide_eq_true_eq] at hc
  refine ⟨hh.1, ⟨?_, ?_⟩, hh.2.2⟩
  ·simp only [Option.getD_some, List.length_append, List.length_cons, List.length_nil]; omega
  ·intro y hy
   rcases List.mem_append.1 hy with hy | hy
   ·exact hh.2.1.2 y hy
   ·rw [List.mem_singleton.1 hy]; exact hx
 ·exact hh
instance (h : VHost) (x : VMon) [hh : Q (SmHost h)] [hx : Q (SmMon x)] : Q (SmHost ((land h x).getD h)) := ⟨sm_land hh.h hx.h⟩
abbrev cqTo (a : VHost) (m : Int) (l : List Int) (i : Nat) : VHost × VMove := copyAll a (moveNew m) (l.take i)
theorem sm_copyAll : ∀ {l : List Int} {h : VHost} {v : VMove}, SmHost h → SmMove v → SmHost (copyAll h v l).1 ∧ SmMove (copyAll h v l).2
 | [], h, v, hh, hv => ⟨hh, hv⟩
 | p :: l, h, v, hh, hv => by
  have h1 := sm_mcH (v := v) (p := p) hh
  have h2 := sm_mcV (p := p) hh hv
  unfold mcH at h1
  unfold mcV at h2
  rw [copyAll]
  cases e : moveCopy h v p with
  | none => exact sm_copyAll hh hv
  | some q =>
   rw [e] at h1 h2
   exact sm_copyAll h1 h2
theorem sm_moveNew (m : Int) : SmMove (moveNew m) := ⟨by simp [moveNew], fun x hx => by rw [List.eq_of_mem_replicate hx]; simp [SmIntS]⟩
instance (a : VHost) (m : Int) (l : List Int) (i : Nat) [hh : Q (SmHost a)] : Q (SmHost (cqTo a m l i).1) := ⟨(sm_copyAll hh.h (sm_moveNew m)).1⟩
instance (a : VHost) (m : Int) (l : List Int) (i : Nat) [hh : Q (SmHost a)] : Q (SmMove (cqTo a m l i).2) := ⟨(sm_copyAll hh.h (sm_moveNew m)).2⟩
instance (h : VHost) (v : VMove) [hh : Q (SmHost h)] [hv : Q (SmMove v)] : Q (SmMon ((moveImage h v).getD noMon)) := ⟨sm_image hh.h hv.h⟩
theorem impl_MoveNew_f (m : Int) : Fun Try.prog 8 [I m] (RG [.a (rMove (moveNew m))]) := by
 refine Fun.w 6 Try.func8 fun w g0 _ => ?_
 refine mkw 8 ?_
 exact rfl
end Go.Proofs.Ytcmoifejjodgcaa.T

namespace Go.Proofs.Ytcmoifejjodgcaa.T
open Go
set_option linter.unusedVariables false
set_option linter.unusedSimpArgs false
set_option maxRecDepth 100000
set_option maxHeartbeats 8000000
theorem callE {P : Program} {w0 : World} {g0 : Gh} {n : Nat} {e : List En} {rs : Rs} {K : Kn} {f : FuncId} {ts pts : List TS} {d : Nat} {α : Type} {sz : Nat} {F : α → List D} {Pr : α → Prop} {R : Res → Prop} {m : Bool} (hc : FunK P w0 g0 f pts R) (hR : ∀ r, R r → ∃ x, Pr x ∧ RL sz (F x) r)
  (hk : ∀ x, Pr x → freshW d false [.own (.sl sz (F x))] e rs fun e rs => K (.set d (.one (.c (.ref ⟨d, [], 0⟩))) :: e) rs)
  (hs : snapsW rs ts fun l => l = pts := by (repeat first | exact rfl | refine WholeW.mk (by first | exact WD.w | assumption) ?_ | refine ixn (by assumption) ?_ | refine ixo (by assumption) ?_); done)
  (hf : Callable P f := by exact .mk rfl rfl rfl) (hd1 : d < 1000000 := by decide) : CallW m P w0 g0 n e rs f ts (some d) K := ⟨fun o cx args tys ho hcx hd hx => by
 obtain ⟨fn, h1, h2, h3⟩ := hf
 obtain ⟨l, h4, rfl⟩ := snapsW_of (n := n) (e := e) hs
 refine .of (OpM.call ho hcx h1 h2 h3 hd hx h4 hc (fun r hr => ?_) (fun r hr => ?_) hd1)
 ·obtain ⟨x, _, rfl⟩ := hR r hr
  simp [okS, okV, okC]
 ·obtain ⟨x, hx', rfl⟩ := hR r hr
  exact (fresh_put (n := n) (hk x hx')).2⟩
def haltAl : List (List (List VIns)) := [[[⟨7, 0⟩]]]
def wbHost (page : Int) : VHost × VMove := (((moveCopy (hostNew haltAl) (moveNew 0) page).map Prod.fst).getD (hostNew haltAl), ((moveCopy (hostNew haltAl) (moveNew 0) page).map Prod.snd).getD (moveNew 0))
def wbPoke (page c v : Int) : VHost := (hostPoke (wbHost page).1 0 page c v).getD (wbHost page).1
def wbOk (page c v : Int) : Bool := (moveImage (wbPoke page c v) (wbHost page).2).isSome && decide ((moveLeft (wbHost page).1 (wbHost page).2).length = 7) && decide ((moveLeft (wbPoke page c v) (wbHost page).2).length = 8) && decide (cellAt ((moveImage (wbPoke page c v) (wbHost page).2).getD noMon).Out page c = v)
theorem wb_all : ((List.range 8).all fun (p : Nat) => (List.range 4).all fun (c : Nat) => (List.range 99).all fun (v : Nat) => wbOk (p : Int) (c : Int) (1 + (v : Int))) = true := by decide +kernel
theorem wb_at {p c v : Int} (h1 : 0 ≤ p ∧ p < 8) (h2 : 0 ≤ c ∧ c < 4) (h3 : 0 ≤ v ∧ v < 99) : wbOk p c (1 + v) = true := by
 have h := wb_all
 rw [List.all_eq_true] at h
 have h4 := h p.toNat (List.mem_range.2 (by omega))
 rw [List.all_eq_true] at h4
 have h5 := h4 c.toNat (List.mem_range.2 (by omega))
 rw [List.all_eq_true] at h5
 have h6 := h5 v.toNat (List.mem_range.2 (by omega))
 rw [Int.toNat_of_nonneg h1.1, Int.toNat_of_nonneg h2.1, Int.toNat_of_nonneg h3.1] at h6
 exact h6
theorem wb_of {a b c : Int} (ha : 0 ≤ a) (hb : 0 ≤ b) (hc : 0 ≤ c) : ((moveImage (wbPoke (a.tmod 8) (b.tmod 4) (1 + c.tmod 99)) (wbHost (a.tmod 8)).2).isSome = true ∧ (moveLeft (wbHost (a.tmod 8)).1 (wbHost (a.tmod 8)).2).length = 7 ∧
  (moveLeft (wbPoke (a.tmod 8) (b.tmod 4) (1 + c.tmod 99)) (wbHost (a.tmod 8)).2).length = 8) ∧ cellAt ((moveImage (wbPoke (a.tmod 8) (b.tmod 4) (1 + c.tmod 99)) (wbHost (a.tmod 8)).2).getD noMon).Out (a.tmod 8) (b.tmod 4) = 1 + c.tmod 99 := by
 have h := wb_at (p := a.tmod 8) (c := b.tmod 4) (v := c.tmod 99) (by rw [Int.tmod_eq_emod_of_nonneg ha]; omega) (by rw [Int.tmod_eq_emod_of_nonneg hb]; omega) (by rw [Int.tmod_eq_emod_of_nonneg hc]; omega)
 unfold wbOk at h
 simp only [Bool.and_eq_true, decide_eq_true_eq] at h
 exact ⟨⟨h.1.1.1, h.1.1.2, h.1.2⟩, h.2⟩
end Go.Proofs.Ytcmoifejjodgcaa.T

namespace Go.Proofs.Ytcmoifejjodgcaa.Base
open Go.ChangeShapes Go.WideShapes Go.ChangeAt Go.RowKit
section
variable {H : Type} {enc : TypeId × Value → H} {P : Program}
theorem post_of_below {f : Func} {s : ChangeSpec} {apart fresh handsOn again : Bool} {W W' : World} {args : Array Value} {v : Value} {ds gs : List (DataW H)} {before pa pv : List MemPlace}
  (hW : DataW.Whole enc P f.params.toList s.vars apart W args.toList ds gs before)
  (hres : ∀ (b : Nat) (sp : Nat → Bool) (hd : Bool), DataW.TrodAll enc P W' b sp hd f.resultTypes.toList (v.resultList f.resultTypes.size) (s.fn H (ds ++ gs)).results [])
  (hargs : ∀ sp : Nat → Bool, (∀ p ∈ before, sp p.block = true) → DataW.TrodAll enc P W' 0 sp true f.params.toList args.toList (s.fn H (ds ++ gs)).args pa)
  (hvars : ∀ sp : Nat → Bool, (∀ p ∈ before, sp p.block = true) → DataW.TrodVars enc P W' sp s.vars (s.fn H (ds ++ gs)).vars pv)
  (hps : before = pa ++ pv) (hb : Below W.heap.size W W')
  (hok : ∀ (j : Nat) (t : TypeId) (r : Value), f.resultTypes[j]? = some t → (v.resultList f.resultTypes.size)[j]? = some r → Value.okWide P W' .any 0 t r) :
  s.post enc P f apart fresh handsOn again W args v W' := by
 have hlt : ∀ p ∈ before, p.block < W.heap.size := fun p hp => hW.lt p hp
 have hold : ∀ p ∈ before, (fun b => decide (b < W.heap.size)) p.block = true := fun p hp => by simpa using hlt p hp
 refine ⟨ds, gs, before, [], pa, pv, hW, hres _ _ _, hargs _ hold, hvars _ hold, World.keptBut_mono (fun p hp => ⟨hp, ?_⟩) (hb.frame (· ∈ before)), fun _ => ?_⟩
 ·rw [hps, List.mem_append] at hp
  exact Or.inr hp
 ·obtain ⟨_, _, _, _, _, hz, hn⟩ := hW
  refine ⟨hok, _, _, ([] ++ pa) ++ pv, ⟨[] ++ pa, pv, trodAll_append (hargs _ (fun _ _ => rfl)) (hres _ _ _), hvars _ (fun _ _ => rfl), rfl, ?_, ?_⟩, ?_⟩
  ·intro b off hp
   have hin : MemPlace.cell b off ∈ before := by rw [hps]; simpa using hp
   rw [hb.frozen (hlt _ hin)]
   exact hz b off hin
  ·intro ha
   have := hn ha
   rw [hps] at this
   simpa using this
  ·intro p hp _
   rw [hps]
   simpa using hp
end
theorem own : ownKnob Try.prog.godebug = none := by kernel_rfl
end Go.Proofs.Ytcmoifejjodgcaa.Base

namespace Go.Proofs.Ytcmoifejjodgcaa.T
open Go Go.ChangeShapes Go.WideShapes Go.ChangeAt Go.RowKit
set_option linter.unusedVariables false
set_option linter.unusedSimpArgs false
set_option maxRecDepth 100000
set_option maxHeartbeats 1000000
def Bytes (w : World) (ad : Option Addr) (n : Nat) : Prop := ∀ k, k < n → ∃ b off, ad = some ⟨b, off, none⟩ ∧ ∃ z : Nat, z < 256 ∧ w.cell? ⟨b, off + k, none⟩ = some (.int .u8 z)
theorem curNil (ad : Option Addr) (c : Nat) (w : World) :
  Calls Try.prog 13 #[.slice ad 0 c] w fun e w' => ∃ (h : Int) (k : Nat), e = .returned (.pointer (some ⟨w.heap.size, 0, none⟩)) ∧
   w' = (w.drewN k).alloc (.cells #[.slice ad 0 c, .int .i64 0, .int .i64 h] 84) := by
 go_enter Try.func13, Try.ntmps13
 go_wp2
 go_loop [3, 4] (fun t i => i = .int .i64 0 ∧ ∃ z : Int, t = .int .i64 z) (fun _ i => 0)
 case atStart => exact ⟨rfl, _, rfl⟩
 case round =>
  obtain ⟨rfl, z, rfl⟩ := hrel
  go_wp2
  go_ret
  exact ⟨rfl, _, 0, rfl⟩
theorem curNew (b off n c : Nat) (hn : n ≤ 1048576) (w : World) (hb : Bytes w (some ⟨b, off, none⟩) n) :
  Calls Try.prog 13 #[.slice (some ⟨b, off, none⟩) n c] w fun e w' => ∃ (h : Int) (k : Nat), e = .returned (.pointer (some ⟨w.heap.size, 0, none⟩)) ∧
   w' = (w.drewN k).alloc (.cells #[.slice (some ⟨b, off, none⟩) n c, .int .i64 0, .int .i64 h] 84) := by
 have hb' : ∀ k, k < n → ∃ z : Nat, z < 256 ∧ w.cell? ⟨b, off + k, none⟩ = some (.int .u8 z) := fun k hk => by
  obtain ⟨b2, off2, e, h⟩ := hb k hk
  simp only [Option.some.injEq, Addr.mk.injEq, and_true] at e
  obtain ⟨rfl, rfl⟩ := e
  exact h
 clear hb
 go_enter Try.func13, Try.ntmps13
 go_wp2
 go_loop [3, 4] (fun t i => ∃ k : Nat, k ≤ n ∧ i = .int .i64 k ∧ ∃ z : Int, t = .int .i64 z) (fun _ i => n - (intOf i).toNat)
 case atStart => exact ⟨0, Nat.zero_le _, rfl, _, rfl⟩
 case round =>
  obtain ⟨k, hk, rfl, z, rfl⟩ := hrel
  obtain ⟨y, hcell⟩ : ∃ y : Nat, k < n → y < 256 ∧ w.cell? ⟨b, off + k, none⟩ = some (.int .u8 y) := by
   by_cases h : k < n
   ·obtain ⟨y, hy⟩ := hb' k h
    exact ⟨y, fun _ => hy⟩
   ·exact ⟨0, fun h' => absurd h' h⟩
  clear hb'
  have hcell2 : k < n → w.cell? ⟨b, off + k, none⟩ = some (.int .u8 y) := fun h => (hcell h).2
  clear hcell
  go_wp2
  ·exact ⟨⟨k + 1, by omega, by simp, _, rfl⟩, by simp [intOf]; omega⟩
  all_goals
   go_ret
   exact ⟨rfl, _, 0, rfl⟩
structure CurStep (b : Nat) (w w' : World) : Prop where
 os : w'.os = w.os
 tape : w'.tape = w.tape
 output : w'.output = w.output
 size : w'.heap.size = w.heap.size
 other : ∀ b', b' ≠ b → w'.heap[b']? = w.heap[b']?
structure Cur (w : World) (b o : Nat) (v : Value) (i h : Int) : Prop where
 c0 : w.cell? ⟨b, o, none⟩ = some v
 c1 : w.cell? ⟨b, o + 1, none⟩ = some (.int .i64 i)
 c2 : w.cell? ⟨b, o + 2, none⟩ = some (.int .i64 h)
 fz : ∃ cs t, w.heap[b]? = some (.cells cs t (0, 0))
 nn : 0 ≤ i
theorem CurStep.refl (b : Nat) (w : World) : CurStep b w w := ⟨rfl, rfl, rfl, rfl, fun _ _ => rfl⟩
theorem CurStep.trans {b : Nat} {w w1 w2 : World} (h : CurStep b w w1) (k : CurStep b w1 w2) : CurStep b w w2 :=
 ⟨k.os.trans h.os, k.tape.trans h.tape, k.output.trans h.output, k.size.trans h.size, fun b' hb => (k.other b' hb).trans (h.other b' hb)⟩
theorem CurStep.drewN (b : Nat) (w : World) (k : Nat) : CurStep b w (w.drewN k) := ⟨rfl, rfl, rfl, rfl, fun _ _ => rfl⟩
theorem CurStep.setCell (b q : Nat) (w : World) (v : Value) : CurStep b w (w.setCell ⟨b, q, none⟩ v) := ⟨rfl, rfl, rfl, by simp [World.setCell], fun b' hb => Below.heap_setCell _ _ _ _ hb⟩
theorem Cur.drewN {w : World} {b o : Nat} {v : Value} {i h : Int} (hc : Cur w b o v i h) (k : Nat) : Cur (w.drewN k) b o v i h := ⟨hc.c0, hc.c1, hc.c2, hc.fz, hc.nn⟩
theorem fz_set {w : World} {b : Nat} (h : ∃ cs t, w.heap[b]? = some (.cells cs t (0, 0))) (a : Addr) (u : Value) : ∃ cs t, (w.setCell a u).heap[b]? = some (.cells cs t (0, 0)) := by
 obtain ⟨cs, t, e⟩ := h
 by_cases hb : b = a.block
 ·subst hb
  simp [World.setCell, Array.getElem?_modify, e]
 ·exact ⟨cs, t, by rw [Below.heap_setCell _ _ _ _ hb]; exact e⟩
theorem Cur.set2 {w : World} {b o : Nat} {v : Value} {i h : Int} (hc : Cur w b o v i h) (h' : Int) : Cur (w.setCell ⟨b, o + 2, none⟩ (.int .i64 h')) b o v i h' :=
 ⟨by rw [World.cell?_setCell_other _ _ _ _ (by simp)]; exact hc.c0, by rw [World.cell?_setCell_other _ _ _ _ (by simp)]; exact hc.c1, World.cell?_setCell_same _ _ _ hc.c2, fz_set hc.fz _ _, hc.nn⟩
theorem Cur.set1 {w : World} {b o : Nat} {v : Value} {i h : Int} (hc : Cur w b o v i h) {i' : Int} (hi : 0 ≤ i') : Cur (w.setCell ⟨b, o + 1, none⟩ (.int .i64 i')) b o v i' h :=
 ⟨by rw [World.cell?_setCell_other _ _ _ _ (by simp)]; exact hc.c0, World.cell?_setCell_same _ _ _ hc.c1, by rw [World.cell?_setCell_other _ _ _ _ (by simp)]; exact hc.c2, fz_set hc.fz _ _, hi⟩
theorem Bytes.step {w w' : World} {b : Nat} {ad : Option Addr} {n : Nat} (hb : Bytes w ad n) (hs : CurStep b w w') (hne : ∀ b2 off, 0 < n → ad = some ⟨b2, off, none⟩ → b2 ≠ b) : Bytes w' ad n := fun k hk => by
 obtain ⟨b2, off, e, z, hz, hc⟩ := hb k hk
 refine ⟨b2, off, e, z, hz, ?_⟩
 rw [← hc]
 exact World.cell?_of_block (w := w) (hs.other b2 (hne b2 off (by omega) e))
theorem and255 (n : Int) : 0 ≤ bits .and .i64 n 255 ∧ bits .and .i64 n 255 < 256 := by
 have h255 : (BitVec.ofInt 64 255).toNat = 2 ^ 8 - 1 := by decide
 have key : (BitVec.ofInt 64 n &&& BitVec.ofInt 64 255).toNat = (n % ((2 ^ 64 : Nat) : Int)).toNat % 2 ^ 8 := by
  rw [BitVec.toNat_and, BitVec.toNat_ofInt, h255, Nat.and_two_pow_sub_one_eq_mod]
 have : bits .and .i64 n 255 = n % 256 := by
  show IntKind.i64.wrap ((BitVec.ofInt 64 n &&& BitVec.ofInt 64 255).toNat : Nat) = n % 256
  rw [key, IntKind.wrap_i64]
  omega
 rw [this]
 omega
theorem Cur.frozen {w : World} {b o : Nat} {v : Value} {i h : Int} (hc : Cur w b o v i h) (q : Nat) : w.frozen? ⟨b, q, none⟩ = false := by
 obtain ⟨cs, t, e⟩ := hc.fz
 simp [World.frozen?, e]
theorem byteC (b o : Nat) (ad : Option Addr) (n c : Nat) (i h : Int) (hn : n ≤ 1048576) (w : World) (hc : Cur w b o (.slice ad n c) i h) (hb : Bytes w ad n) (hne : ∀ b2 off, 0 < n → ad = some ⟨b2, off, none⟩ → b2 ≠ b) :
  Calls Try.prog 33 #[.pointer (some ⟨b, o, none⟩)] w fun e w' => ∃ x i' h', e = .returned (.int .i64 x) ∧ 0 ≤ x ∧ x < 256 ∧ CurStep b w w' ∧ Cur w' b o (.slice ad n c) i' h' := by
 obtain ⟨m, rfl⟩ := Int.eq_ofNat_of_zero_le hc.nn
 by_cases hin : m < n
 ·obtain ⟨b2, off, rfl, z, hz, hzc⟩ := hb m hin
  have hne2 := hne b2 off (by omega) rfl
  clear hb hne
  have h0 := hc.c0
  have h1 := hc.c1
  have h2 := hc.c2
  have hfz := hc.frozen (o + 2)
  go_enter Try.func33, Try.ntmps33
  go_wp2
  generalize hw1 : w.setCell ⟨b, o + 2, none⟩ _ = w1
  have hs1 : CurStep b w w1 := hw1 ▸ CurStep.setCell b (o + 2) w _
  have hc1 : ∃ hh, Cur w1 b o (.slice (some ⟨b2, off, none⟩) n c) m hh := ⟨_, hw1 ▸ hc.set2 _⟩
  clear hw1 h0 h1 h2 hfz
  obtain ⟨h1, hc1⟩ := hc1
  have hz1 : w1.cell? ⟨b2, off + m, none⟩ = some (.int .u8 z) := (World.cell?_of_block (w := w) (hs1.other b2 hne2)).trans hzc
  have k0 := hc1.c0
  have k1 := hc1.c1
  have k2 := hc1.c2
  go_quiet (fail)
  have hx0 := and255 (bits BinOp.xor IntKind.i64 (h1 / 8589934592) (h1 / 35184372088832))
  generalize bits BinOp.and IntKind.i64 _ 255 = x0 at hx0 ⊢
  generalize hw2 : w1.drewN _ = w2
  have hs2 : CurStep b w1 w2 := hw2 ▸ CurStep.drewN b w1 _
  have hc2 : Cur w2 b o (.slice (some ⟨b2, off, none⟩) n c) m h1 := hw2 ▸ hc1.drewN _
  have hz2 : w2.cell? ⟨b2, off + m, none⟩ = some (.int .u8 z) := (World.cell?_of_block (w := w1) (hs2.other b2 hne2)).trans hz1
  clear hw2 k0 k1 k2 hz1
  have k0 := hc2.c0
  have k1 := hc2.c1
  go_wp2
  go_quiet (fail)
  generalize hw3 : w2.drewN _ = w3
  have hs3 : CurStep b w2 w3 := hw3 ▸ CurStep.drewN b w2 _
  have hc3 : Cur w3 b o (.slice (some ⟨b2, off, none⟩) n c) m h1 := hw3 ▸ hc2.drewN _
  have hz3 : w3.cell? ⟨b2, off + m, none⟩ = some (.int .u8 z) := (World.cell?_of_block (w := w2) (hs3.other b2 hne2)).trans hz2
  clear hw3 k0 k1 hz2
  have k0 := hc3.c0
  have k1 := hc3.c1
  go_wp2
  go_quiet (fail)
  generalize hg1 : bits BinOp.and IntKind.i64 _ 255 = x1
  have hx1 : 0 ≤ x1 ∧ x1 < 256 := hg1 ▸ and255 _
  clear hg1
  generalize hw4 : w3.drewN _ = w4
  have hs4 : CurStep b w3 w4 := hw4 ▸ CurStep.drewN b w3 _
  have hc4 : Cur w4 b o (.slice (some ⟨b2, off, none⟩) n c) m h1 := hw4 ▸ hc3.drewN _
  clear hw4 k0 k1 hz3
  have k0 := hc4.c0
  have k1 := hc4.c1
  have kf := hc4.frozen (o + 1)
  go_wp2
  go_ret
  exact ⟨_, _, _, rfl, hx1.1, hx1.2, (((hs1.trans hs2).trans hs3).trans hs4).trans (CurStep.setCell b (o + 1) w4 _), hc4.set1 (by omega)⟩
 ·have h0 := hc.c0
  have h1 := hc.c1
  have h2 := hc.c2
  have hfz := hc.frozen (o + 2)
  clear hb hne
  go_enter Try.func33, Try.ntmps33
  go_wp2
  generalize hw1 : w.setCell ⟨b, o + 2, none⟩ _ = w1
  have hs1 : CurStep b w w1 := hw1 ▸ CurStep.setCell b (o + 2) w _
  have hc1 : ∃ hh, Cur w1 b o (.slice ad n c) m hh := ⟨_, hw1 ▸ hc.set2 _⟩
  clear hw1 h0 h1 h2 hfz
  obtain ⟨h1, hc1⟩ := hc1
  have k0 := hc1.c0
  have k1 := hc1.c1
  have k2 := hc1.c2
  go_quiet (fail)
  have hx0 := and255 (bits BinOp.xor IntKind.i64 (h1 / 8589934592) (h1 / 35184372088832))
  generalize bits BinOp.and IntKind.i64 _ 255 = x0 at hx0 ⊢
  generalize hw2 : w1.drewN _ = w2
  have hs2 : CurStep b w1 w2 := hw2 ▸ CurStep.drewN b w1 _
  have hc2 : Cur w2 b o (.slice ad n c) m h1 := hw2 ▸ hc1.drewN _
  clear hw2 k0 k1 k2
  have k0 := hc2.c0
  have k1 := hc2.c1
  go_wp2
  go_quiet (fail)
  generalize hw3 : w2.drewN _ = w3
  have hs3 : CurStep b w2 w3 := hw3 ▸ CurStep.drewN b w2 _
  have hc3 : Cur w3 b o (.slice ad n c) m h1 := hw3 ▸ hc2.drewN _
  clear hw3 k0 k1
  go_wp2
  go_ret
  exact ⟨_, _, _, rfl, hx0.1, hx0.2, (hs1.trans hs2).trans hs3, hc3⟩
theorem belowC (b o : Nat) (ad : Option Addr) (n c : Nat) (i h : Int) (hn : n ≤ 1048576) (w : World) (hc : Cur w b o (.slice ad n c) i h) (hb : Bytes w ad n) (hne : ∀ b2 off, 0 < n → ad = some ⟨b2, off, none⟩ → b2 ≠ b) :
  Calls Try.prog 14 #[.pointer (some ⟨b, o, none⟩), .int .i64 10000] w fun e w' => ∃ x i' h', e = .returned (.int .i64 x) ∧ 0 ≤ x ∧ x < 10000 ∧ CurStep b w w' ∧ Cur w' b o (.slice ad n c) i' h' := by
 go_enter Try.func14, Try.ntmps14
 go_wp2_with (go_at_call 33; refine (byteC b o ad n c i h hn _ hc hb hne).mono ?_)
 rintro e w1 ⟨x1, i1, h1, rfl, hx1, hy1, hs1, hc1⟩
 have hb1 := hb.step hs1 hne
 go_wp2_with (go_at_call 33; refine (byteC b o ad n c i1 h1 hn _ hc1 hb1 hne).mono ?_)
 rintro e w2 ⟨x2, i2, h2, rfl, hx2, hy2, hs2, hc2⟩
 have hb2 := hb1.step hs2 hne
 go_wp2_with (go_at_call 33; refine (byteC b o ad n c i2 h2 hn _ hc2 hb2 hne).mono ?_)
 rintro e w3 ⟨x3, i3, h3, rfl, hx3, hy3, hs3, hc3⟩
 have hb3 := hb2.step hs3 hne
 go_wp2_with (go_at_call 33; refine (byteC b o ad n c i3 h3 hn _ hc3 hb3 hne).mono ?_)
 rintro e w4 ⟨x4, i4, h4, rfl, hx4, hy4, hs4, hc4⟩
 go_wp2
 go_ret
 exact ⟨_, _, _, rfl, by omega, by omega, ((hs1.trans hs2).trans hs3).trans hs4, hc4⟩
end Go.Proofs.Ytcmoifejjodgcaa.T

