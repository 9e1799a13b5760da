/- MoveCopy: the law. PRINTED by gen3.py. No condition. -/
import Derived.Test.YteelmdpahpggkaaGreatOdp
import Derived.Test.YteelmdpahpggkaaGreatRows
import Derived.WalkKit
import Derived.WalkSpells
import Derived.WalkLawsBesides
import Derived.ProofKit
import Derived.OpenShut
import Derived.Lib.Hide
namespace Go.Proofs.YteelmdpahpggkaaGreat.T
open Go
set_option linter.unusedVariables false
set_option linter.unusedSimpArgs false
set_option maxRecDepth 100000
set_option maxHeartbeats 8000000

theorem cap_Move {x : VMove} (h : SmMove x) : cntVMove x ≤ 1099511627776 := cap_IntSS h
theorem cap_mc {h : VHost} {v : VMove} {p : Int} (hh : SmHost h) : cntVHost (mcH h v p) ≤ cntVHost h + 400000000000000 := by
  have h0 := cntVHost_nn h
  have hs := sm_mcH (v := v) (p := p) hh
  rcases @mc_cases h v p with h1 | ⟨h1, h2⟩
  · rw [h1]; omega
  · have := cap_Host3 hs (by rw [h2]; exact host_three h1)
    omega
theorem laws_FnExactMoveCopy_f (x : VHost) (v : VMove) (p : Int) : Fun Tryz.prog 7 [A (rHost x), A (rMove v), I p] (RV (.bool true)) := by
  refine Fun.w 161 Tryz.func7 fun w g0 _ => ?_
  refine callP (laws_szHost_f x 1048576 (by omega) (by omega)).k ?_
  refine cnd (fun hb => ?_) (fun hb => ?_)
  · exact rfl
  · have hx0 : 0 ≤ szHost x 1048576 := by omega
    have hx := (szHost_ok x 1048576 hx0).2 (by omega)
    have hle := (szHost_ok x 1048576 hx0).1
    have hcv := szHost_cntV x 1048576 hx0
    have hcn := cntVHost_nn x
    have hce : cntVHost x = cntIntSS x.Memory + cntMonS x.Mons + cntEntryS x.Buffer + cntEntryS x.IoBuffer := rfl
    have : Q (SmHost x) := ⟨hx⟩
    refine callP (laws_szMove_f v (szHost x 1048576) (by omega) (by omega)).k ?_
    refine cnd (fun hb2 => ?_) (fun hb2 => ?_)
    · exact rfl
    · have hv0 : 0 ≤ szMove v (szHost x 1048576) := by omega
      have hv := (szMove_ok v _ hv0).2 (by omega)
      have hvl := (szMove_ok v _ hv0).1
      have hcw := szMove_cntV v _ hv0
      have hcm := cntVMove_nn v
      have hvm : cntVMove v = cntIntSS v.Have := rfl
      have : Q (SmMove v) := ⟨hv⟩
      have hsm : SmHost (mcH x v p) := sm_mcH hx
      have hcl : cntVHost (mcH x v p) ≤ cntVHost x + 400000000000000 := cap_mc hx
      have hcr := cntVHost_nn (mcH x v p)
      have hrce : cntVHost (mcH x v p) = cntIntSS (mcH x v p).Memory + cntMonS (mcH x v p).Mons + cntEntryS (mcH x v p).Buffer + cntEntryS (mcH x v p).IoBuffer := rfl
      have hsv : SmMove (mcV x v p) := sm_mcV hx hv
      have hvcl := cap_Move hsv
      have hvcr := cntVMove_nn (mcV x v p)
      have hvce : cntVMove (mcV x v p) = cntIntSS (mcV x v p).Have := rfl
      have hrn1 := cntIntSS_nn (mcH x v p).Memory
      have hrn2 := cntMonS_nn (mcH x v p).Mons
      have hrn3 := cntEntryS_nn (mcH x v p).Buffer
      have hrn4 := cntEntryS_nn (mcH x v p).IoBuffer
      have hrn5 := cntIntSS_nn (mcV x v p).Have
      have hn1 := cntIntSS_nn x.Memory
      have hn2 := cntMonS_nn x.Mons
      have hn3 := cntEntryS_nn x.Buffer
      have hn4 := cntEntryS_nn x.IoBuffer
      have hn5 := cntIntSS_nn v.Have
      refine regTJ [12, 13] [12, 13] [] (.quiet 4 1 (.quiet 0 0 (.quiet 2 0 (.fork (.alt 1 (.fork (.alt 3 (.fork (.alt 5 (.quiet 6 1 (.quiet 7 1 (.quiet 8 1 (.quiet 9 1 (.fork (.alt 10 (.fork (.alt 11 (.fork (.alt 12 (.fork (.alt 13 (.quiet 14 1 .done) .stop)) .stop)) .stop)) (.alt 11 (.fork (.alt 10 (.fork (.alt 12 (.fork (.alt 13 (.quiet 14 1 .done) .stop)) .stop)) .stop)) .stop))))))) (.alt 10 (.fork (.alt 5 (.quiet 6 1 (.quiet 7 1 (.quiet 8 1 (.quiet 9 1 (.fork (.alt 11 (.fork (.alt 12 (.fork (.alt 13 (.quiet 14 1 .done) .stop)) .stop)) .stop)))))) (.alt 11 (.fork (.alt 5 (.quiet 6 1 (.quiet 7 1 (.quiet 8 1 (.quiet 9 1 (.fork (.alt 12 (.fork (.alt 13 (.quiet 14 1 .done) .stop)) .stop)))))) .stop)) .stop))) (.alt 11 (.fork (.alt 5 (.quiet 6 1 (.quiet 7 1 (.quiet 8 1 (.quiet 9 1 (.fork (.alt 10 (.fork (.alt 12 (.fork (.alt 13 (.quiet 14 1 .done) .stop)) .stop)) .stop)))))) (.alt 10 (.fork (.alt 5 (.quiet 6 1 (.quiet 7 1 (.quiet 8 1 (.quiet 9 1 (.fork (.alt 12 (.fork (.alt 13 (.quiet 14 1 .done) .stop)) .stop)))))) .stop)) .stop))) .stop)))) (.alt 10 (.fork (.alt 3 (.fork (.alt 5 (.quiet 6 1 (.quiet 7 1 (.quiet 8 1 (.quiet 9 1 (.fork (.alt 11 (.fork (.alt 12 (.fork (.alt 13 (.quiet 14 1 .done) .stop)) .stop)) .stop)))))) (.alt 11 (.fork (.alt 5 (.quiet 6 1 (.quiet 7 1 (.quiet 8 1 (.quiet 9 1 (.fork (.alt 12 (.fork (.alt 13 (.quiet 14 1 .done) .stop)) .stop)))))) .stop)) .stop))) (.alt 11 (.fork (.alt 3 (.fork (.alt 5 (.quiet 6 1 (.quiet 7 1 (.quiet 8 1 (.quiet 9 1 (.fork (.alt 12 (.fork (.alt 13 (.quiet 14 1 .done) .stop)) .stop)))))) .stop)) .stop)) .stop))) (.alt 11 (.fork (.alt 3 (.fork (.alt 5 (.quiet 6 1 (.quiet 7 1 (.quiet 8 1 (.quiet 9 1 (.fork (.alt 10 (.fork (.alt 12 (.fork (.alt 13 (.quiet 14 1 .done) .stop)) .stop)) .stop)))))) (.alt 10 (.fork (.alt 5 (.quiet 6 1 (.quiet 7 1 (.quiet 8 1 (.quiet 9 1 (.fork (.alt 12 (.fork (.alt 13 (.quiet 14 1 .done) .stop)) .stop)))))) .stop)) .stop))) (.alt 10 (.fork (.alt 3 (.fork (.alt 5 (.quiet 6 1 (.quiet 7 1 (.quiet 8 1 (.quiet 9 1 (.fork (.alt 12 (.fork (.alt 13 (.quiet 14 1 .done) .stop)) .stop)))))) .stop)) .stop)) .stop))) .stop)))) (.alt 10 (.fork (.alt 1 (.fork (.alt 3 (.fork (.alt 5 (.quiet 6 1 (.quiet 7 1 (.quiet 8 1 (.quiet 9 1 (.fork (.alt 11 (.fork (.alt 12 (.fork (.alt 13 (.quiet 14 1 .done) .stop)) .stop)) .stop)))))) (.alt 11 (.fork (.alt 5 (.quiet 6 1 (.quiet 7 1 (.quiet 8 1 (.quiet 9 1 (.fork (.alt 12 (.fork (.alt 13 (.quiet 14 1 .done) .stop)) .stop)))))) .stop)) .stop))) (.alt 11 (.fork (.alt 3 (.fork (.alt 5 (.quiet 6 1 (.quiet 7 1 (.quiet 8 1 (.quiet 9 1 (.fork (.alt 12 (.fork (.alt 13 (.quiet 14 1 .done) .stop)) .stop)))))) .stop)) .stop)) .stop))) (.alt 11 (.fork (.alt 1 (.fork (.alt 3 (.fork (.alt 5 (.quiet 6 1 (.quiet 7 1 (.quiet 8 1 (.quiet 9 1 (.fork (.alt 12 (.fork (.alt 13 (.quiet 14 1 .done) .stop)) .stop)))))) .stop)) .stop)) .stop)) .stop))) (.alt 11 (.fork (.alt 1 (.fork (.alt 3 (.fork (.alt 5 (.quiet 6 1 (.quiet 7 1 (.quiet 8 1 (.quiet 9 1 (.fork (.alt 10 (.fork (.alt 12 (.fork (.alt 13 (.quiet 14 1 .done) .stop)) .stop)) .stop)))))) (.alt 10 (.fork (.alt 5 (.quiet 6 1 (.quiet 7 1 (.quiet 8 1 (.quiet 9 1 (.fork (.alt 12 (.fork (.alt 13 (.quiet 14 1 .done) .stop)) .stop)))))) .stop)) .stop))) (.alt 10 (.fork (.alt 3 (.fork (.alt 5 (.quiet 6 1 (.quiet 7 1 (.quiet 8 1 (.quiet 9 1 (.fork (.alt 12 (.fork (.alt 13 (.quiet 14 1 .done) .stop)) .stop)))))) .stop)) .stop)) .stop))) (.alt 10 (.fork (.alt 1 (.fork (.alt 3 (.fork (.alt 5 (.quiet 6 1 (.quiet 7 1 (.quiet 8 1 (.quiet 9 1 (.fork (.alt 12 (.fork (.alt 13 (.quiet 14 1 .done) .stop)) .stop)))))) .stop)) .stop)) .stop)) .stop))) .stop))))))) [2, 3, 4, 6] [] [8, 9] [.set 8 (.one (.ptr ⟨8, [], 0⟩)), .set 9 (.one (.ptr ⟨9, [], 0⟩)), .set 10 (B (moveCopy x v p).isSome)] [(8, ⟨true, [.own (.sl 1 ((mcH x v p).Memory.map dIntS)), .own (.sl 9 ((mcH x v p).Mons.map dMon)), .own (.sl 4 ((mcH x v p).Buffer.map dEntry)), .own (.sl 4 ((mcH x v p).IoBuffer.map dEntry))]⟩), (9, ⟨true, [.own (.v (.int .i64 (mcV x v p).M)), .own (.sl 1 ((mcV x v p).Have.map dIntS))]⟩)] ?_
      refine ⟨?_, ?_⟩
      · repeat' first | exact True.intro | refine And.intro ?_ ?_ | (intro _ _) | refine callG (laws_toHost_f x hx).k ?_ | refine callG (laws_toMove_f v hv).k ?_ | refine callG (spec_MoveCopy_f x v p).k ?_ | exact rfl | (refine eqS ?_; simp [*]; done)
      refine callG (laws_toHost_f x hx).k ?_
      refine callG (laws_toMove_f v hv).k ?_
      refine callG (impl_MoveCopy_f x v p).k ?_
      refine callP (laws_eqHost_f (mcH x v p) (mcH x v p)).k ?_
      refine cnd (fun hg4 => ?_) (fun hg4 => ?_)
      · (exfalso; first | omega | contradiction | simp_all; done)
      · refine callP (laws_eqMove_f (mcV x v p) (mcV x v p)).k ?_
        refine cnd (fun hg10 => ?_) (fun hg10 => ?_)
        · (exfalso; first | omega | contradiction | simp_all; done)
        · refine cnd (fun hb3 => ?_) (fun hb3 => ?_)
          · (exfalso; first | omega | contradiction | simp_all; done)
          · refine regU [] [(0, 0), (1, 0), (2, 1), (3, 1), (4, 0)] ?_
            refine callG (laws_toHost_f x hx).k ?_
            refine callP (laws_eqHost_f x x).k ?_
            refine cnd (fun hb4 => ?_) (fun hb4 => ?_)
            · (exfalso; first | omega | contradiction | simp_all; done)
            · refine regU [] [(0, 0), (1, 0), (2, 1), (3, 1), (4, 0)] ?_
              refine callG (laws_toMove_f v hv).k ?_
              refine callP (laws_eqMove_f v v).k ?_
              refine cnd (fun hb5 => ?_) (fun hb5 => ?_)
              · (exfalso; first | omega | contradiction | simp_all; done)
              · refine callH [(11, 0), (11, 1), (11, 2), (11, 3)] (laws_markHost_f x 1 (by omega) (by omega) hx) ?_
                refine callH [(12, 1)] (laws_markMove_f v (1 + cntIntSS x.Memory + cntMonS x.Mons + cntEntryS x.Buffer + cntEntryS x.IoBuffer) (by omega) (by omega) hv) ?_
                refine cnd (fun hg2 => ?_) (fun hg2 => ?_)
                · (exfalso; first | omega | contradiction | simp_all; done)
                · refine callP (laws_eqHost_f (mcH x v p) (mcH x v p)).k ?_
                  refine cnd (fun hg8 => ?_) (fun hg8 => ?_)
                  · (exfalso; first | omega | contradiction | simp_all; done)
                  · refine callP (laws_eqMove_f (mcV x v p) (mcV x v p)).k ?_
                    refine cnd (fun hg14 => ?_) (fun hg14 => ?_)
                    · (exfalso; first | omega | contradiction | simp_all; done)
                    · refine cnd (fun hb6 => ?_) (fun hb6 => ?_)
                      · (exfalso; first | omega | contradiction | simp_all; done)
                      · refine callH [(13, 0), (13, 1), (13, 2), (13, 3)] (laws_markHost_f (mcH x v p) 1 (by omega) (by omega) hsm) ?_
                        refine callH [(14, 1)] (laws_markMove_f (mcV x v p) (1 + cntIntSS (mcH x v p).Memory + cntMonS (mcH x v p).Mons + cntEntryS (mcH x v p).Buffer + cntEntryS (mcH x v p).IoBuffer) (by omega) (by omega) hsv) ?_
                        refine callP (laws_heldHost_f (mcH x v p) 1 (by omega) (by omega) hsm).k ?_
                        refine cnd (fun hb7 => ?_) (fun hb7 => ?_)
                        · (exfalso; first | omega | contradiction | simp_all; done)
                        · refine callP (laws_heldMove_f (mcV x v p) (1 + cntIntSS (mcH x v p).Memory + cntMonS (mcH x v p).Mons + cntEntryS (mcH x v p).Buffer + cntEntryS (mcH x v p).IoBuffer) (by omega) (by omega) hsv).k ?_
                          refine cnd (fun hb8 => ?_) (fun hb8 => ?_)
                          · (exfalso; first | omega | contradiction | simp_all; done)
                          · refine cnd (fun hb9 => ?_) (fun hb9 => ?_)
                            · (exfalso; first | omega | contradiction | simp_all; done)
                            · refine regTJ [12, 13] [12, 13] [] (.quiet 4 1 (.quiet 0 0 (.quiet 2 0 (.fork (.alt 1 (.fork (.alt 3 (.fork (.alt 5 (.quiet 6 1 (.quiet 7 1 (.quiet 8 1 (.quiet 9 1 (.fork (.alt 10 (.fork (.alt 11 (.fork (.alt 12 (.fork (.alt 13 (.quiet 14 1 .done) .stop)) .stop)) .stop)) (.alt 11 (.fork (.alt 10 (.fork (.alt 12 (.fork (.alt 13 (.quiet 14 1 .done) .stop)) .stop)) .stop)) .stop))))))) (.alt 10 (.fork (.alt 5 (.quiet 6 1 (.quiet 7 1 (.quiet 8 1 (.quiet 9 1 (.fork (.alt 11 (.fork (.alt 12 (.fork (.alt 13 (.quiet 14 1 .done) .stop)) .stop)) .stop)))))) (.alt 11 (.fork (.alt 5 (.quiet 6 1 (.quiet 7 1 (.quiet 8 1 (.quiet 9 1 (.fork (.alt 12 (.fork (.alt 13 (.quiet 14 1 .done) .stop)) .stop)))))) .stop)) .stop))) (.alt 11 (.fork (.alt 5 (.quiet 6 1 (.quiet 7 1 (.quiet 8 1 (.quiet 9 1 (.fork (.alt 10 (.fork (.alt 12 (.fork (.alt 13 (.quiet 14 1 .done) .stop)) .stop)) .stop)))))) (.alt 10 (.fork (.alt 5 (.quiet 6 1 (.quiet 7 1 (.quiet 8 1 (.quiet 9 1 (.fork (.alt 12 (.fork (.alt 13 (.quiet 14 1 .done) .stop)) .stop)))))) .stop)) .stop))) .stop)))) (.alt 10 (.fork (.alt 3 (.fork (.alt 5 (.quiet 6 1 (.quiet 7 1 (.quiet 8 1 (.quiet 9 1 (.fork (.alt 11 (.fork (.alt 12 (.fork (.alt 13 (.quiet 14 1 .done) .stop)) .stop)) .stop)))))) (.alt 11 (.fork (.alt 5 (.quiet 6 1 (.quiet 7 1 (.quiet 8 1 (.quiet 9 1 (.fork (.alt 12 (.fork (.alt 13 (.quiet 14 1 .done) .stop)) .stop)))))) .stop)) .stop))) (.alt 11 (.fork (.alt 3 (.fork (.alt 5 (.quiet 6 1 (.quiet 7 1 (.quiet 8 1 (.quiet 9 1 (.fork (.alt 12 (.fork (.alt 13 (.quiet 14 1 .done) .stop)) .stop)))))) .stop)) .stop)) .stop))) (.alt 11 (.fork (.alt 3 (.fork (.alt 5 (.quiet 6 1 (.quiet 7 1 (.quiet 8 1 (.quiet 9 1 (.fork (.alt 10 (.fork (.alt 12 (.fork (.alt 13 (.quiet 14 1 .done) .stop)) .stop)) .stop)))))) (.alt 10 (.fork (.alt 5 (.quiet 6 1 (.quiet 7 1 (.quiet 8 1 (.quiet 9 1 (.fork (.alt 12 (.fork (.alt 13 (.quiet 14 1 .done) .stop)) .stop)))))) .stop)) .stop))) (.alt 10 (.fork (.alt 3 (.fork (.alt 5 (.quiet 6 1 (.quiet 7 1 (.quiet 8 1 (.quiet 9 1 (.fork (.alt 12 (.fork (.alt 13 (.quiet 14 1 .done) .stop)) .stop)))))) .stop)) .stop)) .stop))) .stop)))) (.alt 10 (.fork (.alt 1 (.fork (.alt 3 (.fork (.alt 5 (.quiet 6 1 (.quiet 7 1 (.quiet 8 1 (.quiet 9 1 (.fork (.alt 11 (.fork (.alt 12 (.fork (.alt 13 (.quiet 14 1 .done) .stop)) .stop)) .stop)))))) (.alt 11 (.fork (.alt 5 (.quiet 6 1 (.quiet 7 1 (.quiet 8 1 (.quiet 9 1 (.fork (.alt 12 (.fork (.alt 13 (.quiet 14 1 .done) .stop)) .stop)))))) .stop)) .stop))) (.alt 11 (.fork (.alt 3 (.fork (.alt 5 (.quiet 6 1 (.quiet 7 1 (.quiet 8 1 (.quiet 9 1 (.fork (.alt 12 (.fork (.alt 13 (.quiet 14 1 .done) .stop)) .stop)))))) .stop)) .stop)) .stop))) (.alt 11 (.fork (.alt 1 (.fork (.alt 3 (.fork (.alt 5 (.quiet 6 1 (.quiet 7 1 (.quiet 8 1 (.quiet 9 1 (.fork (.alt 12 (.fork (.alt 13 (.quiet 14 1 .done) .stop)) .stop)))))) .stop)) .stop)) .stop)) .stop))) (.alt 11 (.fork (.alt 1 (.fork (.alt 3 (.fork (.alt 5 (.quiet 6 1 (.quiet 7 1 (.quiet 8 1 (.quiet 9 1 (.fork (.alt 10 (.fork (.alt 12 (.fork (.alt 13 (.quiet 14 1 .done) .stop)) .stop)) .stop)))))) (.alt 10 (.fork (.alt 5 (.quiet 6 1 (.quiet 7 1 (.quiet 8 1 (.quiet 9 1 (.fork (.alt 12 (.fork (.alt 13 (.quiet 14 1 .done) .stop)) .stop)))))) .stop)) .stop))) (.alt 10 (.fork (.alt 3 (.fork (.alt 5 (.quiet 6 1 (.quiet 7 1 (.quiet 8 1 (.quiet 9 1 (.fork (.alt 12 (.fork (.alt 13 (.quiet 14 1 .done) .stop)) .stop)))))) .stop)) .stop)) .stop))) (.alt 10 (.fork (.alt 1 (.fork (.alt 3 (.fork (.alt 5 (.quiet 6 1 (.quiet 7 1 (.quiet 8 1 (.quiet 9 1 (.fork (.alt 12 (.fork (.alt 13 (.quiet 14 1 .done) .stop)) .stop)))))) .stop)) .stop)) .stop)) .stop))) .stop))))))) [6, 8, 9, 10, 13, 14, 17] [] [19, 20] [.set 19 (.one (.ptr ⟨19, [], 0⟩)), .set 20 (.one (.ptr ⟨20, [], 0⟩)), .set 21 (B (moveCopy x v p).isSome)] [(19, ⟨true, [.own (.sl 1 ((mcH x v p).Memory.map dIntS)), .own (.sl 9 ((mcH x v p).Mons.map dMon)), .own (.sl 4 ((mcH x v p).Buffer.map dEntry)), .own (.sl 4 ((mcH x v p).IoBuffer.map dEntry))]⟩), (20, ⟨true, [.own (.v (.int .i64 (mcV x v p).M)), .own (.sl 1 ((mcV x v p).Have.map dIntS))]⟩)] ?_
                              refine ⟨?_, ?_⟩
                              · repeat' first | exact True.intro | refine And.intro ?_ ?_ | (intro _ _) | refine callG (laws_toHost_f x hx).k ?_ | refine callG (laws_toMove_f v hv).k ?_ | refine callG (impl_MoveCopy_f x v p).k ?_ | exact rfl | (refine eqS ?_; simp [*]; done)
                              refine callP (laws_eqHost_f (mcH x v p) (mcH x v p)).k ?_
                              refine cnd (fun hg4 => ?_) (fun hg4 => ?_)
                              · (exfalso; first | omega | contradiction | simp_all; done)
                              · refine callP (laws_eqMove_f (mcV x v p) (mcV x v p)).k ?_
                                refine cnd (fun hg10 => ?_) (fun hg10 => ?_)
                                · (exfalso; first | omega | contradiction | simp_all; done)
                                · refine cnd (fun hb10 => ?_) (fun hb10 => ?_)
                                  · (exfalso; first | omega | contradiction | simp_all; done)
                                  · refine callP (laws_heldHost_f (mcH x v p) 1 (by omega) (by omega) hsm).k ?_
                                    refine cnd (fun hb11 => ?_) (fun hb11 => ?_)
                                    · (exfalso; first | omega | contradiction | simp_all; done)
                                    · refine callP (laws_heldMove_f (mcV x v p) (1 + cntIntSS (mcH x v p).Memory + cntMonS (mcH x v p).Mons + cntEntryS (mcH x v p).Buffer + cntEntryS (mcH x v p).IoBuffer) (by omega) (by omega) hsv).k ?_
                                      refine cnd (fun hb12 => ?_) (fun hb12 => ?_)
                                      · (exfalso; first | omega | contradiction | simp_all; done)
                                      · refine cnd (fun hb13 => ?_) (fun hb13 => ?_)
                                        · (exfalso; first | omega | contradiction | simp_all; done)
                                        · exact rfl
end Go.Proofs.YteelmdpahpggkaaGreat.T


namespace Go.Proofs.YteelmdpahpggkaaGreat.Base
open Go.ChangeShapes Go.WideShapes Go.ChangeAt Go.RowKit

section
variable {H : Type} {enc : TypeId × Value → H} {P : Program}
theorem post_of_below {f : Func} {s : ChangeSpec} {apart fresh handsOn again : Bool} {W W' : World} {args : Array Value} {v : Value} {ds gs : List (DataW H)} {before pa pv : List MemPlace}
    (hW : DataW.Whole enc P f.params.toList s.vars apart W args.toList ds gs before)
    (hres : ∀ (b : Nat) (sp : Nat → Bool) (hd : Bool), DataW.TrodAll enc P W' b sp hd f.resultTypes.toList (v.resultList f.resultTypes.size) (s.fn H (ds ++ gs)).results [])
    (hargs : ∀ sp : Nat → Bool, (∀ p ∈ before, sp p.block = true) → DataW.TrodAll enc P W' 0 sp true f.params.toList args.toList (s.fn H (ds ++ gs)).args pa)
    (hvars : ∀ sp : Nat → Bool, (∀ p ∈ before, sp p.block = true) → DataW.TrodVars enc P W' sp s.vars (s.fn H (ds ++ gs)).vars pv)
    (hps : before = pa ++ pv) (hb : Below W.heap.size W W')
    (hok : ∀ (j : Nat) (t : TypeId) (r : Value), f.resultTypes[j]? = some t → (v.resultList f.resultTypes.size)[j]? = some r → Value.okWide P W' .any 0 t r) :
    s.post enc P f apart fresh handsOn again W args v W' := by
  have hlt : ∀ p ∈ before, p.block < W.heap.size := fun p hp => hW.lt p hp
  have hold : ∀ p ∈ before, (fun b => decide (b < W.heap.size)) p.block = true := fun p hp => by simpa using hlt p hp
  refine ⟨ds, gs, before, [], pa, pv, hW, hres _ _ _, hargs _ hold, hvars _ hold, World.keptBut_mono (fun p hp => ⟨hp, ?_⟩) (hb.frame (· ∈ before)), fun _ => ?_⟩
  · rw [hps, List.mem_append] at hp
    exact Or.inr hp
  · obtain ⟨_, _, _, _, _, hz, hn⟩ := hW
    refine ⟨hok, _, _, ([] ++ pa) ++ pv, ⟨[] ++ pa, pv, trodAll_append (hargs _ (fun _ _ => rfl)) (hres _ _ _), hvars _ (fun _ _ => rfl), rfl, ?_, ?_⟩, ?_⟩
    · intro b off hp
      have hin : MemPlace.cell b off ∈ before := by rw [hps]; simpa using hp
      rw [hb.frozen (hlt _ hin)]
      exact hz b off hin
    · intro ha
      have := hn ha
      rw [hps] at this
      simpa using this
    · intro p hp _
      rw [hps]
      simpa using hp
end

theorem own : ownKnob Tryz.prog.godebug = none := by kernel_rfl

end Go.Proofs.YteelmdpahpggkaaGreat.Base


