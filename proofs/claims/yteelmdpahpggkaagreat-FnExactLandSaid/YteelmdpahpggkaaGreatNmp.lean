/- Land: the law. PRINTED by gen3.py. No condition. -/
import Derived.Test.YteelmdpahpggkaaGreatNlp
import Derived.Test.YteelmdpahpggkaaGreatHbp
import Derived.Test.YteelmdpahpggkaaGreatHcp
import Derived.Test.YteelmdpahpggkaaGreatHep
import Derived.Test.YteelmdpahpggkaaGreatHfp
namespace Go.Proofs.YteelmdpahpggkaaGreat.T
open Go
set_option linter.unusedVariables false
set_option linter.unusedSimpArgs false
set_option maxRecDepth 100000
set_option maxHeartbeats 8000000

theorem land_sm {h : VHost} {x : VMon} (hh : SmHost h) (hx : SmMon x) : SmHost ((land h x).getD h) := by
  unfold land
  split
  · rename_i hc
    simp only [Bool.and_eq_true, decide_eq_true_eq] at hc
    refine ⟨hh.1, ⟨?_, ?_⟩, hh.2.2⟩
    · simp only [Option.getD_some, List.length_append, List.length_cons, List.length_nil]; omega
    · intro y hy
      rcases List.mem_append.1 hy with hy | hy
      · exact hh.2.1.2 y hy
      · rw [List.mem_singleton.1 hy]; exact hx
  · exact hh
theorem land_cnt (h : VHost) (x : VMon) : cntVHost ((land h x).getD h) ≤ cntVHost h + cntVMon x + 3 := by
  have h0 := cntVMon_nn x
  unfold land
  split
  · simp only [Option.getD_some, cntVHost, cntMonS, cntFold_app, cntFold]
    simp only [cntEMon, cntVMon] at *
    omega
  · show cntVHost h ≤ _
    omega
theorem laws_FnExactLand_f (x : VHost) (v : VMon) : Fun Tryz.prog 4 [A (rHost x), A (rMon v)] (RV (.bool true)) := by
  refine Fun.w 140 Tryz.func4 fun w g0 _ => ?_
  refine callP (laws_szHost_f x 1048576 (by omega) (by omega)).k ?_
  refine cnd (fun hb => ?_) (fun hb => ?_)
  · exact rfl
  · have hx0 : 0 ≤ szHost x 1048576 := by omega
    have hx := (szHost_ok x 1048576 hx0).2 (by omega)
    have hle := (szHost_ok x 1048576 hx0).1
    have hcv := szHost_cntV x 1048576 hx0
    have hcn := cntVHost_nn x
    have hce : cntVHost x = cntIntSS x.Memory + cntMonS x.Mons + cntEntryS x.Buffer + cntEntryS x.IoBuffer := rfl
    have : Q (SmHost x) := ⟨hx⟩
    refine callP (laws_szMon_f v (szHost x 1048576) (by omega) (by omega)).k ?_
    refine cnd (fun hb2 => ?_) (fun hb2 => ?_)
    · exact rfl
    · have hv0 : 0 ≤ szMon v (szHost x 1048576) := by omega
      have hv := (szMon_ok v _ hv0).2 (by omega)
      have hvl := (szMon_ok v _ hv0).1
      have hcw := szMon_cntV v _ hv0
      have hcm := cntVMon_nn v
      have : Q (SmMon v) := ⟨hv⟩
      have hsm : SmHost ((land x v).getD x) := land_sm hx hv
      have hcl := land_cnt x v
      have hcr := cntVHost_nn ((land x v).getD x)
      have hrn1 := cntIntSS_nn ((land x v).getD x).Memory
      have hrn2 := cntMonS_nn ((land x v).getD x).Mons
      have hrn3 := cntEntryS_nn ((land x v).getD x).Buffer
      have hrn4 := cntEntryS_nn ((land x v).getD x).IoBuffer
      have hn1 := cntIntSS_nn x.Memory
      have hn2 := cntMonS_nn x.Mons
      have hn3 := cntEntryS_nn x.Buffer
      have hn4 := cntEntryS_nn x.IoBuffer
      have hm1 := cntSlotS_nn v.Outer
      have hm2 := cntIntSS_nn v.Out
      have hm3 := cntBoolS_nn v.Dirty
      have hm4 := cntGuestS_nn v.Guests
      have hm5 := cntIntS_nn v.Outs
      have hm6 := cntKeptS_nn v.Tables
      refine regTJ [6, 7, 8, 10, 11] [] [] (.quiet 0 0 (.quiet 2 0 (.fork (.alt 1 (.fork (.alt 3 (.fork (.alt 4 (.quiet 5 0 (.fork (.alt 6 (.fork (.alt 7 (.fork (.alt 8 (.fork (.alt 9 (.fork (.alt 10 (.fork (.alt 11 (.quiet 12 0 .done) .stop)) .stop)) .stop)) (.alt 9 (.fork (.alt 8 (.fork (.alt 10 (.fork (.alt 11 (.quiet 12 0 .done) .stop)) .stop)) (.alt 10 (.fork (.alt 8 (.fork (.alt 11 (.quiet 12 0 .done) .stop)) (.alt 11 (.fork (.alt 8 (.quiet 12 0 .done) .stop)) .stop))) .stop))) .stop))) (.alt 8 (.fork (.alt 7 (.fork (.alt 9 (.fork (.alt 10 (.fork (.alt 11 (.quiet 12 0 .done) .stop)) .stop)) .stop)) (.alt 9 (.fork (.alt 7 (.fork (.alt 10 (.fork (.alt 11 (.quiet 12 0 .done) .stop)) .stop)) (.alt 10 (.fork (.alt 7 (.fork (.alt 11 (.quiet 12 0 .done) .stop)) .stop)) .stop))) .stop))) (.alt 9 (.fork (.alt 7 (.fork (.alt 8 (.fork (.alt 10 (.fork (.alt 11 (.quiet 12 0 .done) .stop)) .stop)) (.alt 10 (.fork (.alt 8 (.fork (.alt 11 (.quiet 12 0 .done) .stop)) (.alt 11 (.fork (.alt 8 (.quiet 12 0 .done) .stop)) .stop))) .stop))) (.alt 8 (.fork (.alt 7 (.fork (.alt 10 (.fork (.alt 11 (.quiet 12 0 .done) .stop)) .stop)) (.alt 10 (.fork (.alt 7 (.fork (.alt 11 (.quiet 12 0 .done) .stop)) .stop)) .stop))) (.alt 10 (.fork (.alt 7 (.fork (.alt 8 (.fork (.alt 11 (.quiet 12 0 .done) .stop)) (.alt 11 (.fork (.alt 8 (.quiet 12 0 .done) .stop)) .stop))) (.alt 8 (.fork (.alt 7 (.fork (.alt 11 (.quiet 12 0 .done) .stop)) .stop)) .stop))) .stop)))) .stop)))) (.alt 7 (.fork (.alt 6 (.fork (.alt 8 (.fork (.alt 9 (.fork (.alt 10 (.fork (.alt 11 (.quiet 12 0 .done) .stop)) .stop)) .stop)) (.alt 9 (.fork (.alt 8 (.fork (.alt 10 (.fork (.alt 11 (.quiet 12 0 .done) .stop)) .stop)) (.alt 10 (.fork (.alt 8 (.fork (.alt 11 (.quiet 12 0 .done) .stop)) (.alt 11 (.fork (.alt 8 (.quiet 12 0 .done) .stop)) .stop))) .stop))) .stop))) (.alt 8 (.fork (.alt 6 (.fork (.alt 9 (.fork (.alt 10 (.fork (.alt 11 (.quiet 12 0 .done) .stop)) .stop)) .stop)) (.alt 9 (.fork (.alt 6 (.fork (.alt 10 (.fork (.alt 11 (.quiet 12 0 .done) .stop)) .stop)) .stop)) .stop))) (.alt 9 (.fork (.alt 6 (.fork (.alt 8 (.fork (.alt 10 (.fork (.alt 11 (.quiet 12 0 .done) .stop)) .stop)) (.alt 10 (.fork (.alt 8 (.fork (.alt 11 (.quiet 12 0 .done) .stop)) (.alt 11 (.fork (.alt 8 (.quiet 12 0 .done) .stop)) .stop))) .stop))) (.alt 8 (.fork (.alt 6 (.fork (.alt 10 (.fork (.alt 11 (.quiet 12 0 .done) .stop)) .stop)) .stop)) .stop))) .stop)))) (.alt 8 (.fork (.alt 6 (.fork (.alt 7 (.fork (.alt 9 (.fork (.alt 10 (.fork (.alt 11 (.quiet 12 0 .done) .stop)) .stop)) .stop)) (.alt 9 (.fork (.alt 7 (.fork (.alt 10 (.fork (.alt 11 (.quiet 12 0 .done) .stop)) .stop)) (.alt 10 (.fork (.alt 7 (.fork (.alt 11 (.quiet 12 0 .done) .stop)) .stop)) .stop))) .stop))) (.alt 7 (.fork (.alt 6 (.fork (.alt 9 (.fork (.alt 10 (.fork (.alt 11 (.quiet 12 0 .done) .stop)) .stop)) .stop)) (.alt 9 (.fork (.alt 6 (.fork (.alt 10 (.fork (.alt 11 (.quiet 12 0 .done) .stop)) .stop)) .stop)) .stop))) (.alt 9 (.fork (.alt 6 (.fork (.alt 7 (.fork (.alt 10 (.fork (.alt 11 (.quiet 12 0 .done) .stop)) .stop)) (.alt 10 (.fork (.alt 7 (.fork (.alt 11 (.quiet 12 0 .done) .stop)) .stop)) .stop))) (.alt 7 (.fork (.alt 6 (.fork (.alt 10 (.fork (.alt 11 (.quiet 12 0 .done) .stop)) .stop)) .stop)) .stop))) .stop)))) (.alt 9 (.fork (.alt 6 (.fork (.alt 7 (.fork (.alt 8 (.fork (.alt 10 (.fork (.alt 11 (.quiet 12 0 .done) .stop)) .stop)) (.alt 10 (.fork (.alt 8 (.fork (.alt 11 (.quiet 12 0 .done) .stop)) (.alt 11 (.fork (.alt 8 (.quiet 12 0 .done) .stop)) .stop))) .stop))) (.alt 8 (.fork (.alt 7 (.fork (.alt 10 (.fork (.alt 11 (.quiet 12 0 .done) .stop)) .stop)) (.alt 10 (.fork (.alt 7 (.fork (.alt 11 (.quiet 12 0 .done) .stop)) .stop)) .stop))) (.alt 10 (.fork (.alt 7 (.fork (.alt 8 (.fork (.alt 11 (.quiet 12 0 .done) .stop)) (.alt 11 (.fork (.alt 8 (.quiet 12 0 .done) .stop)) .stop))) (.alt 8 (.fork (.alt 7 (.fork (.alt 11 (.quiet 12 0 .done) .stop)) .stop)) .stop))) .stop)))) (.alt 7 (.fork (.alt 6 (.fork (.alt 8 (.fork (.alt 10 (.fork (.alt 11 (.quiet 12 0 .done) .stop)) .stop)) (.alt 10 (.fork (.alt 8 (.fork (.alt 11 (.quiet 12 0 .done) .stop)) (.alt 11 (.fork (.alt 8 (.quiet 12 0 .done) .stop)) .stop))) .stop))) (.alt 8 (.fork (.alt 6 (.fork (.alt 10 (.fork (.alt 11 (.quiet 12 0 .done) .stop)) .stop)) .stop)) .stop))) (.alt 8 (.fork (.alt 6 (.fork (.alt 7 (.fork (.alt 10 (.fork (.alt 11 (.quiet 12 0 .done) .stop)) .stop)) (.alt 10 (.fork (.alt 7 (.fork (.alt 11 (.quiet 12 0 .done) .stop)) .stop)) .stop))) (.alt 7 (.fork (.alt 6 (.fork (.alt 10 (.fork (.alt 11 (.quiet 12 0 .done) .stop)) .stop)) .stop)) .stop))) .stop)))) .stop)))))) (.alt 9 (.fork (.alt 4 (.quiet 5 0 (.fork (.alt 6 (.fork (.alt 7 (.fork (.alt 8 (.fork (.alt 10 (.fork (.alt 11 (.quiet 12 0 .done) .stop)) .stop)) (.alt 10 (.fork (.alt 8 (.fork (.alt 11 (.quiet 12 0 .done) .stop)) (.alt 11 (.fork (.alt 8 (.quiet 12 0 .done) .stop)) .stop))) .stop))) (.alt 8 (.fork (.alt 7 (.fork (.alt 10 (.fork (.alt 11 (.quiet 12 0 .done) .stop)) .stop)) (.alt 10 (.fork (.alt 7 (.fork (.alt 11 (.quiet 12 0 .done) .stop)) .stop)) .stop))) (.alt 10 (.fork (.alt 7 (.fork (.alt 8 (.fork (.alt 11 (.quiet 12 0 .done) .stop)) (.alt 11 (.fork (.alt 8 (.quiet 12 0 .done) .stop)) .stop))) (.alt 8 (.fork (.alt 7 (.fork (.alt 11 (.quiet 12 0 .done) .stop)) .stop)) .stop))) .stop)))) (.alt 7 (.fork (.alt 6 (.fork (.alt 8 (.fork (.alt 10 (.fork (.alt 11 (.quiet 12 0 .done) .stop)) .stop)) (.alt 10 (.fork (.alt 8 (.fork (.alt 11 (.quiet 12 0 .done) .stop)) (.alt 11 (.fork (.alt 8 (.quiet 12 0 .done) .stop)) .stop))) .stop))) (.alt 8 (.fork (.alt 6 (.fork (.alt 10 (.fork (.alt 11 (.quiet 12 0 .done) .stop)) .stop)) .stop)) .stop))) (.alt 8 (.fork (.alt 6 (.fork (.alt 7 (.fork (.alt 10 (.fork (.alt 11 (.quiet 12 0 .done) .stop)) .stop)) (.alt 10 (.fork (.alt 7 (.fork (.alt 11 (.quiet 12 0 .done) .stop)) .stop)) .stop))) (.alt 7 (.fork (.alt 6 (.fork (.alt 10 (.fork (.alt 11 (.quiet 12 0 .done) .stop)) .stop)) .stop)) .stop))) .stop))))) .stop)) .stop))) (.alt 9 (.fork (.alt 3 (.fork (.alt 4 (.quiet 5 0 (.fork (.alt 6 (.fork (.alt 7 (.fork (.alt 8 (.fork (.alt 10 (.fork (.alt 11 (.quiet 12 0 .done) .stop)) .stop)) (.alt 10 (.fork (.alt 8 (.fork (.alt 11 (.quiet 12 0 .done) .stop)) (.alt 11 (.fork (.alt 8 (.quiet 12 0 .done) .stop)) .stop))) .stop))) (.alt 8 (.fork (.alt 7 (.fork (.alt 10 (.fork (.alt 11 (.quiet 12 0 .done) .stop)) .stop)) (.alt 10 (.fork (.alt 7 (.fork (.alt 11 (.quiet 12 0 .done) .stop)) .stop)) .stop))) (.alt 10 (.fork (.alt 7 (.fork (.alt 8 (.fork (.alt 11 (.quiet 12 0 .done) .stop)) (.alt 11 (.fork (.alt 8 (.quiet 12 0 .done) .stop)) .stop))) (.alt 8 (.fork (.alt 7 (.fork (.alt 11 (.quiet 12 0 .done) .stop)) .stop)) .stop))) .stop)))) (.alt 7 (.fork (.alt 6 (.fork (.alt 8 (.fork (.alt 10 (.fork (.alt 11 (.quiet 12 0 .done) .stop)) .stop)) (.alt 10 (.fork (.alt 8 (.fork (.alt 11 (.quiet 12 0 .done) .stop)) (.alt 11 (.fork (.alt 8 (.quiet 12 0 .done) .stop)) .stop))) .stop))) (.alt 8 (.fork (.alt 6 (.fork (.alt 10 (.fork (.alt 11 (.quiet 12 0 .done) .stop)) .stop)) .stop)) .stop))) (.alt 8 (.fork (.alt 6 (.fork (.alt 7 (.fork (.alt 10 (.fork (.alt 11 (.quiet 12 0 .done) .stop)) .stop)) (.alt 10 (.fork (.alt 7 (.fork (.alt 11 (.quiet 12 0 .done) .stop)) .stop)) .stop))) (.alt 7 (.fork (.alt 6 (.fork (.alt 10 (.fork (.alt 11 (.quiet 12 0 .done) .stop)) .stop)) .stop)) .stop))) .stop))))) .stop)) .stop)) .stop))) (.alt 9 (.fork (.alt 1 (.fork (.alt 3 (.fork (.alt 4 (.quiet 5 0 (.fork (.alt 6 (.fork (.alt 7 (.fork (.alt 8 (.fork (.alt 10 (.fork (.alt 11 (.quiet 12 0 .done) .stop)) .stop)) (.alt 10 (.fork (.alt 8 (.fork (.alt 11 (.quiet 12 0 .done) .stop)) (.alt 11 (.fork (.alt 8 (.quiet 12 0 .done) .stop)) .stop))) .stop))) (.alt 8 (.fork (.alt 7 (.fork (.alt 10 (.fork (.alt 11 (.quiet 12 0 .done) .stop)) .stop)) (.alt 10 (.fork (.alt 7 (.fork (.alt 11 (.quiet 12 0 .done) .stop)) .stop)) .stop))) (.alt 10 (.fork (.alt 7 (.fork (.alt 8 (.fork (.alt 11 (.quiet 12 0 .done) .stop)) (.alt 11 (.fork (.alt 8 (.quiet 12 0 .done) .stop)) .stop))) (.alt 8 (.fork (.alt 7 (.fork (.alt 11 (.quiet 12 0 .done) .stop)) .stop)) .stop))) .stop)))) (.alt 7 (.fork (.alt 6 (.fork (.alt 8 (.fork (.alt 10 (.fork (.alt 11 (.quiet 12 0 .done) .stop)) .stop)) (.alt 10 (.fork (.alt 8 (.fork (.alt 11 (.quiet 12 0 .done) .stop)) (.alt 11 (.fork (.alt 8 (.quiet 12 0 .done) .stop)) .stop))) .stop))) (.alt 8 (.fork (.alt 6 (.fork (.alt 10 (.fork (.alt 11 (.quiet 12 0 .done) .stop)) .stop)) .stop)) .stop))) (.alt 8 (.fork (.alt 6 (.fork (.alt 7 (.fork (.alt 10 (.fork (.alt 11 (.quiet 12 0 .done) .stop)) .stop)) (.alt 10 (.fork (.alt 7 (.fork (.alt 11 (.quiet 12 0 .done) .stop)) .stop)) .stop))) (.alt 7 (.fork (.alt 6 (.fork (.alt 10 (.fork (.alt 11 (.quiet 12 0 .done) .stop)) .stop)) .stop)) .stop))) .stop))))) .stop)) .stop)) .stop)) .stop))))) [2, 3, 4] [] [6] [.set 6 (.one (.ptr ⟨6, [], 0⟩)), .set 7 (I (landN x v)), .set 8 (B (land x v).isSome)] [(6, ⟨true, [.own (.sl 1 (((land x v).getD x).Memory.map dIntS)), .own (.sl 9 (((land x v).getD x).Mons.map dMon)), .own (.sl 4 (((land x v).getD x).Buffer.map dEntry)), .own (.sl 4 (((land x v).getD x).IoBuffer.map dEntry))]⟩)] ?_
      refine ⟨?_, ?_⟩
      · repeat' first | exact True.intro | refine And.intro ?_ ?_ | (intro _ _) | refine callG (laws_toHost_f x hx).k ?_ | refine callG (laws_toMon_f v hv).k ?_ | refine callG (spec_Land_f x v).k ?_ | exact rfl | (refine eqS ?_; simp [*]; done)
      refine callG (laws_toHost_f x hx).k ?_
      refine callG (laws_toMon_f v hv).k ?_
      refine callG (impl_Land_f x v).k ?_
      refine callP (laws_eqHost_f ((land x v).getD x) ((land x v).getD x)).k ?_
      refine cnd (fun hg4 => ?_) (fun hg4 => ?_)
      · (exfalso; first | omega | contradiction | simp_all; done)
      · refine cnd (fun hg9 => ?_) (fun hg9 => ?_)
        · (exfalso; first | omega | contradiction | simp_all; done)
        · refine cnd (fun hb3 => ?_) (fun hb3 => ?_)
          · (exfalso; first | omega | contradiction | simp_all; done)
          · refine regU [] [(0, 0), (1, 0), (2, 1), (3, 1), (4, 0)] ?_
            refine callG (laws_toHost_f x hx).k ?_
            refine callP (laws_eqHost_f x x).k ?_
            refine cnd (fun hb4 => ?_) (fun hb4 => ?_)
            · (exfalso; first | omega | contradiction | simp_all; done)
            · refine regU [] [(0, 0), (1, 0), (2, 1), (3, 1), (4, 0)] ?_
              refine callG (laws_toMon_f v hv).k ?_
              refine callP (laws_eqMon_f v v).k ?_
              refine cnd (fun hb5 => ?_) (fun hb5 => ?_)
              · (exfalso; first | omega | contradiction | simp_all; done)
              · refine callH [(9, 0), (9, 1), (9, 2), (9, 3)] (laws_markHost_f x 1 (by omega) (by omega) hx) ?_
                refine callH [(10, 0), (10, 1), (10, 2), (10, 3), (10, 4), (10, 7)] (laws_markMon_f v (1 + cntIntSS x.Memory + cntMonS x.Mons + cntEntryS x.Buffer + cntEntryS x.IoBuffer) (by omega) (by omega) hv) ?_
                refine cnd (fun hg2 => ?_) (fun hg2 => ?_)
                · (exfalso; first | omega | contradiction | simp_all; done)
                · refine callP (laws_eqHost_f ((land x v).getD x) ((land x v).getD x)).k ?_
                  refine cnd (fun hg8 => ?_) (fun hg8 => ?_)
                  · (exfalso; first | omega | contradiction | simp_all; done)
                  · refine cnd (fun hg13 => ?_) (fun hg13 => ?_)
                    · (exfalso; first | omega | contradiction | simp_all; done)
                    · refine cnd (fun hb6 => ?_) (fun hb6 => ?_)
                      · (exfalso; first | omega | contradiction | simp_all; done)
                      · refine callH [(11, 0), (11, 1), (11, 2), (11, 3)] (laws_markHost_f ((land x v).getD x) 1 (by omega) (by omega) hsm) ?_
                        refine callP (laws_heldHost_f ((land x v).getD x) 1 (by omega) (by omega) hsm).k ?_
                        refine cnd (fun hb7 => ?_) (fun hb7 => ?_)
                        · (exfalso; first | omega | contradiction | simp_all; done)
                        · refine cnd (fun hb8 => ?_) (fun hb8 => ?_)
                          · (exfalso; first | omega | contradiction | simp_all; done)
                          · refine regTrim [2, 3, 6, 7, 8, 11, 15] [2, 3, 6, 11] ?_
                            refine ⟨(by repeat' first | exact True.intro | exact rfl | refine And.intro ?_ ?_ | (refine eqS ?_; simp [*]; done)), ?_⟩
                            refine regTJ [6, 7, 8, 10, 11] [] [] (.quiet 0 0 (.quiet 2 0 (.fork (.alt 1 (.fork (.alt 3 (.fork (.alt 4 (.quiet 5 0 (.fork (.alt 6 (.fork (.alt 7 (.fork (.alt 8 (.fork (.alt 9 (.fork (.alt 10 (.fork (.alt 11 (.quiet 12 0 .done) .stop)) .stop)) .stop)) (.alt 9 (.fork (.alt 8 (.fork (.alt 10 (.fork (.alt 11 (.quiet 12 0 .done) .stop)) .stop)) (.alt 10 (.fork (.alt 8 (.fork (.alt 11 (.quiet 12 0 .done) .stop)) (.alt 11 (.fork (.alt 8 (.quiet 12 0 .done) .stop)) .stop))) .stop))) .stop))) (.alt 8 (.fork (.alt 7 (.fork (.alt 9 (.fork (.alt 10 (.fork (.alt 11 (.quiet 12 0 .done) .stop)) .stop)) .stop)) (.alt 9 (.fork (.alt 7 (.fork (.alt 10 (.fork (.alt 11 (.quiet 12 0 .done) .stop)) .stop)) (.alt 10 (.fork (.alt 7 (.fork (.alt 11 (.quiet 12 0 .done) .stop)) .stop)) .stop))) .stop))) (.alt 9 (.fork (.alt 7 (.fork (.alt 8 (.fork (.alt 10 (.fork (.alt 11 (.quiet 12 0 .done) .stop)) .stop)) (.alt 10 (.fork (.alt 8 (.fork (.alt 11 (.quiet 12 0 .done) .stop)) (.alt 11 (.fork (.alt 8 (.quiet 12 0 .done) .stop)) .stop))) .stop))) (.alt 8 (.fork (.alt 7 (.fork (.alt 10 (.fork (.alt 11 (.quiet 12 0 .done) .stop)) .stop)) (.alt 10 (.fork (.alt 7 (.fork (.alt 11 (.quiet 12 0 .done) .stop)) .stop)) .stop))) (.alt 10 (.fork (.alt 7 (.fork (.alt 8 (.fork (.alt 11 (.quiet 12 0 .done) .stop)) (.alt 11 (.fork (.alt 8 (.quiet 12 0 .done) .stop)) .stop))) (.alt 8 (.fork (.alt 7 (.fork (.alt 11 (.quiet 12 0 .done) .stop)) .stop)) .stop))) .stop)))) .stop)))) (.alt 7 (.fork (.alt 6 (.fork (.alt 8 (.fork (.alt 9 (.fork (.alt 10 (.fork (.alt 11 (.quiet 12 0 .done) .stop)) .stop)) .stop)) (.alt 9 (.fork (.alt 8 (.fork (.alt 10 (.fork (.alt 11 (.quiet 12 0 .done) .stop)) .stop)) (.alt 10 (.fork (.alt 8 (.fork (.alt 11 (.quiet 12 0 .done) .stop)) (.alt 11 (.fork (.alt 8 (.quiet 12 0 .done) .stop)) .stop))) .stop))) .stop))) (.alt 8 (.fork (.alt 6 (.fork (.alt 9 (.fork (.alt 10 (.fork (.alt 11 (.quiet 12 0 .done) .stop)) .stop)) .stop)) (.alt 9 (.fork (.alt 6 (.fork (.alt 10 (.fork (.alt 11 (.quiet 12 0 .done) .stop)) .stop)) .stop)) .stop))) (.alt 9 (.fork (.alt 6 (.fork (.alt 8 (.fork (.alt 10 (.fork (.alt 11 (.quiet 12 0 .done) .stop)) .stop)) (.alt 10 (.fork (.alt 8 (.fork (.alt 11 (.quiet 12 0 .done) .stop)) (.alt 11 (.fork (.alt 8 (.quiet 12 0 .done) .stop)) .stop))) .stop))) (.alt 8 (.fork (.alt 6 (.fork (.alt 10 (.fork (.alt 11 (.quiet 12 0 .done) .stop)) .stop)) .stop)) .stop))) .stop)))) (.alt 8 (.fork (.alt 6 (.fork (.alt 7 (.fork (.alt 9 (.fork (.alt 10 (.fork (.alt 11 (.quiet 12 0 .done) .stop)) .stop)) .stop)) (.alt 9 (.fork (.alt 7 (.fork (.alt 10 (.fork (.alt 11 (.quiet 12 0 .done) .stop)) .stop)) (.alt 10 (.fork (.alt 7 (.fork (.alt 11 (.quiet 12 0 .done) .stop)) .stop)) .stop))) .stop))) (.alt 7 (.fork (.alt 6 (.fork (.alt 9 (.fork (.alt 10 (.fork (.alt 11 (.quiet 12 0 .done) .stop)) .stop)) .stop)) (.alt 9 (.fork (.alt 6 (.fork (.alt 10 (.fork (.alt 11 (.quiet 12 0 .done) .stop)) .stop)) .stop)) .stop))) (.alt 9 (.fork (.alt 6 (.fork (.alt 7 (.fork (.alt 10 (.fork (.alt 11 (.quiet 12 0 .done) .stop)) .stop)) (.alt 10 (.fork (.alt 7 (.fork (.alt 11 (.quiet 12 0 .done) .stop)) .stop)) .stop))) (.alt 7 (.fork (.alt 6 (.fork (.alt 10 (.fork (.alt 11 (.quiet 12 0 .done) .stop)) .stop)) .stop)) .stop))) .stop)))) (.alt 9 (.fork (.alt 6 (.fork (.alt 7 (.fork (.alt 8 (.fork (.alt 10 (.fork (.alt 11 (.quiet 12 0 .done) .stop)) .stop)) (.alt 10 (.fork (.alt 8 (.fork (.alt 11 (.quiet 12 0 .done) .stop)) (.alt 11 (.fork (.alt 8 (.quiet 12 0 .done) .stop)) .stop))) .stop))) (.alt 8 (.fork (.alt 7 (.fork (.alt 10 (.fork (.alt 11 (.quiet 12 0 .done) .stop)) .stop)) (.alt 10 (.fork (.alt 7 (.fork (.alt 11 (.quiet 12 0 .done) .stop)) .stop)) .stop))) (.alt 10 (.fork (.alt 7 (.fork (.alt 8 (.fork (.alt 11 (.quiet 12 0 .done) .stop)) (.alt 11 (.fork (.alt 8 (.quiet 12 0 .done) .stop)) .stop))) (.alt 8 (.fork (.alt 7 (.fork (.alt 11 (.quiet 12 0 .done) .stop)) .stop)) .stop))) .stop)))) (.alt 7 (.fork (.alt 6 (.fork (.alt 8 (.fork (.alt 10 (.fork (.alt 11 (.quiet 12 0 .done) .stop)) .stop)) (.alt 10 (.fork (.alt 8 (.fork (.alt 11 (.quiet 12 0 .done) .stop)) (.alt 11 (.fork (.alt 8 (.quiet 12 0 .done) .stop)) .stop))) .stop))) (.alt 8 (.fork (.alt 6 (.fork (.alt 10 (.fork (.alt 11 (.quiet 12 0 .done) .stop)) .stop)) .stop)) .stop))) (.alt 8 (.fork (.alt 6 (.fork (.alt 7 (.fork (.alt 10 (.fork (.alt 11 (.quiet 12 0 .done) .stop)) .stop)) (.alt 10 (.fork (.alt 7 (.fork (.alt 11 (.quiet 12 0 .done) .stop)) .stop)) .stop))) (.alt 7 (.fork (.alt 6 (.fork (.alt 10 (.fork (.alt 11 (.quiet 12 0 .done) .stop)) .stop)) .stop)) .stop))) .stop)))) .stop)))))) (.alt 9 (.fork (.alt 4 (.quiet 5 0 (.fork (.alt 6 (.fork (.alt 7 (.fork (.alt 8 (.fork (.alt 10 (.fork (.alt 11 (.quiet 12 0 .done) .stop)) .stop)) (.alt 10 (.fork (.alt 8 (.fork (.alt 11 (.quiet 12 0 .done) .stop)) (.alt 11 (.fork (.alt 8 (.quiet 12 0 .done) .stop)) .stop))) .stop))) (.alt 8 (.fork (.alt 7 (.fork (.alt 10 (.fork (.alt 11 (.quiet 12 0 .done) .stop)) .stop)) (.alt 10 (.fork (.alt 7 (.fork (.alt 11 (.quiet 12 0 .done) .stop)) .stop)) .stop))) (.alt 10 (.fork (.alt 7 (.fork (.alt 8 (.fork (.alt 11 (.quiet 12 0 .done) .stop)) (.alt 11 (.fork (.alt 8 (.quiet 12 0 .done) .stop)) .stop))) (.alt 8 (.fork (.alt 7 (.fork (.alt 11 (.quiet 12 0 .done) .stop)) .stop)) .stop))) .stop)))) (.alt 7 (.fork (.alt 6 (.fork (.alt 8 (.fork (.alt 10 (.fork (.alt 11 (.quiet 12 0 .done) .stop)) .stop)) (.alt 10 (.fork (.alt 8 (.fork (.alt 11 (.quiet 12 0 .done) .stop)) (.alt 11 (.fork (.alt 8 (.quiet 12 0 .done) .stop)) .stop))) .stop))) (.alt 8 (.fork (.alt 6 (.fork (.alt 10 (.fork (.alt 11 (.quiet 12 0 .done) .stop)) .stop)) .stop)) .stop))) (.alt 8 (.fork (.alt 6 (.fork (.alt 7 (.fork (.alt 10 (.fork (.alt 11 (.quiet 12 0 .done) .stop)) .stop)) (.alt 10 (.fork (.alt 7 (.fork (.alt 11 (.quiet 12 0 .done) .stop)) .stop)) .stop))) (.alt 7 (.fork (.alt 6 (.fork (.alt 10 (.fork (.alt 11 (.quiet 12 0 .done) .stop)) .stop)) .stop)) .stop))) .stop))))) .stop)) .stop))) (.alt 9 (.fork (.alt 3 (.fork (.alt 4 (.quiet 5 0 (.fork (.alt 6 (.fork (.alt 7 (.fork (.alt 8 (.fork (.alt 10 (.fork (.alt 11 (.quiet 12 0 .done) .stop)) .stop)) (.alt 10 (.fork (.alt 8 (.fork (.alt 11 (.quiet 12 0 .done) .stop)) (.alt 11 (.fork (.alt 8 (.quiet 12 0 .done) .stop)) .stop))) .stop))) (.alt 8 (.fork (.alt 7 (.fork (.alt 10 (.fork (.alt 11 (.quiet 12 0 .done) .stop)) .stop)) (.alt 10 (.fork (.alt 7 (.fork (.alt 11 (.quiet 12 0 .done) .stop)) .stop)) .stop))) (.alt 10 (.fork (.alt 7 (.fork (.alt 8 (.fork (.alt 11 (.quiet 12 0 .done) .stop)) (.alt 11 (.fork (.alt 8 (.quiet 12 0 .done) .stop)) .stop))) (.alt 8 (.fork (.alt 7 (.fork (.alt 11 (.quiet 12 0 .done) .stop)) .stop)) .stop))) .stop)))) (.alt 7 (.fork (.alt 6 (.fork (.alt 8 (.fork (.alt 10 (.fork (.alt 11 (.quiet 12 0 .done) .stop)) .stop)) (.alt 10 (.fork (.alt 8 (.fork (.alt 11 (.quiet 12 0 .done) .stop)) (.alt 11 (.fork (.alt 8 (.quiet 12 0 .done) .stop)) .stop))) .stop))) (.alt 8 (.fork (.alt 6 (.fork (.alt 10 (.fork (.alt 11 (.quiet 12 0 .done) .stop)) .stop)) .stop)) .stop))) (.alt 8 (.fork (.alt 6 (.fork (.alt 7 (.fork (.alt 10 (.fork (.alt 11 (.quiet 12 0 .done) .stop)) .stop)) (.alt 10 (.fork (.alt 7 (.fork (.alt 11 (.quiet 12 0 .done) .stop)) .stop)) .stop))) (.alt 7 (.fork (.alt 6 (.fork (.alt 10 (.fork (.alt 11 (.quiet 12 0 .done) .stop)) .stop)) .stop)) .stop))) .stop))))) .stop)) .stop)) .stop))) (.alt 9 (.fork (.alt 1 (.fork (.alt 3 (.fork (.alt 4 (.quiet 5 0 (.fork (.alt 6 (.fork (.alt 7 (.fork (.alt 8 (.fork (.alt 10 (.fork (.alt 11 (.quiet 12 0 .done) .stop)) .stop)) (.alt 10 (.fork (.alt 8 (.fork (.alt 11 (.quiet 12 0 .done) .stop)) (.alt 11 (.fork (.alt 8 (.quiet 12 0 .done) .stop)) .stop))) .stop))) (.alt 8 (.fork (.alt 7 (.fork (.alt 10 (.fork (.alt 11 (.quiet 12 0 .done) .stop)) .stop)) (.alt 10 (.fork (.alt 7 (.fork (.alt 11 (.quiet 12 0 .done) .stop)) .stop)) .stop))) (.alt 10 (.fork (.alt 7 (.fork (.alt 8 (.fork (.alt 11 (.quiet 12 0 .done) .stop)) (.alt 11 (.fork (.alt 8 (.quiet 12 0 .done) .stop)) .stop))) (.alt 8 (.fork (.alt 7 (.fork (.alt 11 (.quiet 12 0 .done) .stop)) .stop)) .stop))) .stop)))) (.alt 7 (.fork (.alt 6 (.fork (.alt 8 (.fork (.alt 10 (.fork (.alt 11 (.quiet 12 0 .done) .stop)) .stop)) (.alt 10 (.fork (.alt 8 (.fork (.alt 11 (.quiet 12 0 .done) .stop)) (.alt 11 (.fork (.alt 8 (.quiet 12 0 .done) .stop)) .stop))) .stop))) (.alt 8 (.fork (.alt 6 (.fork (.alt 10 (.fork (.alt 11 (.quiet 12 0 .done) .stop)) .stop)) .stop)) .stop))) (.alt 8 (.fork (.alt 6 (.fork (.alt 7 (.fork (.alt 10 (.fork (.alt 11 (.quiet 12 0 .done) .stop)) .stop)) (.alt 10 (.fork (.alt 7 (.fork (.alt 11 (.quiet 12 0 .done) .stop)) .stop)) .stop))) (.alt 7 (.fork (.alt 6 (.fork (.alt 10 (.fork (.alt 11 (.quiet 12 0 .done) .stop)) .stop)) .stop)) .stop))) .stop))))) .stop)) .stop)) .stop)) .stop))))) [4, 6, 7, 8, 11, 15] [] [17] [.set 17 (.one (.ptr ⟨17, [], 0⟩)), .set 18 (I (landN x v)), .set 19 (B (land x v).isSome)] [(17, ⟨true, [.own (.sl 1 (((land x v).getD x).Memory.map dIntS)), .own (.sl 9 (((land x v).getD x).Mons.map dMon)), .own (.sl 4 (((land x v).getD x).Buffer.map dEntry)), .own (.sl 4 (((land x v).getD x).IoBuffer.map dEntry))]⟩)] ?_
                            refine ⟨?_, ?_⟩
                            · repeat' first | exact True.intro | refine And.intro ?_ ?_ | (intro _ _) | refine callG (laws_toHost_f x hx).k ?_ | refine callG (laws_toMon_f v hv).k ?_ | refine callG (impl_Land_f x v).k ?_ | exact rfl | (refine eqS ?_; simp [*]; done)
                            refine callP (laws_eqHost_f ((land x v).getD x) ((land x v).getD x)).k ?_
                            refine cnd (fun hg4 => ?_) (fun hg4 => ?_)
                            · (exfalso; first | omega | contradiction | simp_all; done)
                            · refine cnd (fun hg9 => ?_) (fun hg9 => ?_)
                              · (exfalso; first | omega | contradiction | simp_all; done)
                              · refine cnd (fun hb9 => ?_) (fun hb9 => ?_)
                                · (exfalso; first | omega | contradiction | simp_all; done)
                                · refine callP (laws_heldHost_f ((land x v).getD x) 1 (by omega) (by omega) hsm).k ?_
                                  refine cnd (fun hb10 => ?_) (fun hb10 => ?_)
                                  · (exfalso; first | omega | contradiction | simp_all; done)
                                  · refine cnd (fun hb11 => ?_) (fun hb11 => ?_)
                                    · (exfalso; first | omega | contradiction | simp_all; done)
                                    · exact rfl
end Go.Proofs.YteelmdpahpggkaaGreat.T

