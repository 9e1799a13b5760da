
import Derived.Test.YteelmdpahpggkaaGreatOdp
import Derived.Test.YteelmdpahpggkaaGreatRows
import Derived.WalkKit
import Derived.WalkSpells
import Derived.WalkLawsBesides
import Derived.ProofKit
import Derived.OpenShut
import Derived.Lib.Hide
namespace Go.Proofs.YteelmdpahpggkaaGreat.T
open Go
set_option linter.unusedVariables false
set_option linter.unusedSimpArgs false
set_option maxRecDepth 100000
set_option maxHeartbeats 8000000
abbrev maS (a b : VHost) (m : Int) (l : List Int) : VHost := ((moveAll a b m l).map fun q => q.1).getD a
abbrev maT (a b : VHost) (m : Int) (l : List Int) : VHost := ((moveAll a b m l).map fun q => q.2.1).getD b
theorem len_fence {h : VHost} {m : Int} : (fenR h m).Mons.length = h.Mons.length := by
 cases hm : hasMon h m with
 | false => unfold fenR; rw [fence_no hm]; rfl
 | true =>
  unfold fenR
  rw [fence_yes hm]
  show ((outTo h m 8).Mons.set _ _).length = _
  rw [List.length_set, len_outTo]
theorem ma_cases {a b : VHost} {m : Int} {l : List Int} : moveAll a b m l = none ∨ ∃ h v x t, SmHost a → SmHost h ∧ SmMove v ∧ hostOk h = true ∧ x = (moveImage h v).getD noMon ∧ t = (land b x).getD b ∧ maS a b m l = fenR h m ∧ maT a b m l = t := by
 unfold maS maT moveAll
 simp only
 cases e : moveImage (copyAll a (moveNew m) l).1 (copyAll a (moveNew m) l).2 with
 | none => exact .inl rfl
 | some x =>
  simp only
  cases e2 : land b x with
  | none => exact .inl rfl
  | some t =>
   refine .inr ⟨(copyAll a (moveNew m) l).1, (copyAll a (moveNew m) l).2, x, t, fun ha => ?_⟩
   have h1 := sm_copyAll (l := l) ha (sm_moveNew m)
   refine ⟨h1.1, h1.2, ?_, by rw [e]; rfl, by rw [e2]; rfl, rfl, rfl⟩
   cases hm : moves (copyAll a (moveNew m) l).1 (copyAll a (moveNew m) l).2 with
   | false => rw [image_no hm] at e; cases e
   | true => exact (moves_yes hm).1
theorem ma_law {a b : VHost} {m : Int} {l : List Int} (ha : SmHost a) (hb : SmHost b) : SmHost (maS a b m l) ∧ SmHost (maT a b m l) ∧ cntVHost (maS a b m l) ≤ cntVHost a + 400000000000000 ∧ cntVHost (maT a b m l) ≤ cntVHost b + 100000000000003 := by
 have h0 := cntVHost_nn a
 have h0b := cntVHost_nn b
 rcases @ma_cases a b m l with h1 | ⟨h, v, x, t, h1⟩
 ·unfold maS maT
  rw [h1]
  exact ⟨ha, hb, by show cntVHost a ≤ _; omega, by show cntVHost b ≤ _; omega⟩
 ·obtain ⟨h2, h3, h4, h5, h6, h7, h8⟩ := h1 ha
  have hx : SmMon x := by rw [h5]; exact sm_image h2 h3
  have h9 := cnt_land b x
  have h10 := cap_Mon hx
  have h11 := sm_fence (m := m) h2
  have h12 := cap_Host3 h11 (by rw [len_fence]; exact host_three h4)
  rw [h7, h8, h6]
  exact ⟨h11, sm_land hb hx, by omega, by omega⟩
theorem laws_FnExactMoveAll_f (x : VHost) (y : VHost) (m : Int) (l : List Int) : Fun Tryz.prog 8 [A (rHost x), A (rHost y), I m, L 1 (l.map dInt)] (RV (.bool true)) := by
 refine Fun.w 203 Tryz.func8 fun w g0 _ => ?_
 refine len ?_
 refine cnd (fun hb => ?_) (fun hb => ?_)
 ·exact rfl
 ·have hl : SmIntS l := (by show l.length ≤ 1048576; omega)
  have : Q (SmIntS l) := ⟨hl⟩
  have hlc := cap_IntS hl
  have hln := cntIntS_nn l
  refine callP (laws_szHost_f x 1048576 (by omega) (by omega)).k ?_
  refine cnd (fun hb2 => ?_) (fun hb2 => ?_)
  ·exact rfl
  ·have hx0 : 0 ≤ szHost x 1048576 := by omega
   have hx := (szHost_ok x 1048576 hx0).2 (by omega)
   have hle := (szHost_ok x 1048576 hx0).1
   have hcv := szHost_cntV x 1048576 hx0
   have hcn := cntVHost_nn x
   have : Q (SmHost x) := ⟨hx⟩
   refine callP (laws_szHost_f y (szHost x 1048576) (by omega) (by omega)).k ?_
   refine cnd (fun hb3 => ?_) (fun hb3 => ?_)
   ·exact rfl
   ·have hy0 : 0 ≤ szHost y (szHost x 1048576) := by omega
    have hy := (szHost_ok y _ hy0).2 (by omega)
    have hyl := (szHost_ok y _ hy0).1
    have hcy := szHost_cntV y _ hy0
    have hcny := cntVHost_nn y
    have : Q (SmHost y) := ⟨hy⟩
    obtain ⟨hsm, hst, hsc, htc⟩ := ma_law (m := m) (l := l) hx hy
    have hsn := cntVHost_nn (maS x y m l)
    have htn := cntVHost_nn (maT x y m l)
    have hxn1 := cntIntSS_nn x.Memory
    have hxn2 := cntMonS_nn x.Mons
    have hxn3 := cntEntryS_nn x.Buffer
    have hxn4 := cntEntryS_nn x.IoBuffer
    have hxn5 : cntVHost x = cntIntSS x.Memory + cntMonS x.Mons + cntEntryS x.Buffer + cntEntryS x.IoBuffer := rfl
    have hyn1 := cntIntSS_nn y.Memory
    have hyn2 := cntMonS_nn y.Mons
    have hyn3 := cntEntryS_nn y.Buffer
    have hyn4 := cntEntryS_nn y.IoBuffer
    have hyn5 : cntVHost y = cntIntSS y.Memory + cntMonS y.Mons + cntEntryS y.Buffer + cntEntryS y.IoBuffer := rfl
    have hrs1 := cntIntSS_nn (maS x y m l).Memory
    have hrs2 := cntMonS_nn (maS x y m l).Mons
    have hrs3 := cntEntryS_nn (maS x y m l).Buffer
    have hrs4 := cntEntryS_nn (maS x y m l).IoBuffer
    have hrs5 : cntVHost (maS x y m l) = cntIntSS (maS x y m l).Memory + cntMonS (maS x y m l).Mons + cntEntryS (maS x y m l).Buffer + cntEntryS (maS x y m l).IoBuffer := rfl
    have hrt1 := cntIntSS_nn (maT x y m l).Memory
    have hrt2 := cntMonS_nn (maT x y m l).Mons
    have hrt3 := cntEntryS_nn (maT x y m l).Buffer
    have hrt4 := cntEntryS_nn (maT x y m l).IoBuffer
    have hrt5 : cntVHost (maT x y m l) = cntIntSS (maT x y m l).Memory + cntMonS (maT x y m l).Mons + cntEntryS (maT x y m l).Buffer + cntEntryS (maT x y m l).IoBuffer := rfl
    refine regTJ [15, 16] [15, 16] [] (.quiet 4 1 (.quiet 5 1 (.quiet 0 0 (.quiet 2 0 (.fork (.alt 1 (.fork (.alt 3 (.fork (.alt 6 (.fork (.alt 7 (.quiet 8 1 (.quiet 9 1 (.quiet 10 1 (.quiet 11 1 (.quiet 12 1 (.fork (.alt 13 (.fork (.alt 14 (.fork (.alt 15 (.fork (.alt 16 (.quiet 17 1 (.quiet 18 1 .done)) .stop)) .stop)) .stop)) (.alt 14 (.fork (.alt 13 (.fork (.alt 15 (.fork (.alt 16 (.quiet 17 1 (.quiet 18 1 .done)) .stop)) .stop)) .stop)) .stop)))))))) (.alt 13 (.fork (.alt 7 (.quiet 8 1 (.quiet 9 1 (.quiet 10 1 (.quiet 11 1 (.quiet 12 1 (.fork (.alt 14 (.fork (.alt 15 (.fork (.alt 16 (.quiet 17 1 (.quiet 18 1 .done)) .stop)) .stop)) .stop))))))) (.alt 14 (.fork (.alt 7 (.quiet 8 1 (.quiet 9 1 (.quiet 10 1 (.quiet 11 1 (.quiet 12 1 (.fork (.alt 15 (.fork (.alt 16 (.quiet 17 1 (.quiet 18 1 .done)) .stop)) .stop))))))) .stop)) .stop))) (.alt 14 (.fork (.alt 7 (.quiet 8 1 (.quiet 9 1 (.quiet 10 1 (.quiet 11 1 (.quiet 12 1 (.fork (.alt 13 (.fork (.alt 15 (.fork (.alt 16 (.quiet 17 1 (.quiet 18 1 .done)) .stop)) .stop)) .stop))))))) (.alt 13 (.fork (.alt 7 (.quiet 8 1 (.quiet 9 1 (.quiet 10 1 (.quiet 11 1 (.quiet 12 1 (.fork (.alt 15 (.fork (.alt 16 (.quiet 17 1 (.quiet 18 1 .done)) .stop)) .stop))))))) .stop)) .stop))) .stop)))) (.alt 13 (.fork (.alt 6 (.fork (.alt 7 (.quiet 8 1 (.quiet 9 1 (.quiet 10 1 (.quiet 11 1 (.quiet 12 1 (.fork (.alt 14 (.fork (.alt 15 (.fork (.alt 16 (.quiet 17 1 (.quiet 18 1 .done)) .stop)) .stop)) .stop))))))) (.alt 14 (.fork (.alt 7 (.quiet 8 1 (.quiet 9 1 (.quiet 10 1 (.quiet 11 1 (.quiet 12 1 (.fork (.alt 15 (.fork (.alt 16 (.quiet 17 1 (.quiet 18 1 .done)) .stop)) .stop))))))) .stop)) .stop))) (.alt 14 (.fork (.alt 6 (.fork (.alt 7 (.quiet 8 1 (.quiet 9 1 (.quiet 10 1 (.quiet 11 1 (.quiet 12 1 (.fork (.alt 15 (.fork (.alt 16 (.quiet 17 1 (.quiet 18 1 .done)) .stop)) .stop))))))) .stop)) .stop)) .stop))) (.alt 14 (.fork (.alt 6 (.fork (.alt 7 (.quiet 8 1 (.quiet 9 1 (.quiet 10 1 (.quiet 11 1 (.quiet 12 1 (.fork (.alt 13 (.fork (.alt 15 (.fork (.alt 16 (.quiet 17 1 (.quiet 18 1 .done)) .stop)) .stop)) .stop))))))) (.alt 13 (.fork (.alt 7 (.quiet 8 1 (.quiet 9 1 (.quiet 10 1 (.quiet 11 1 (.quiet 12 1 (.fork (.alt 15 (.fork (.alt 16 (.quiet 17 1 (.quiet 18 1 .done)) .stop)) .stop))))))) .stop)) .stop))) (.alt 13 (.fork (.alt 6 (.fork (.alt 7 (.quiet 8 1 (.quiet 9 1 (.quiet 10 1 (.quiet 11 1 (.quiet 12 1 (.fork (.alt 15 (.fork (.alt 16 (.quiet 17 1 (.quiet 18 1 .done)) .stop)) .stop))))))) .stop)) .stop)) .stop))) .stop)))) (.alt 13 (.fork (.alt 3 (.fork (.alt 6 (.fork (.alt 7 (.quiet 8 1 (.quiet 9 1 (.quiet 10 1 (.quiet 11 1 (.quiet 12 1 (.fork (.alt 14 (.fork (.alt 15 (.fork (.alt 16 (.quiet 17 1 (.quiet 18 1 .done)) .stop)) .stop)) .stop))))))) (.alt 14 (.fork (.alt 7 (.quiet 8 1 (.quiet 9 1 (.quiet 10 1 (.quiet 11 1 (.quiet 12 1 (.fork (.alt 15 (.fork (.alt 16 (.quiet 17 1 (.quiet 18 1 .done)) .stop)) .stop))))))) .stop)) .stop))) (.alt 14 (.fork (.alt 6 (.fork (.alt 7 (.quiet 8 1 (.quiet 9 1 (.quiet 10 1 (.quiet 11 1 (.quiet 12 1 (.fork (.alt 15 (.fork (.alt 16 (.quiet 17 1 (.quiet 18 1 .done)) .stop)) .stop))))))) .stop)) .stop)) .stop))) (.alt 14 (.fork (.alt 3 (.fork (.alt 6 (.fork (.alt 7 (.quiet 8 1 (.quiet 9 1 (.quiet 10 1 (.quiet 11 1 (.quiet 12 1 (.fork (.alt 15 (.fork (.alt 16 (.quiet 17 1 (.quiet 18 1 .done)) .stop)) .stop))))))) .stop)) .stop)) .stop)) .stop))) (.alt 14 (.fork (.alt 3 (.fork (.alt 6 (.fork (.alt 7 (.quiet 8 1 (.quiet 9 1 (.quiet 10 1 (.quiet 11 1 (.quiet 12 1 (.fork (.alt 13 (.fork (.alt 15 (.fork (.alt 16 (.quiet 17 1 (.quiet 18 1 .done)) .stop)) .stop)) .stop))))))) (.alt 13 (.fork (.alt 7 (.quiet 8 1 (.quiet 9 1 (.quiet 10 1 (.quiet 11 1 (.quiet 12 1 (.fork (.alt 15 (.fork (.alt 16 (.quiet 17 1 (.quiet 18 1 .done)) .stop)) .stop))))))) .stop)) .stop))) (.alt 13 (.fork (.alt 6 (.fork (.alt 7 (.quiet 8 1 (.quiet 9 1 (.quiet 10 1 (.quiet 11 1 (.quiet 12 1 (.fork (.alt 15 (.fork (.alt 16 (.quiet 17 1 (.quiet 18 1 .done)) .stop)) .stop))))))) .stop)) .stop)) .stop))) (.alt 13 (.fork (.alt 3 (.fork (.alt 6 (.fork (.alt 7 (.quiet 8 1 (.quiet 9 1 (.quiet 10 1 (.quiet 11 1 (.quiet 12 1 (.fork (.alt 15 (.fork (.alt 16 (.quiet 17 1 (.quiet 18 1 .done)) .stop)) .stop))))))) .stop)) .stop)) .stop)) .stop))) .stop)))) (.alt 13 (.fork (.alt 1 (.fork (.alt 3 (.fork (.alt 6 (.fork (.alt 7 (.quiet 8 1 (.quiet 9 1 (.quiet 10 1 (.quiet 11 1 (.quiet 12 1 (.fork (.alt 14 (.fork (.alt 15 (.fork (.alt 16 (.quiet 17 1 (.quiet 18 1 .done)) .stop)) .stop)) .stop))))))) (.alt 14 (.fork (.alt 7 (.quiet 8 1 (.quiet 9 1 (.quiet 10 1 (.quiet 11 1 (.quiet 12 1 (.fork (.alt 15 (.fork (.alt 16 (.quiet 17 1 (.quiet 18 1 .done)) .stop)) .stop))))))) .stop)) .stop))) (.alt 14 (.fork (.alt 6 (.fork (.alt 7 (.quiet 8 1 (.quiet 9 1 (.quiet 10 1 (.quiet 11 1 (.quiet 12 1 (.fork (.alt 15 (.fork (.alt 16 (.quiet 17 1 (.quiet 18 1 .done)) .stop)) .stop))))))) .stop)) .stop)) .stop))) (.alt 14 (.fork (.alt 3 (.fork (.alt 6 (.fork (.alt 7 (.quiet 8 1 (.quiet 9 1 (.quiet 10 1 (.quiet 11 1 (.quiet 12 1 (.fork (.alt 15 (.fork (.alt 16 (.quiet 17 1 (.quiet 18 1 .done)) .stop)) .stop))))))) .stop)) .stop)) .stop)) .stop))) (.alt 14 (.fork (.alt 1 (.fork (.alt 3 (.fork (.alt 6 (.fork (.alt 7 (.quiet 8 1 (.quiet 9 1 (.quiet 10 1 (.quiet 11 1 (.quiet 12 1 (.fork (.alt 15 (.fork (.alt 16 (.quiet 17 1 (.quiet 18 1 .done)) .stop)) .stop))))))) .stop)) .stop)) .stop)) .stop)) .stop))) (.alt 14 (.fork (.alt 1 (.fork (.alt 3 (.fork (.alt 6 (.fork (.alt 7 (.quiet 8 1 (.quiet 9 1 (.quiet 10 1 (.quiet 11 1 (.quiet 12 1 (.fork (.alt 13 (.fork (.alt 15 (.fork (.alt 16 (.quiet 17 1 (.quiet 18 1 .done)) .stop)) .stop)) .stop))))))) (.alt 13 (.fork (.alt 7 (.quiet 8 1 (.quiet 9 1 (.quiet 10 1 (.quiet 11 1 (.quiet 12 1 (.fork (.alt 15 (.fork (.alt 16 (.quiet 17 1 (.quiet 18 1 .done)) .stop)) .stop))))))) .stop)) .stop))) (.alt 13 (.fork (.alt 6 (.fork (.alt 7 (.quiet 8 1 (.quiet 9 1 (.quiet 10 1 (.quiet 11 1 (.quiet 12 1 (.fork (.alt 15 (.fork (.alt 16 (.quiet 17 1 (.quiet 18 1 .done)) .stop)) .stop))))))) .stop)) .stop)) .stop))) (.alt 13 (.fork (.alt 3 (.fork (.alt 6 (.fork (.alt 7 (.quiet 8 1 (.quiet 9 1 (.quiet 10 1 (.quiet 11 1 (.quiet 12 1 (.fork (.alt 15 (.fork (.alt 16 (.quiet 17 1 (.quiet 18 1 .done)) .stop)) .stop))))))) .stop)) .stop)) .stop)) .stop))) (.alt 13 (.fork (.alt 1 (.fork (.alt 3 (.fork (.alt 6 (.fork (.alt 7 (.quiet 8 1 (.quiet 9 1 (.quiet 10 1 (.quiet 11 1 (.quiet 12 1 (.fork (.alt 15 (.fork (.alt 16 (.quiet 17 1 (.quiet 18 1 .done)) .stop)) .stop))))))) .stop)) .stop)) .stop)) .stop)) .stop))) .stop)))))))) [2, 3, 4, 5, 8] [] [10, 11] [.set 10 (.one (.ptr ⟨10, [], 0⟩)), .set 11 (.one (.ptr ⟨11, [], 0⟩)), .set 12 (I (((moveAll x y m l).map fun q => q.2.2).getD (-1))), .set 13 (B (moveAll x y m l).isSome)] [(10, ⟨true, [.own (.sl 1 ((maS x y m l).Memory.map dIntS)), .own (.sl 9 ((maS x y m l).Mons.map dMon)), .own (.sl 4 ((maS x y m l).Buffer.map dEntry)), .own (.sl 4 ((maS x y m l).IoBuffer.map dEntry))]⟩), (11, ⟨true, [.own (.sl 1 ((maT x y m l).Memory.map dIntS)), .own (.sl 9 ((maT x y m l).Mons.map dMon)), .own (.sl 4 ((maT x y m l).Buffer.map dEntry)), .own (.sl 4 ((maT x y m l).IoBuffer.map dEntry))]⟩)] ?_
    refine ⟨?_, ?_⟩
    ·repeat' first | exact True.intro | refine And.intro ?_ ?_ | (intro _ _) | refine callG (laws_toHost_f x hx).k ?_ (by (repeat first | exact rfl | refine WholeW.mk (by first | exact WD.w | assumption) ?_ | refine ixn (by assumption) ?_ | refine ixo (by assumption) ?_); first | done | fail) | refine callG (laws_toHost_f y hy).k ?_ (by (repeat first | exact rfl | refine WholeW.mk (by first | exact WD.w | assumption) ?_ | refine ixn (by assumption) ?_ | refine ixo (by assumption) ?_); first | done | fail) | refine callL (laws_toIntS_f l hl).k ?_ (by (repeat first | exact rfl | refine WholeW.mk (by first | exact WD.w | assumption) ?_ | refine ixn (by assumption) ?_ | refine ixo (by assumption) ?_); first | done | fail) | refine callG (spec_MoveAll_f x y m l).k ?_ (by (repeat first | exact rfl | refine WholeW.mk (by first | exact WD.w | assumption) ?_ | refine ixn (by assumption) ?_ | refine ixo (by assumption) ?_); first | done | fail) | exact rfl | (refine eqS ?_; simp [*]; done)
    refine callG (laws_toHost_f x hx).k ?_
    refine callG (laws_toHost_f y hy).k ?_
    refine callL (laws_toIntS_f l hl).k ?_
    refine callG (impl_MoveAll_f x y m l).k ?_
    refine callP (laws_eqHost_f (maS x y m l) (maS x y m l)).k ?_
    refine cnd (fun hg4 => ?_) (fun hg4 => ?_)
    ·(exfalso; first | omega | contradiction | simp_all; done)
    ·refine callP (laws_eqHost_f (maT x y m l) (maT x y m l)).k ?_
     refine cnd (fun hg10 => ?_) (fun hg10 => ?_)
     ·(exfalso; first | omega | contradiction | simp_all; done)
     ·refine cnd (fun hg15 => ?_) (fun hg15 => ?_)
      ·(exfalso; first | omega | contradiction | simp_all; done)
      ·refine cnd (fun hb4 => ?_) (fun hb4 => ?_)
       ·(exfalso; first | omega | contradiction | simp_all; done)
       ·refine regU [] [(0, 0), (1, 0), (2, 1), (3, 1), (4, 0)] ?_
        refine callG (laws_toHost_f x hx).k ?_
        refine callP (laws_eqHost_f x x).k ?_
        refine cnd (fun hb5 => ?_) (fun hb5 => ?_)
        ·(exfalso; first | omega | contradiction | simp_all; done)
        ·refine regU [] [(0, 0), (1, 0), (2, 1), (3, 1), (4, 0)] ?_
         refine callG (laws_toHost_f y hy).k ?_
         refine callP (laws_eqHost_f y y).k ?_
         refine cnd (fun hb6 => ?_) (fun hb6 => ?_)
         ·(exfalso; first | omega | contradiction | simp_all; done)
         ·refine callL (laws_toIntS_f l hl).k ?_
          refine callP (laws_eqIntS_f l l).k ?_
          refine cnd (fun hb7 => ?_) (fun hb7 => ?_)
          ·(exfalso; first | omega | contradiction | simp_all; done)
          ·refine callH [(14, 0), (14, 1), (14, 2), (14, 3)] (laws_markHost_f x 1 (by omega) (by omega) hx) ?_
           refine callH [(15, 0), (15, 1), (15, 2), (15, 3)] (laws_markHost_f y (1 + cntIntSS x.Memory + cntMonS x.Mons + cntEntryS x.Buffer + cntEntryS x.IoBuffer) (by omega) (by omega) hy) ?_
           refine callH [(59, 0)] (laws_markIntS_f l (1 + cntIntSS x.Memory + cntMonS x.Mons + cntEntryS x.Buffer + cntEntryS x.IoBuffer + cntIntSS y.Memory + cntMonS y.Mons + cntEntryS y.Buffer + cntEntryS y.IoBuffer) (by omega) (by omega) hl) ?_
           refine cnd (fun hg2 => ?_) (fun hg2 => ?_)
           ·(exfalso; first | omega | contradiction | simp_all; done)
           ·refine callP (laws_eqHost_f (maS x y m l) (maS x y m l)).k ?_
            refine cnd (fun hg8 => ?_) (fun hg8 => ?_)
            ·(exfalso; first | omega | contradiction | simp_all; done)
            ·refine callP (laws_eqHost_f (maT x y m l) (maT x y m l)).k ?_
             refine cnd (fun hg14 => ?_) (fun hg14 => ?_)
             ·(exfalso; first | omega | contradiction | simp_all; done)
             ·refine cnd (fun hg19 => ?_) (fun hg19 => ?_)
              ·(exfalso; first | omega | contradiction | simp_all; done)
              ·refine cnd (fun hb8 => ?_) (fun hb8 => ?_)
               ·(exfalso; first | omega | contradiction | simp_all; done)
               ·refine callH [(17, 0), (17, 1), (17, 2), (17, 3)] (laws_markHost_f (maS x y m l) 1 (by omega) (by omega) hsm) ?_
                refine callH [(18, 0), (18, 1), (18, 2), (18, 3)] (laws_markHost_f (maT x y m l) (1 + cntIntSS (maS x y m l).Memory + cntMonS (maS x y m l).Mons + cntEntryS (maS x y m l).Buffer + cntEntryS (maS x y m l).IoBuffer) (by omega) (by omega) hst) ?_
                refine callP (laws_heldHost_f (maS x y m l) 1 (by omega) (by omega) hsm).k ?_
                refine cnd (fun hb9 => ?_) (fun hb9 => ?_)
                ·(exfalso; first | omega | contradiction | simp_all; done)
                ·refine callP (laws_heldHost_f (maT x y m l) (1 + cntIntSS (maS x y m l).Memory + cntMonS (maS x y m l).Mons + cntEntryS (maS x y m l).Buffer + cntEntryS (maS x y m l).IoBuffer) (by omega) (by omega) hst).k ?_
                 refine cnd (fun hb10 => ?_) (fun hb10 => ?_)
                 ·(exfalso; first | omega | contradiction | simp_all; done)
                 ·refine cnd (fun hb11 => ?_) (fun hb11 => ?_)
                  ·(exfalso; first | omega | contradiction | simp_all; done)
                  ·refine regTJ [15, 16] [15, 16] [] (.quiet 4 1 (.quiet 5 1 (.quiet 0 0 (.quiet 2 0 (.fork (.alt 1 (.fork (.alt 3 (.fork (.alt 6 (.fork (.alt 7 (.quiet 8 1 (.quiet 9 1 (.quiet 10 1 (.quiet 11 1 (.quiet 12 1 (.fork (.alt 13 (.fork (.alt 14 (.fork (.alt 15 (.fork (.alt 16 (.quiet 17 1 (.quiet 18 1 .done)) .stop)) .stop)) .stop)) (.alt 14 (.fork (.alt 13 (.fork (.alt 15 (.fork (.alt 16 (.quiet 17 1 (.quiet 18 1 .done)) .stop)) .stop)) .stop)) .stop)))))))) (.alt 13 (.fork (.alt 7 (.quiet 8 1 (.quiet 9 1 (.quiet 10 1 (.quiet 11 1 (.quiet 12 1 (.fork (.alt 14 (.fork (.alt 15 (.fork (.alt 16 (.quiet 17 1 (.quiet 18 1 .done)) .stop)) .stop)) .stop))))))) (.alt 14 (.fork (.alt 7 (.quiet 8 1 (.quiet 9 1 (.quiet 10 1 (.quiet 11 1 (.quiet 12 1 (.fork (.alt 15 (.fork (.alt 16 (.quiet 17 1 (.quiet 18 1 .done)) .stop)) .stop))))))) .stop)) .stop))) (.alt 14 (.fork (.alt 7 (.quiet 8 1 (.quiet 9 1 (.quiet 10 1 (.quiet 11 1 (.quiet 12 1 (.fork (.alt 13 (.fork (.alt 15 (.fork (.alt 16 (.quiet 17 1 (.quiet 18 1 .done)) .stop)) .stop)) .stop))))))) (.alt 13 (.fork (.alt 7 (.quiet 8 1 (.quiet 9 1 (.quiet 10 1 (.quiet 11 1 (.quiet 12 1 (.fork (.alt 15 (.fork (.alt 16 (.quiet 17 1 (.quiet 18 1 .done)) .stop)) .stop))))))) .stop)) .stop))) .stop)))) (.alt 13 (.fork (.alt 6 (.fork (.alt 7 (.quiet 8 1 (.quiet 9 1 (.quiet 10 1 (.quiet 11 1 (.quiet 12 1 (.fork (.alt 14 (.fork (.alt 15 (.fork (.alt 16 (.quiet 17 1 (.quiet 18 1 .done)) .stop)) .stop)) .stop))))))) (.alt 14 (.fork (.alt 7 (.quiet 8 1 (.quiet 9 1 (.quiet 10 1 (.quiet 11 1 (.quiet 12 1 (.fork (.alt 15 (.fork (.alt 16 (.quiet 17 1 (.quiet 18 1 .done)) .stop)) .stop))))))) .stop)) .stop))) (.alt 14 (.fork (.alt 6 (.fork (.alt 7 (.quiet 8 1 (.quiet 9 1 (.quiet 10 1 (.quiet 11 1 (.quiet 12 1 (.fork (.alt 15 (.fork (.alt 16 (.quiet 17 1 (.quiet 18 1 .done)) .stop)) .stop))))))) .stop)) .stop)) .stop))) (.alt 14 (.fork (.alt 6 (.fork (.alt 7 (.quiet 8 1 (.quiet 9 1 (.quiet 10 1 (.quiet 11 1 (.quiet 12 1 (.fork (.alt 13 (.fork (.alt 15 (.fork (.alt 16 (.quiet 17 1 (.quiet 18 1 .done)) .stop)) .stop)) .stop))))))) (.alt 13 (.fork (.alt 7 (.quiet 8 1 (.quiet 9 1 (.quiet 10 1 (.quiet 11 1 (.quiet 12 1 (.fork (.alt 15 (.fork (.alt 16 (.quiet 17 1 (.quiet 18 1 .done)) .stop)) .stop))))))) .stop)) .stop))) (.alt 13 (.fork (.alt 6 (.fork (.alt 7 (.quiet 8 1 (.quiet 9 1 (.quiet 10 1 (.quiet 11 1 (.quiet 12 1 (.fork (.alt 15 (.fork (.alt 16 (.quiet 17 1 (.quiet 18 1 .done)) .stop)) .stop))))))) .stop)) .stop)) .stop))) .stop)))) (.alt 13 (.fork (.alt 3 (.fork (.alt 6 (.fork (.alt 7 (.quiet 8 1 (.quiet 9 1 (.quiet 10 1 (.quiet 11 1 (.quiet 12 1 (.fork (.alt 14 (.fork (.alt 15 (.fork (.alt 16 (.quiet 17 1 (.quiet 18 1 .done)) .stop)) .stop)) .stop))))))) (.alt 14 (.fork (.alt 7 (.quiet 8 1 (.quiet 9 1 (.quiet 10 1 (.quiet 11 1 (.quiet 12 1 (.fork (.alt 15 (.fork (.alt 16 (.quiet 17 1 (.quiet 18 1 .done)) .stop)) .stop))))))) .stop)) .stop))) (.alt 14 (.fork (.alt 6 (.fork (.alt 7 (.quiet 8 1 (.quiet 9 1 (.quiet 10 1 (.quiet 11 1 (.quiet 12 1 (.fork (.alt 15 (.fork (.alt 16 (.quiet 17 1 (.quiet 18 1 .done)) .stop)) .stop))))))) .stop)) .stop)) .stop))) (.alt 14 (.fork (.alt 3 (.fork (.alt 6 (.fork (.alt 7 (.quiet 8 1 (.quiet 9 1 (.quiet 10 1 (.quiet 11 1 (.quiet 12 1 (.fork (.alt 15 (.fork (.alt 16 (.quiet 17 1 (.quiet 18 1 .done)) .stop)) .stop))))))) .stop)) .stop)) .stop)) .stop))) (.alt 14 (.fork (.alt 3 (.fork (.alt 6 (.fork (.alt 7 (.quiet 8 1 (.quiet 9 1 (.quiet 10 1 (.quiet 11 1 (.quiet 12 1 (.fork (.alt 13 (.fork (.alt 15 (.fork (.alt 16 (.quiet 17 1 (.quiet 18 1 .done)) .stop)) .stop)) .stop))))))) (.alt 13 (.fork (.alt 7 (.quiet 8 1 (.quiet 9 1 (.quiet 10 1 (.quiet 11 1 (.quiet 12 1 (.fork (.alt 15 (.fork (.alt 16 (.quiet 17 1 (.quiet 18 1 .done)) .stop)) .stop))))))) .stop)) .stop))) (.alt 13 (.fork (.alt 6 (.fork (.alt 7 (.quiet 8 1 (.quiet 9 1 (.quiet 10 1 (.quiet 11 1 (.quiet 12 1 (.fork (.alt 15 (.fork (.alt 16 (.quiet 17 1 (.quiet 18 1 .done)) .stop)) .stop))))))) .stop)) .stop)) .stop))) (.alt 13 (.fork (.alt 3 (.fork (.alt 6 (.fork (.alt 7 (.quiet 8 1 (.quiet 9 1 (.quiet 10 1 (.quiet 11 1 (.quiet 12 1 (.fork (.alt 15 (.fork (.alt 16 (.quiet 17 1 (.quiet 18 1 .done)) .stop)) .stop))))))) .stop)) .stop)) .stop)) .stop))) .stop)))) (.alt 13 (.fork (.alt 1 (.fork (.alt 3 (.fork (.alt 6 (.fork (.alt 7 (.quiet 8 1 (.quiet 9 1 (.quiet 10 1 (.quiet 11 1 (.quiet 12 1 (.fork (.alt 14 (.fork (.alt 15 (.fork (.alt 16 (.quiet 17 1 (.quiet 18 1 .done)) .stop)) .stop)) .stop))))))) (.alt 14 (.fork (.alt 7 (.quiet 8 1 (.quiet 9 1 (.quiet 10 1 (.quiet 11 1 (.quiet 12 1 (.fork (.alt 15 (.fork (.alt 16 (.quiet 17 1 (.quiet 18 1 .done)) .stop)) .stop))))))) .stop)) .stop))) (.alt 14 (.fork (.alt 6 (.fork (.alt 7 (.quiet 8 1 (.quiet 9 1 (.quiet 10 1 (.quiet 11 1 (.quiet 12 1 (.fork (.alt 15 (.fork (.alt 16 (.quiet 17 1 (.quiet 18 1 .done)) .stop)) .stop))))))) .stop)) .stop)) .stop))) (.alt 14 (.fork (.alt 3 (.fork (.alt 6 (.fork (.alt 7 (.quiet 8 1 (.quiet 9 1 (.quiet 10 1 (.quiet 11 1 (.quiet 12 1 (.fork (.alt 15 (.fork (.alt 16 (.quiet 17 1 (.quiet 18 1 .done)) .stop)) .stop))))))) .stop)) .stop)) .stop)) .stop))) (.alt 14 (.fork (.alt 1 (.fork (.alt 3 (.fork (.alt 6 (.fork (.alt 7 (.quiet 8 1 (.quiet 9 1 (.quiet 10 1 (.quiet 11 1 (.quiet 12 1 (.fork (.alt 15 (.fork (.alt 16 (.quiet 17 1 (.quiet 18 1 .done)) .stop)) .stop))))))) .stop)) .stop)) .stop)) .stop)) .stop))) (.alt 14 (.fork (.alt 1 (.fork (.alt 3 (.fork (.alt 6 (.fork (.alt 7 (.quiet 8 1 (.quiet 9 1 (.quiet 10 1 (.quiet 11 1 (.quiet 12 1 (.fork (.alt 13 (.fork (.alt 15 (.fork (.alt 16 (.quiet 17 1 (.quiet 18 1 .done)) .stop)) .stop)) .stop))))))) (.alt 13 (.fork (.alt 7 (.quiet 8 1 (.quiet 9 1 (.quiet 10 1 (.quiet 11 1 (.quiet 12 1 (.fork (.alt 15 (.fork (.alt 16 (.quiet 17 1 (.quiet 18 1 .done)) .stop)) .stop))))))) .stop)) .stop))) (.alt 13 (.fork (.alt 6 (.fork (.alt 7 (.quiet 8 1 (.quiet 9 1 (.quiet 10 1 (.quiet 11 1 (.quiet 12 1 (.fork (.alt 15 (.fork (.alt 16 (.quiet 17 1 (.quiet 18 1 .done)) .stop)) .stop))))))) .stop)) .stop)) .stop))) (.alt 13 (.fork (.alt 3 (.fork (.alt 6 (.fork (.alt 7 (.quiet 8 1 (.quiet 9 1 (.quiet 10 1 (.quiet 11 1 (.quiet 12 1 (.fork (.alt 15 (.fork (.alt 16 (.quiet 17 1 (.quiet 18 1 .done)) .stop)) .stop))))))) .stop)) .stop)) .stop)) .stop))) (.alt 13 (.fork (.alt 1 (.fork (.alt 3 (.fork (.alt 6 (.fork (.alt 7 (.quiet 8 1 (.quiet 9 1 (.quiet 10 1 (.quiet 11 1 (.quiet 12 1 (.fork (.alt 15 (.fork (.alt 16 (.quiet 17 1 (.quiet 18 1 .done)) .stop)) .stop))))))) .stop)) .stop)) .stop)) .stop)) .stop))) .stop)))))))) [8, 10, 11, 12, 13, 17, 18, 22] [] [24, 25] [.set 24 (.one (.ptr ⟨24, [], 0⟩)), .set 25 (.one (.ptr ⟨25, [], 0⟩)), .set 26 (I (((moveAll x y m l).map fun q => q.2.2).getD (-1))), .set 27 (B (moveAll x y m l).isSome)] [(24, ⟨true, [.own (.sl 1 ((maS x y m l).Memory.map dIntS)), .own (.sl 9 ((maS x y m l).Mons.map dMon)), .own (.sl 4 ((maS x y m l).Buffer.map dEntry)), .own (.sl 4 ((maS x y m l).IoBuffer.map dEntry))]⟩), (25, ⟨true, [.own (.sl 1 ((maT x y m l).Memory.map dIntS)), .own (.sl 9 ((maT x y m l).Mons.map dMon)), .own (.sl 4 ((maT x y m l).Buffer.map dEntry)), .own (.sl 4 ((maT x y m l).IoBuffer.map dEntry))]⟩)] ?_
                   refine ⟨?_, ?_⟩
                   ·repeat' first | exact True.intro | refine And.intro ?_ ?_ | (intro _ _) | refine callG (laws_toHost_f x hx).k ?_ (by (repeat first | exact rfl | refine WholeW.mk (by first | exact WD.w | assumption) ?_ | refine ixn (by assumption) ?_ | refine ixo (by assumption) ?_); first | done | fail) | refine callG (laws_toHost_f y hy).k ?_ (by (repeat first | exact rfl | refine WholeW.mk (by first | exact WD.w | assumption) ?_ | refine ixn (by assumption) ?_ | refine ixo (by assumption) ?_); first | done | fail) | refine callL (laws_toIntS_f l hl).k ?_ (by (repeat first | exact rfl | refine WholeW.mk (by first | exact WD.w | assumption) ?_ | refine ixn (by assumption) ?_ | refine ixo (by assumption) ?_); first | done | fail) | refine callG (impl_MoveAll_f x y m l).k ?_ (by (repeat first | exact rfl | refine WholeW.mk (by first | exact WD.w | assumption) ?_ | refine ixn (by assumption) ?_ | refine ixo (by assumption) ?_); first | done | fail) | exact rfl | (refine eqS ?_; simp [*]; done)
                   refine callP (laws_eqHost_f (maS x y m l) (maS x y m l)).k ?_
                   refine cnd (fun hg4 => ?_) (fun hg4 => ?_)
                   ·(exfalso; first | omega | contradiction | simp_all; done)
                   ·refine callP (laws_eqHost_f (maT x y m l) (maT x y m l)).k ?_
                    refine cnd (fun hg10 => ?_) (fun hg10 => ?_)
                    ·(exfalso; first | omega | contradiction | simp_all; done)
                    ·refine cnd (fun hg15 => ?_) (fun hg15 => ?_)
                     ·(exfalso; first | omega | contradiction | simp_all; done)
                     ·refine cnd (fun hb12 => ?_) (fun hb12 => ?_)
                      ·(exfalso; first | omega | contradiction | simp_all; done)
                      ·refine callP (laws_heldHost_f (maS x y m l) 1 (by omega) (by omega) hsm).k ?_
                       refine cnd (fun hb13 => ?_) (fun hb13 => ?_)
                       ·(exfalso; first | omega | contradiction | simp_all; done)
                       ·refine callP (laws_heldHost_f (maT x y m l) (1 + cntIntSS (maS x y m l).Memory + cntMonS (maS x y m l).Mons + cntEntryS (maS x y m l).Buffer + cntEntryS (maS x y m l).IoBuffer) (by omega) (by omega) hst).k ?_
                        refine cnd (fun hb14 => ?_) (fun hb14 => ?_)
                        ·(exfalso; first | omega | contradiction | simp_all; done)
                        ·refine cnd (fun hb15 => ?_) (fun hb15 => ?_)
                         ·(exfalso; first | omega | contradiction | simp_all; done)
                         ·exact rfl
end Go.Proofs.YteelmdpahpggkaaGreat.T

namespace Go.Proofs.YteelmdpahpggkaaGreat.Base
open Go.ChangeShapes Go.WideShapes Go.ChangeAt Go.RowKit
section
variable {H : Type} {enc : TypeId × Value → H} {P : Program}
theorem post_of_below {f : Func} {s : ChangeSpec} {apart fresh handsOn again : Bool} {W W' : World} {args : Array Value} {v : Value} {ds gs : List (DataW H)} {before pa pv : List MemPlace}
  (hW : DataW.Whole enc P f.params.toList s.vars apart W args.toList ds gs before)
  (hres : ∀ (b : Nat) (sp : Nat → Bool) (hd : Bool), DataW.TrodAll enc P W' b sp hd f.resultTypes.toList (v.resultList f.resultTypes.size) (s.fn H (ds ++ gs)).results [])
  (hargs : ∀ sp : Nat → Bool, (∀ p ∈ before, sp p.block = true) → DataW.TrodAll enc P W' 0 sp true f.params.toList args.toList (s.fn H (ds ++ gs)).args pa)
  (hvars : ∀ sp : Nat → Bool, (∀ p ∈ before, sp p.block = true) → DataW.TrodVars enc P W' sp s.vars (s.fn H (ds ++ gs)).vars pv)
  (hps : before = pa ++ pv) (hb : Below W.heap.size W W')
  (hok : ∀ (j : Nat) (t : TypeId) (r : Value), f.resultTypes[j]? = some t → (v.resultList f.resultTypes.size)[j]? = some r → Value.okWide P W' .any 0 t r) :
  s.post enc P f apart fresh handsOn again W args v W' := by
 have hlt : ∀ p ∈ before, p.block < W.heap.size := fun p hp => hW.lt p hp
 have hold : ∀ p ∈ before, (fun b => decide (b < W.heap.size)) p.block = true := fun p hp => by simpa using hlt p hp
 refine ⟨ds, gs, before, [], pa, pv, hW, hres _ _ _, hargs _ hold, hvars _ hold, World.keptBut_mono (fun p hp => ⟨hp, ?_⟩) (hb.frame (· ∈ before)), fun _ => ?_⟩
 ·rw [hps, List.mem_append] at hp
  exact Or.inr hp
 ·obtain ⟨_, _, _, _, _, hz, hn⟩ := hW
  refine ⟨hok, _, _, ([] ++ pa) ++ pv, ⟨[] ++ pa, pv, trodAll_append (hargs _ (fun _ _ => rfl)) (hres _ _ _), hvars _ (fun _ _ => rfl), rfl, ?_, ?_⟩, ?_⟩
  ·intro b off hp
   have hin : MemPlace.cell b off ∈ before := by rw [hps]; simpa using hp
   rw [hb.frozen (hlt _ hin)]
   exact hz b off hin
  ·intro ha
   have := hn ha
   rw [hps] at this
   simpa using this
  ·intro p hp _
   rw [hps]
   simpa using hp
end
theorem own : ownKnob Tryz.prog.godebug = none := by kernel_rfl
end Go.Proofs.YteelmdpahpggkaaGreat.Base

