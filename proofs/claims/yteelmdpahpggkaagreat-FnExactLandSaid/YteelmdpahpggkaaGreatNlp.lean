/- Land, both sides. PRINTED by gen3.py. No condition. -/
import Derived.Test.YteelmdpahpggkaaGreatNkp
namespace Go.Proofs.YteelmdpahpggkaaGreat.T
open Go
set_option linter.unusedVariables false
set_option linter.unusedSimpArgs false
set_option maxRecDepth 100000
set_option maxHeartbeats 8000000

instance wlMon (xs : List VMon) : WL (xs.map dMon) := ⟨fun d hd => by obtain ⟨x, _, rfl⟩ := List.mem_map.1 hd; exact inferInstanceAs (WR (dMon x))⟩
theorem rngS {a : Int} {k : Prop} (c : k) (lo : -9223372036854775808 ≤ a := by first | omega | (simp only [List.length_append, List.length_map, List.length_cons, List.length_nil]; omega)) (hi : a ≤ 9223372036854775807 := by first | omega | (simp only [List.length_append, List.length_map, List.length_cons, List.length_nil]; omega)) : RngW a k := ⟨lo, hi, c⟩
abbrev landN (h : VHost) (x : VMon) : Int := if (land h x).isSome then h.Mons.length else -1
theorem spec_Land_f (h : VHost) (x : VMon) [Q (SmHost h)] [Q (SmMon x)] : Fun Tryz.prog 24 [A (rHost h), A (rMon x)] (RG [.a (rHost ((land h x).getD h)), .c (.v (.int .i64 (landN h x))), .c (.v (.bool (land h x).isSome))]) := by
  refine Fun.w 42 Tryz.func24 fun w g0 hM => ?_
  have hl0 := hM.1.2.1.map
  have hl1 := hM.2.1.1.map
  refine callG (spec_l21Copy_f h).k ?_
  refine callP (spec_HostOk_f h).k ?_
  refine cnd (fun hg3 => ?_) (fun hg3 => ?_)
  · exact (by rw [landN, show land h x = none from (by apply land_no; first | (left; assumption) | (right; left; omega) | (right; right; left; assumption) | (right; right; right; omega))]; rfl)
  · refine len ?_
    refine cnd (fun hg9 => ?_) (fun hg9 => ?_)
    · exact (by rw [landN, show land h x = none from (by apply land_no; first | (left; assumption) | (right; left; omega) | (right; right; left; assumption) | (right; right; right; omega))]; rfl)
    · refine callP (spec_MonOk_f x).k ?_
      refine cnd (fun hg14 => ?_) (fun hg14 => ?_)
      · exact (by rw [landN, show land h x = none from (by apply land_no; first | (left; assumption) | (right; left; omega) | (right; right; left; assumption) | (right; right; right; omega))]; rfl)
      · refine callP (spec_Mapped_f x.Outer).k ?_
        refine cnd (fun hb => ?_) (fun hb => ?_)
        · exact (by rw [landN, show land h x = none from (by apply land_no; first | (left; assumption) | (right; left; omega) | (right; right; left; assumption) | (right; right; right; omega))]; rfl)
        · refine regU [5, 7] [(0, 0), (1, 0), (2, 0), (3, 1), (4, 1), (5, 1), (6, 0), (7, 1)] ?_
          refine callG (spec_l21Mon_f x).k ?_
          first | refine appOq ?_ | refine appO ?_
          refine regT [0, 1, 2, 3, 4, 5] [] [] (.fork (.alt 0 (.fork (.alt 1 (.fork (.alt 2 (.fork (.alt 3 (.fork (.alt 4 (.fork (.alt 5 (.quiet 6 0 (.quiet 7 0 .done)) .stop)) (.alt 5 (.fork (.alt 4 (.quiet 6 0 (.quiet 7 0 .done)) .stop)) .stop))) (.alt 5 (.fork (.alt 3 (.fork (.alt 4 (.quiet 6 0 (.quiet 7 0 .done)) .stop)) .stop)) .stop))) (.alt 5 (.fork (.alt 2 (.fork (.alt 3 (.fork (.alt 4 (.quiet 6 0 (.quiet 7 0 .done)) .stop)) .stop)) .stop)) .stop))) (.alt 5 (.fork (.alt 1 (.fork (.alt 2 (.fork (.alt 3 (.fork (.alt 4 (.quiet 6 0 (.quiet 7 0 .done)) .stop)) .stop)) .stop)) .stop)) .stop))) (.alt 1 (.fork (.alt 0 (.fork (.alt 2 (.fork (.alt 3 (.fork (.alt 4 (.fork (.alt 5 (.quiet 6 0 (.quiet 7 0 .done)) .stop)) (.alt 5 (.fork (.alt 4 (.quiet 6 0 (.quiet 7 0 .done)) .stop)) .stop))) (.alt 5 (.fork (.alt 3 (.fork (.alt 4 (.quiet 6 0 (.quiet 7 0 .done)) .stop)) .stop)) .stop))) (.alt 5 (.fork (.alt 2 (.fork (.alt 3 (.fork (.alt 4 (.quiet 6 0 (.quiet 7 0 .done)) .stop)) .stop)) .stop)) .stop))) (.alt 2 (.fork (.alt 0 (.fork (.alt 3 (.fork (.alt 4 (.fork (.alt 5 (.quiet 6 0 (.quiet 7 0 .done)) .stop)) (.alt 5 (.fork (.alt 4 (.quiet 6 0 (.quiet 7 0 .done)) .stop)) .stop))) (.alt 5 (.fork (.alt 3 (.fork (.alt 4 (.quiet 6 0 (.quiet 7 0 .done)) .stop)) .stop)) .stop))) (.alt 3 (.fork (.alt 0 (.fork (.alt 4 (.fork (.alt 5 (.quiet 6 0 (.quiet 7 0 .done)) .stop)) (.alt 5 (.fork (.alt 4 (.quiet 6 0 (.quiet 7 0 .done)) .stop)) .stop))) (.alt 4 (.fork (.alt 0 (.fork (.alt 5 (.quiet 6 0 (.quiet 7 0 .done)) .stop)) .stop)) .stop))) .stop))) .stop))) .stop))) ?_
          repeat' first | exact True.intro | refine And.intro ?_ ?_ | (intro _ _) | refine len ?_ | refine rngS ?_
          all_goals exact (by rw [landN, land_yes (by assumption) (by omega) (by assumption) (by omega)]; show RG [.a (rHost { h with Mons := h.Mons ++ [x] }), .c (.v (.int .i64 h.Mons.length)), .c (.v (.bool true))] _; rw [land_row]; first | rfl | (have e1 : ((h.Mons.length : Int) + 1 - 1) = h.Mons.length := (by omega); rw [← e1]; rfl))

theorem impl_Land_f (h : VHost) (x : VMon) [Q (SmHost h)] [Q (SmMon x)] : Fun Tryz.prog 27 [A (rHost h), A (rMon x)] (RG [.a (rHost ((land h x).getD h)), .c (.v (.int .i64 (landN h x))), .c (.v (.bool (land h x).isSome))]) := by
  refine Fun.w 42 Tryz.func27 fun w g0 hM => ?_
  have hl0 := hM.1.2.1.map
  have hl1 := hM.2.1.1.map
  refine callG (impl_copyHost_f h).k ?_
  refine callP (impl_HostOk_f h).k ?_
  refine cnd (fun hg3 => ?_) (fun hg3 => ?_)
  · exact (by rw [landN, show land h x = none from (by apply land_no; first | (left; assumption) | (right; left; omega) | (right; right; left; assumption) | (right; right; right; omega))]; rfl)
  · refine len ?_
    refine cnd (fun hg9 => ?_) (fun hg9 => ?_)
    · exact (by rw [landN, show land h x = none from (by apply land_no; first | (left; assumption) | (right; left; omega) | (right; right; left; assumption) | (right; right; right; omega))]; rfl)
    · refine callP (impl_MonOk_f x).k ?_
      refine cnd (fun hg14 => ?_) (fun hg14 => ?_)
      · exact (by rw [landN, show land h x = none from (by apply land_no; first | (left; assumption) | (right; left; omega) | (right; right; left; assumption) | (right; right; right; omega))]; rfl)
      · refine callP (impl_Mapped_f x.Outer).k ?_
        refine cnd (fun hb => ?_) (fun hb => ?_)
        · exact (by rw [landN, show land h x = none from (by apply land_no; first | (left; assumption) | (right; left; omega) | (right; right; left; assumption) | (right; right; right; omega))]; rfl)
        · refine regU [5, 7] [(0, 0), (1, 0), (2, 0), (3, 1), (4, 1), (5, 1), (6, 0), (7, 1)] ?_
          refine callG (impl_copyMon_f x).k ?_
          first | refine appOq ?_ | refine appO ?_
          refine regT [0, 1, 2, 3, 4] [] [] (.fork (.alt 0 (.fork (.alt 1 (.fork (.alt 2 (.fork (.alt 3 (.fork (.alt 4 (.quiet 5 0 (.quiet 6 0 .done)) .stop)) (.alt 4 (.fork (.alt 3 (.quiet 5 0 (.quiet 6 0 .done)) .stop)) .stop))) (.alt 4 (.fork (.alt 2 (.fork (.alt 3 (.quiet 5 0 (.quiet 6 0 .done)) .stop)) .stop)) .stop))) (.alt 4 (.fork (.alt 1 (.fork (.alt 2 (.fork (.alt 3 (.quiet 5 0 (.quiet 6 0 .done)) .stop)) .stop)) .stop)) .stop))) (.alt 1 (.fork (.alt 0 (.fork (.alt 2 (.fork (.alt 3 (.fork (.alt 4 (.quiet 5 0 (.quiet 6 0 .done)) .stop)) (.alt 4 (.fork (.alt 3 (.quiet 5 0 (.quiet 6 0 .done)) .stop)) .stop))) (.alt 4 (.fork (.alt 2 (.fork (.alt 3 (.quiet 5 0 (.quiet 6 0 .done)) .stop)) .stop)) .stop))) (.alt 2 (.fork (.alt 0 (.fork (.alt 3 (.fork (.alt 4 (.quiet 5 0 (.quiet 6 0 .done)) .stop)) (.alt 4 (.fork (.alt 3 (.quiet 5 0 (.quiet 6 0 .done)) .stop)) .stop))) (.alt 3 (.fork (.alt 0 (.fork (.alt 4 (.quiet 5 0 (.quiet 6 0 .done)) .stop)) .stop)) .stop))) .stop))) .stop))) ?_
          repeat' first | exact True.intro | refine And.intro ?_ ?_ | (intro _ _) | refine len ?_
          all_goals exact (by rw [landN, land_yes (by assumption) (by omega) (by assumption) (by omega)]; show RG [.a (rHost { h with Mons := h.Mons ++ [x] }), .c (.v (.int .i64 h.Mons.length)), .c (.v (.bool true))] _; rw [land_row]; first | rfl | (have e1 : ((h.Mons.length : Int) + 1 - 1) = h.Mons.length := (by omega); rw [← e1]; rfl))
end Go.Proofs.YteelmdpahpggkaaGreat.T

