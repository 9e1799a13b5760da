/- FnTooMany's own walk. PRINTED by gen.py out of spec_script4.py. -/
import Derived.Test.YtfiakjbnfaaamaaDoorT3
import Derived.Test.YtfiakjbnfaaamaaDoorYc
import Derived.Test.YtfiakjbnfaaamaaDoorYd
import Derived.Test.YtfiakjbnfaaamaaDoorXg
namespace Go.Proofs.YtfiakjbnfaaamaaDoor.T
open Go
set_option linter.unusedVariables false
set_option linter.unusedSimpArgs false
set_option maxRecDepth 100000
set_option maxHeartbeats 1000000

theorem Val.cast {P : Program} {w0 : World} {g0 : Gh} {st : St} {o : Oper} {t t' : TS} (h : Val P w0 g0 o st t) (e : t = t') : Val P w0 g0 o st t' := e ▸ h
theorem nlMon : (⟨#[109, 111, 110, 105, 116, 111, 114, 10]⟩ : ByteArray) = wMon ++ ⟨#[10]⟩ := by decide +kernel
theorem nlGst : (⟨#[103, 117, 101, 115, 116, 10]⟩ : ByteArray) = wGst ++ ⟨#[10]⟩ := by decide +kernel
theorem nlAdd : (⟨#[97, 100, 100, 32, 49, 10]⟩ : ByteArray) = wAdd ++ ⟨#[10]⟩ := by decide +kernel
theorem szMon : (⟨#[109, 111, 110, 105, 116, 111, 114, 10]⟩ : ByteArray).size = 8 := rfl
theorem szGst : (⟨#[103, 117, 101, 115, 116, 10]⟩ : ByteArray).size = 6 := rfl
theorem szAdd : (⟨#[97, 100, 100, 32, 49, 10]⟩ : ByteArray).size = 6 := rfl
-- loop.example/g00975/laws.FnTooMany: params ['[]uint8'] results ['bool'] ('arr', [('app', 'Go.ResultVar.tmp', ['2'])])
theorem laws_FnTooMany_f (ds : List D) (hby : isBytes ds) : FunW (TabS) Tryd.prog 4 [L 1 ds] (RV (.bool true)) := by
  refine FunW.of (TabS.keep) Tryd.func4 rfl (by simp [Tryd.ntmps4]) fun w g0 hW => ?_
  simp only [Tryd.ntmps4, List.length_cons, List.length_nil, Nat.reduceAdd, Nat.reduceSub, List.replicate, List.cons_append, List.nil_append]
  have hWE : ∀ w', Kept w g0 w' → TabE w' := fun w' h => (hW w' h).1
  have hWT : ∀ w', Kept w g0 w' → Tab w' := fun w' h => (hW w' h).1.1
  refine TC.seq ?_
  -- region 0
  refine TC.region ?_
  refine TL.vE (Val.assign 1 rfl rfl) ?_
  refine TL.nil ?_
  show TC _ _ _ _ _ _
  refine TC.seq ?_
  refine TC.seq ?_
  -- region 1
  refine TC.region ?_
  refine TL.vE (Val.move 1 rfl rfl) ?_
  refine TL.callF (yes_none rfl) rfl rfl rfl rfl rfl rfl ((laws_big_f ds).k) (by repeat first | exact .nil | refine Snaps.cons (.ro _) ?_ | refine Snaps.cons (.aggRo rfl) ?_ | refine Snaps.cons (.cptr _) ?_ | refine Snaps.cons (.fn _) ?_ | refine Snaps.cons (.ownRef rfl (by first | assumption | exact w_InsS _ | exact w_InsSS _ | exact w_InsSSS _ | exact w_ActS _ | exact whole_map _ _ (fun w c hc => by simp only [D.row, List.mem_cons, List.not_mem_nil, or_false] at hc; subst hc; exact .v _))) ?_ | refine Snaps.cons (.aggR (by repeat first | exact .nil | refine SnapCs.cons (.ro _) ?_ | refine SnapCs.cons (.ref rfl (by first | assumption | exact w_InsS _ | exact w_InsSS _ | exact w_InsSSS _ | exact w_ActS _ | exact whole_map _ _ (fun w c hc => by simp only [D.row, List.mem_cons, List.not_mem_nil, or_false] at hc; subst hc; exact .v _))) ?_)) ?_) rfl (by simp only [nput]; rfl) ?_
  refine TL.nil ?_
  show TC _ _ _ _ _ _
  refine TC.cond rfl (fun hb => ?_) (fun hb => ?_)
  · have hk14 := hb
    refine TC.seq ?_
    -- region 2
    refine TC.region ?_
    refine TL.vE (Val.assign 1 rfl rfl) ?_
    refine TL.nil ?_
    show TC _ _ _ _ _ _
    refine TC.ret ?_
    exact ⟨.inr rfl, [_], [_], _, rfl, by decide, rfl, by simp [refV, refC, valC, C.kill, hitR], rfl, rfl⟩
  have hk14 := hb
  refine TC.skip ?_
  show TC _ _ _ _ _ _
  refine TC.seq ?_
  have hn : ds.length ≤ 1048576 := by simp at hb; omega
  -- region 3
  refine TC.region ?_
  refine TL.vE (Val.move 1 rfl rfl) ?_
  refine TL.opK rfl fun K hK => ?_
  refine OpT.call rfl rfl rfl rfl rfl rfl (by repeat first | exact .nil | refine Snaps.cons (.ro _) ?_) ((spec_DrawPlaces_f ds hby hn).k) (fun r hr => hr.ok) (fun r hr => ?_)
  obtain ⟨p, hp1, hp2, rfl⟩ := hr
  obtain ⟨pa, pb, pc, pr, rfl⟩ : ∃ pa pb pc pr, p = pa :: pb :: pc :: pr := by rcases p with _ | ⟨pa, _ | ⟨pb, _ | ⟨pc, pr⟩⟩⟩ <;> simp at hp1 <;> exact ⟨_, _, _, _, rfl⟩
  simp only [St.called]
  simp only [nrm, Nat.reduceBEq, Nat.reduceBNe, reduceIte]
  refine hK _ ?_
  clear hK K
  refine TL.vE (Val.assign 1 rfl rfl) ?_
  refine TL.nil ?_
  show TC _ _ _ _ _ _
  refine TC.seq ?_
  have hpa0 := hp2 pa (by simp)
  have hpa1 : pa.tmod 4 = pa % 4 := Int.tmod_eq_emod_of_nonneg hpa0.1
  obtain ⟨m, hm⟩ : ∃ m : Nat, 1 + pa.tmod 4 = (m : Int) ∧ 1 ≤ m ∧ m ≤ 4 := ⟨(1 + pa.tmod 4).toNat, by omega, by omega, by omega⟩
  -- region 4
  refine TC.region ?_
  refine TL.vE (Val.move 1 rfl rfl) ?_
  refine TL.vE (by exact Val.index rfl rfl rfl rfl rfl rfl (by omega) (by simp)) ?_
  refine TL.valE rfl (by first | exact Val.load rfl rfl rfl rfl rfl | exact Val.loadC rfl rfl rfl) (by simp only [nput, valC]; rfl) ?_
  refine TL.vE (by exact Val.rem rfl rfl rfl (by decide)) ?_
  refine TL.vE (by exact Val.toI (Val.add rfl rfl rfl (by omega) (by omega)) hm.1) ?_
  refine TL.vE (Val.assign 1 rfl rfl) ?_
  refine TL.nil ?_
  show TC _ _ _ _ _ _
  refine TC.seq ?_
  have hpb0 := hp2 pb (by simp)
  have hpb1 : pb.tmod 3 = pb % 3 := Int.tmod_eq_emod_of_nonneg hpb0.1
  obtain ⟨g, hg⟩ : ∃ g : Nat, 1 + pb.tmod 3 = (g : Int) ∧ 1 ≤ g ∧ g ≤ 3 := ⟨(1 + pb.tmod 3).toNat, by omega, by omega, by omega⟩
  -- region 5
  refine TC.region ?_
  refine TL.vE (Val.move 1 rfl rfl) ?_
  refine TL.vE (by exact Val.index rfl rfl rfl rfl rfl rfl (by omega) (by simp)) ?_
  refine TL.valE rfl (by first | exact Val.load rfl rfl rfl rfl rfl | exact Val.loadC rfl rfl rfl) (by simp only [nput, valC]; rfl) ?_
  refine TL.vE (by exact Val.rem rfl rfl rfl (by decide)) ?_
  refine TL.vE (by exact Val.toI (Val.add rfl rfl rfl (by omega) (by omega)) hg.1) ?_
  refine TL.vE (Val.assign 1 rfl rfl) ?_
  refine TL.nil ?_
  show TC _ _ _ _ _ _
  refine TC.seq ?_
  have hpc0 := hp2 pc (by simp)
  have hpc1 : pc.tmod 13 = pc % 13 := Int.tmod_eq_emod_of_nonneg hpc0.1
  obtain ⟨n, hnn⟩ : ∃ n : Nat, 1 + pc.tmod 13 = (n : Int) ∧ 1 ≤ n ∧ n ≤ 13 := ⟨(1 + pc.tmod 13).toNat, by omega, by omega, by omega⟩
  -- region 6
  refine TC.region ?_
  refine TL.vE (Val.move 1 rfl rfl) ?_
  refine TL.vE (by exact Val.index rfl rfl rfl rfl rfl rfl (by omega) (by simp)) ?_
  refine TL.valE rfl (by first | exact Val.load rfl rfl rfl rfl rfl | exact Val.loadC rfl rfl rfl) (by simp only [nput, valC]; rfl) ?_
  refine TL.vE (by exact Val.rem rfl rfl rfl (by decide)) ?_
  refine TL.vE (by exact Val.toI (Val.add rfl rfl rfl (by omega) (by omega)) hnn.1) ?_
  refine TL.vE (Val.assign 1 rfl rfl) ?_
  refine TL.nil ?_
  show TC _ _ _ _ _ _
  refine TC.seq ?_
  -- region 7
  refine TC.region ?_
  refine TL.vE (Val.assign 1 rfl rfl) ?_
  refine TL.nil ?_
  show TC _ _ _ _ _ _
  refine TC.seq ?_
  refine TC.seq ?_
  -- region 8
  refine TC.region ?_
  refine TL.vE (Val.assign 1 rfl rfl) ?_
  refine TL.nil ?_
  show TC _ _ _ _ _ _
  refine TC.block ?_
  refine TC.loop (fun μ st => ∃ (i : Nat) (t : ByteArray), (i ≤ m ∧ t = textOf (allL i g n) ∧ t.size ≤ 300 * i) ∧ μ = m - i ∧ Can st ⟨[.one .dead, .one .dead, .one .dead, .one .dead, I m, I g, I n, S t, I i, .one .dead, .one .dead, .one .dead, .one .dead, .one .dead, .one .dead, .one .dead, .one .dead, .one .dead, .one .dead, .one .dead, .one .dead, .one .dead, .one .dead, .one .dead, .one .dead, .one .dead, .one .dead, .one .dead, .one .dead, .one .dead, .one .dead, .one .dead, .one .dead, .one .dead, .one .dead, .one .dead, .one .dead, .one .dead, .one .dead, .one .dead, .one .dead, .one .dead, .one .dead, .one .dead, .one .dead, .one .dead, .one .dead, .one .dead, .one .dead, .one .dead, .one .dead, .one .dead, .one .dead, .one .dead, .one .dead, .one .dead, .one .dead, .one .dead, .one .dead, .one .dead, .one .dead, .one .dead, .one .dead, .one .dead, .one .dead, .one .dead, .one .dead, .one .dead, .one .dead, .one .dead, .one .dead, .one .dead, .one .dead, .one .dead, .one .dead, .one .dead, .one .dead, .one .dead, .one .dead, .one .dead, .one .dead, .one .dead], []⟩) (m) ?_ fun μ st hI => ?_
  · refine ⟨0, ⟨#[]⟩, ⟨by omega, rfl, Nat.le_refl _⟩, by simp, ?_⟩
    exact Can.to (by repeat first | exact LessT.nil | refine LessT.drop ?_ | refine LessT.keep ?_ | refine LessT.eq (by first | rfl | (simp; done) | (simp; omega) | simp_all) ?_) (by repeat first | exact .nil | refine .cons rfl rfl ?_)
  · obtain ⟨i, t, hyp, rfl, hcan⟩ := hI
    refine TC.can hcan ?_
    clear hcan
    refine TC.seq ?_
    refine TC.seq ?_
    -- region 9
    refine TC.region ?_
    refine TL.vE (Val.move 1 rfl rfl) ?_
    refine TL.vE (Val.move 1 rfl rfl) ?_
    refine TL.vE (Val.lss rfl rfl rfl) ?_
    refine TL.nil ?_
    show TC _ _ _ _ _ _
    refine TC.cond rfl (fun hb => ?_) (fun hb => ?_)
    · have hk34 := hb
      refine TC.skip ?_
      show TC _ _ _ _ _ _
      refine TC.seq ?_
      refine TC.block ?_
      refine TC.seq ?_
      have him : i < m := by simp at hb; omega
      -- region 11
      refine TC.region ?_
      refine TL.vE (Val.move 1 rfl rfl) ?_
      refine TL.vE (by exact Val.addS rfl rfl rfl (by rw [szMon]; omega)) ?_
      refine TL.vE (Val.assign 1 rfl rfl) ?_
      refine TL.nil ?_
      show TC _ _ _ _ _ _
      refine TC.seq ?_
      -- region 12
      refine TC.region ?_
      refine TL.vE (Val.assign 1 rfl rfl) ?_
      refine TL.nil ?_
      show TC _ _ _ _ _ _
      refine TC.block ?_
      refine TC.loop (fun μ st => ∃ (k : Nat) (u : ByteArray), (k ≤ g ∧ u = textOf (allL i g n ++ wMon :: (List.replicate k (gstL n)).flatten) ∧ u.size ≤ 300 * i + 8 + 90 * k) ∧ μ = g - k ∧ Can st ⟨[.one .dead, .one .dead, .one .dead, .one .dead, I m, I g, I n, S u, I i, I k, .one .dead, .one .dead, .one .dead, .one .dead, .one .dead, .one .dead, .one .dead, .one .dead, .one .dead, .one .dead, .one .dead, .one .dead, .one .dead, .one .dead, .one .dead, .one .dead, .one .dead, .one .dead, .one .dead, .one .dead, .one .dead, .one .dead, .one .dead, .one .dead, .one .dead, .one .dead, .one .dead, .one .dead, .one .dead, .one .dead, .one .dead, .one .dead, .one .dead, .one .dead, .one .dead, .one .dead, .one .dead, .one .dead, .one .dead, .one .dead, .one .dead, .one .dead, .one .dead, .one .dead, .one .dead, .one .dead, .one .dead, .one .dead, .one .dead, .one .dead, .one .dead, .one .dead, .one .dead, .one .dead, .one .dead, .one .dead, .one .dead, .one .dead, .one .dead, .one .dead, .one .dead, .one .dead, .one .dead, .one .dead, .one .dead, .one .dead, .one .dead, .one .dead, .one .dead, .one .dead, .one .dead, .one .dead], []⟩) (g) ?_ fun μ st hI => ?_
      · refine ⟨0, t ++ ⟨#[109, 111, 110, 105, 116, 111, 114, 10]⟩, ⟨by omega, by rw [hyp.2.1, nlMon, text_line]; rfl, by rw [ByteArray.size_append, szMon]; omega⟩, by simp, ?_⟩
        exact Can.to (by repeat first | exact LessT.nil | refine LessT.drop ?_ | refine LessT.keep ?_ | refine LessT.eq (by simp) ?_) (by repeat first | exact .nil | refine .cons rfl rfl ?_)
      · obtain ⟨k, u, hypk, rfl, hcan⟩ := hI
        refine TC.can hcan ?_
        clear hcan
        refine TC.seq ?_
        refine TC.seq ?_
        -- region 13
        refine TC.region ?_
        refine TL.vE (Val.move 1 rfl rfl) ?_
        refine TL.vE (Val.move 1 rfl rfl) ?_
        refine TL.vE (Val.lss rfl rfl rfl) ?_
        refine TL.nil ?_
        show TC _ _ _ _ _ _
        refine TC.cond rfl (fun hb => ?_) (fun hb => ?_)
        · have hk41 := hb
          refine TC.skip ?_
          show TC _ _ _ _ _ _
          refine TC.seq ?_
          refine TC.block ?_
          refine TC.seq ?_
          have hkl : k < g := by simp at hb; omega
          -- region 15
          refine TC.region ?_
          refine TL.vE (Val.move 1 rfl rfl) ?_
          refine TL.vE (by exact Val.addS rfl rfl rfl (by rw [szGst]; omega)) ?_
          refine TL.vE (Val.assign 1 rfl rfl) ?_
          refine TL.nil ?_
          show TC _ _ _ _ _ _
          refine TC.seq ?_
          -- region 16
          refine TC.region ?_
          refine TL.vE (Val.assign 1 rfl rfl) ?_
          refine TL.nil ?_
          show TC _ _ _ _ _ _
          refine TC.block ?_
          refine TC.loop (fun μ st => ∃ (j : Nat) (v : ByteArray), (j ≤ n ∧ v = textOf ((allL i g n ++ wMon :: (List.replicate k (gstL n)).flatten) ++ wGst :: List.replicate j wAdd) ∧ v.size ≤ 300 * i + 8 + 90 * k + 6 + 6 * j) ∧ μ = n - j ∧ Can st ⟨[.one .dead, .one .dead, .one .dead, .one .dead, I m, I g, I n, S v, I i, I k, I j, .one .dead, .one .dead, .one .dead, .one .dead, .one .dead, .one .dead, .one .dead, .one .dead, .one .dead, .one .dead, .one .dead, .one .dead, .one .dead, .one .dead, .one .dead, .one .dead, .one .dead, .one .dead, .one .dead, .one .dead, .one .dead, .one .dead, .one .dead, .one .dead, .one .dead, .one .dead, .one .dead, .one .dead, .one .dead, .one .dead, .one .dead, .one .dead, .one .dead, .one .dead, .one .dead, .one .dead, .one .dead, .one .dead, .one .dead, .one .dead, .one .dead, .one .dead, .one .dead, .one .dead, .one .dead, .one .dead, .one .dead, .one .dead, .one .dead, .one .dead, .one .dead, .one .dead, .one .dead, .one .dead, .one .dead, .one .dead, .one .dead, .one .dead, .one .dead, .one .dead, .one .dead, .one .dead, .one .dead, .one .dead, .one .dead, .one .dead, .one .dead, .one .dead, .one .dead, .one .dead, .one .dead], []⟩) (n) ?_ fun μ st hI => ?_
          · refine ⟨0, u ++ ⟨#[103, 117, 101, 115, 116, 10]⟩, ⟨by omega, by rw [hypk.2.1, nlGst, text_line]; rfl, by rw [ByteArray.size_append, szGst]; omega⟩, by simp, ?_⟩
            exact Can.to (by repeat first | exact LessT.nil | refine LessT.drop ?_ | refine LessT.keep ?_ | refine LessT.eq (by simp) ?_) (by repeat first | exact .nil | refine .cons rfl rfl ?_)
          · obtain ⟨j, v, hypj, rfl, hcan⟩ := hI
            refine TC.can hcan ?_
            clear hcan
            refine TC.seq ?_
            refine TC.seq ?_
            -- region 17
            refine TC.region ?_
            refine TL.vE (Val.move 1 rfl rfl) ?_
            refine TL.vE (Val.move 1 rfl rfl) ?_
            refine TL.vE (Val.lss rfl rfl rfl) ?_
            refine TL.nil ?_
            show TC _ _ _ _ _ _
            refine TC.cond rfl (fun hb => ?_) (fun hb => ?_)
            · have hk48 := hb
              refine TC.skip ?_
              show TC _ _ _ _ _ _
              refine TC.seq ?_
              refine TC.block ?_
              have hjl : j < n := by simp at hb; omega
              -- region 19
              refine TC.region ?_
              refine TL.vE (Val.move 1 rfl rfl) ?_
              refine TL.vE (by exact Val.addS rfl rfl rfl (by rw [szAdd]; omega)) ?_
              refine TL.vE (Val.assign 1 rfl rfl) ?_
              refine TL.nil ?_
              show TC _ _ _ _ _ _
              -- region 18
              refine TC.region ?_
              refine TL.vE (Val.move 1 rfl rfl) ?_
              refine TL.vE (Val.add rfl rfl rfl (by first | omega | (simp only [List.length_map]; omega)) (by first | omega | (simp only [List.length_map]; omega))) ?_
              refine TL.vE (Val.assign 1 rfl rfl) ?_
              refine TL.nil ?_
              first | refine Seq.normal ⟨_, ?_, j + 1, v ++ ⟨#[97, 100, 100, 32, 49, 10]⟩, ?_, rfl, ?_⟩ | refine Seq.normal (Q := fun _ _ => True) ⟨_, ?_, j + 1, v ++ ⟨#[97, 100, 100, 32, 49, 10]⟩, ?_, rfl, ?_⟩
              · omega
              · exact ⟨by omega, by rw [hypj.2.1, nlAdd, text_line, List.append_assoc, List.cons_append, ← List.replicate_succ'], by rw [ByteArray.size_append, szAdd]; omega⟩
              · exact Can.to (by repeat first | exact LessT.nil | refine LessT.drop ?_ | refine LessT.keep ?_ | refine LessT.eq (by simp) ?_) (by repeat first | exact .nil | refine .cons rfl rfl ?_)
            have hk48 := hb
            refine TC.exit ?_
            -- exit 4
            show TC _ _ _ _ _ _
            have hjn : j = n := by simp at hb; omega
            have hv := hypj.2.1
            rw [hjn] at hv
            have hv2 := hv.trans (congrArg textOf (monL_step g n k (allL i g n)))
            -- region 14
            refine TC.region ?_
            refine TL.vE (Val.move 1 rfl rfl) ?_
            refine TL.vE (Val.add rfl rfl rfl (by first | omega | (simp only [List.length_map]; omega)) (by first | omega | (simp only [List.length_map]; omega))) ?_
            refine TL.vE (Val.assign 1 rfl rfl) ?_
            refine TL.nil ?_
            first | refine Seq.normal ⟨_, ?_, k + 1, v, ?_, rfl, ?_⟩ | refine Seq.normal (Q := fun _ _ => True) ⟨_, ?_, k + 1, v, ?_, rfl, ?_⟩
            · omega
            · exact ⟨by omega, hv2, by have := hypj.2.2; omega⟩
            · exact Can.to (by repeat first | exact LessT.nil | refine LessT.drop ?_ | refine LessT.keep ?_ | refine LessT.eq (by simp) ?_) (by repeat first | exact .nil | refine .cons rfl rfl ?_)
        have hk41 := hb
        refine TC.exit ?_
        -- exit 2
        show TC _ _ _ _ _ _
        have hkg : k = g := by simp at hb; omega
        have hu := hypk.2.1
        rw [hkg] at hu
        have hu2 : u = textOf (allL (i + 1) g n) := hu.trans (congrArg textOf (allL_step i g n))
        -- region 10
        refine TC.region ?_
        refine TL.vE (Val.move 1 rfl rfl) ?_
        refine TL.vE (Val.add rfl rfl rfl (by first | omega | (simp only [List.length_map]; omega)) (by first | omega | (simp only [List.length_map]; omega))) ?_
        refine TL.vE (Val.assign 1 rfl rfl) ?_
        refine TL.nil ?_
        first | refine Seq.normal ⟨_, ?_, i + 1, u, ?_, rfl, ?_⟩ | refine Seq.normal (Q := fun _ _ => True) ⟨_, ?_, i + 1, u, ?_, rfl, ?_⟩
        · omega
        · exact ⟨by omega, hu2, by have := hypk.2.2; omega⟩
        · exact Can.to (by repeat first | exact LessT.nil | refine LessT.drop ?_ | refine LessT.keep ?_ | refine LessT.eq (by simp) ?_) (by repeat first | exact .nil | refine .cons rfl rfl ?_)
    have hk34 := hb
    refine TC.exit ?_
    -- exit 0
    show TC _ _ _ _ _ _
    refine TC.seq ?_
    have him : i = m := by simp at hb; omega
    have ht := hyp.2.1
    rw [him] at ht
    have hmr := many_read hm.2 hg.2 hnn.2 (by rw [← ht]; omega)
    have hrd := impl_ReadScript_f t
    obtain ⟨q, hq⟩ : ∃ q, readScript t = q := ⟨_, rfl⟩
    rw [hq] at hrd
    rw [← ht, hq] at hmr
    -- region 20
    refine TC.region ?_
    refine TL.vE (Val.move 1 rfl rfl) ?_
    refine TL.opK rfl fun K hK => ?_
    refine OpT.callG rfl rfl rfl rfl rfl rfl ((hrd).k) (by repeat first | exact .nil | refine Snaps.cons (.ro _) ?_ | refine Snaps.cons (.aggRo rfl) ?_ | refine Snaps.cons (.cptr _) ?_ | refine Snaps.cons (.fn _) ?_ | refine Snaps.cons (.ownRef rfl (by first | assumption | exact w_InsS _ | exact w_InsSS _ | exact w_InsSSS _ | exact w_ActS _ | exact whole_map _ _ (fun w c hc => by simp only [D.row, List.mem_cons, List.not_mem_nil, or_false] at hc; subst hc; exact .v _))) ?_ | refine Snaps.cons (.aggR (by repeat first | exact .nil | refine SnapCs.cons (.ro _) ?_ | refine SnapCs.cons (.ref rfl (by first | assumption | exact w_InsS _ | exact w_InsSS _ | exact w_InsSSS _ | exact w_ActS _ | exact whole_map _ _ (fun w c hc => by simp only [D.row, List.mem_cons, List.not_mem_nil, or_false] at hc; subst hc; exact .v _))) ?_)) ?_) rfl ?_ -- 55
    simp only [nrm, Nat.reduceBEq, Nat.reduceBNe, reduceIte]
    refine hK _ ?_
    clear hK K
    refine TL.vE (Val.move 1 rfl rfl) ?_
    refine TL.vE (Val.extract rfl rfl rfl) ?_
    refine TL.vE (Val.extract rfl rfl rfl) ?_
    refine TL.opK rfl fun K hK => ?_
    refine OpT.alloc rfl rfl rfl rfl rfl rfl ?_ -- 11
    simp only [nrm, Nat.reduceBEq, Nat.reduceBNe, reduceIte]
    refine hK _ ?_
    clear hK K
    refine TL.opK rfl fun K hK => ?_
    refine OpT.storeAgg rfl rfl rfl rfl rfl rfl (by simp [St.store1, St.storeAll, St.cellAt, St.isMem, St.root, St.wrote, St.kill, St.setRoot, TS.kill, TV.kill, C.kill, Rt.kill, hitR, hitP, shapeOf, setRow, setAt, rowAt, D.row, D.reRow, List.isPrefixOf]; rfl) ?_ -- None
    simp only [nrm, Nat.reduceBEq, Nat.reduceBNe, reduceIte]
    refine hK _ ?_
    clear hK K
    refine TL.vE (Val.assign 1 rfl rfl) ?_
    refine TL.nil ?_
    show TC _ _ _ _ _ _
    refine TC.seq ?_
    -- region 21
    refine TC.region ?_
    refine TL.vE (Val.move 1 rfl rfl) ?_
    refine TL.vE (Val.eql rfl rfl rfl) ?_
    refine TL.vE (Val.move 1 rfl rfl) ?_
    refine TL.vE (Val.leq rfl rfl rfl) ?_
    refine TL.vE (Val.move 1 rfl rfl) ?_
    refine TL.splitG 4 rfl (fun hg4 => ?_) (fun hg4 => ?_)
    · refine TL.gE rfl hg4 (Val.move 1 rfl rfl) ?_
      refine TL.gE rfl hg4 (Val.leq rfl rfl rfl) ?_
      refine TL.vE (Val.pickT rfl rfl hg4 rfl) ?_
      refine TL.vE (Val.move 1 rfl rfl) ?_
      refine TL.splitG 8 rfl (fun hg8 => ?_) (fun hg8 => ?_)
      · refine TL.gE rfl hg8 (Val.move 1 rfl rfl) ?_
        refine TL.gE rfl hg8 (Val.leq rfl rfl rfl) ?_
        refine TL.vE (Val.pickT rfl rfl hg8 rfl) ?_
        refine TL.vE (by exact Val.cast (Val.eqlB rfl rfl rfl rfl) (congrArg (fun z : Bool => (B z : TS)) (show _ = true by have h := hmr.1; first | (have e1 : decide (m ≤ 3) = false := (by simp at hg4 ⊢; omega); rw [e1] at h; simpa using h) | (have e1 : decide (m ≤ 3) = true := (by simp at hg4 ⊢; omega); first | (have e2 : decide (g ≤ 2) = false := (by simp at hg8 ⊢; omega); rw [e1, e2] at h; simpa using h) | (have e2 : decide (g ≤ 2) = true := (by simp at hg8 ⊢; omega); have e3 : decide ((n : Int) ≤ 12) = decide (n ≤ 12) := (by rw [decide_eq_decide]; omega); rw [e1, e2] at h; rw [e3]; simpa using h))))) ?_
        refine TL.vE (Val.move 1 rfl rfl) ?_
        refine TL.gE rfl rfl (Val.move 1 rfl rfl) ?_
        refine TL.gE rfl rfl (Val.neq rfl rfl rfl) ?_
        refine TL.gE rfl rfl (Val.move 1 rfl rfl) ?_
        refine TL.splitG 16 rfl (fun hg16 => ?_) (fun hg16 => ?_)
        · iterate 5 (refine TL.skip (nope_b rfl rfl hg16) (by simp only [nput]; rfl) ?_)
          refine TL.gE rfl rfl (Val.pickT rfl rfl hg16 rfl) ?_
          refine TL.vE (Val.pickT rfl rfl rfl rfl) ?_
          refine TL.vE (Val.assign 1 rfl rfl) ?_
          refine TL.nil ?_
          show TC _ _ _ _ _ _
          refine TC.ret ?_
          exact ⟨.inr rfl, [_], [_], _, rfl, by decide, rfl, by simp [refV, refC, valC, C.kill, hitR], rfl, rfl⟩
        · refine TL.guardE rfl rfl hg16 (by first | exact Val.field rfl rfl rfl | exact Val.fieldC rfl rfl rfl) (by simp only [St.put, List.set_cons_succ, List.set_cons_zero, List.getElem_toArray, List.getElem_cons_succ, List.getElem_cons_zero, Nat.zero_add, Nat.reduceAdd]; rfl) ?_
          refine TL.guardE rfl rfl hg16 (by first | exact Val.load rfl rfl rfl rfl rfl | exact Val.loadC rfl rfl rfl) (by simp only [nput, valC]; rfl) ?_
          refine TL.gE rfl hg16 (by first | exact Val.len rfl rfl rfl rfl | exact Val.lenS rfl rfl rfl) ?_
          refine TL.gE rfl hg16 (Val.move 1 rfl rfl) ?_
          refine TL.gE rfl hg16 (by exact Val.cast (Val.eql rfl rfl rfl) (congrArg (fun z : Bool => (B z : TS)) (show _ = true by have h := hmr.2; simp at hg16; simp [hg16] at h; simp; omega))) ?_
          refine TL.gE rfl rfl (Val.pickF rfl rfl hg16 rfl) ?_
          refine TL.vE (Val.pickT rfl rfl rfl rfl) ?_
          refine TL.vE (Val.assign 1 rfl rfl) ?_
          refine TL.nil ?_
          show TC _ _ _ _ _ _
          refine TC.ret ?_
          exact ⟨.inr rfl, [_], [_], _, rfl, by decide, rfl, by simp [refV, refC, valC, C.kill, hitR], rfl, rfl⟩
      · iterate 2 (refine TL.skip (nope_b rfl rfl hg8) (by simp only [nput]; rfl) ?_)
        refine TL.vE (Val.pickF rfl rfl hg8 rfl) ?_
        refine TL.vE (by exact Val.cast (Val.eqlB rfl rfl rfl rfl) (congrArg (fun z : Bool => (B z : TS)) (show _ = true by have h := hmr.1; first | (have e1 : decide (m ≤ 3) = false := (by simp at hg4 ⊢; omega); rw [e1] at h; simpa using h) | (have e1 : decide (m ≤ 3) = true := (by simp at hg4 ⊢; omega); first | (have e2 : decide (g ≤ 2) = false := (by simp at hg8 ⊢; omega); rw [e1, e2] at h; simpa using h) | (have e2 : decide (g ≤ 2) = true := (by simp at hg8 ⊢; omega); have e3 : decide ((n : Int) ≤ 12) = decide (n ≤ 12) := (by rw [decide_eq_decide]; omega); rw [e1, e2] at h; rw [e3]; simpa using h))))) ?_
        refine TL.vE (Val.move 1 rfl rfl) ?_
        refine TL.gE rfl rfl (Val.move 1 rfl rfl) ?_
        refine TL.gE rfl rfl (Val.neq rfl rfl rfl) ?_
        refine TL.gE rfl rfl (Val.move 1 rfl rfl) ?_
        refine TL.splitG 16 rfl (fun hg16 => ?_) (fun hg16 => ?_)
        · iterate 5 (refine TL.skip (nope_b rfl rfl hg16) (by simp only [nput]; rfl) ?_)
          refine TL.gE rfl rfl (Val.pickT rfl rfl hg16 rfl) ?_
          refine TL.vE (Val.pickT rfl rfl rfl rfl) ?_
          refine TL.vE (Val.assign 1 rfl rfl) ?_
          refine TL.nil ?_
          show TC _ _ _ _ _ _
          refine TC.ret ?_
          exact ⟨.inr rfl, [_], [_], _, rfl, by decide, rfl, by simp [refV, refC, valC, C.kill, hitR], rfl, rfl⟩
        · refine TL.guardE rfl rfl hg16 (by first | exact Val.field rfl rfl rfl | exact Val.fieldC rfl rfl rfl) (by simp only [St.put, List.set_cons_succ, List.set_cons_zero, List.getElem_toArray, List.getElem_cons_succ, List.getElem_cons_zero, Nat.zero_add, Nat.reduceAdd]; rfl) ?_
          refine TL.guardE rfl rfl hg16 (by first | exact Val.load rfl rfl rfl rfl rfl | exact Val.loadC rfl rfl rfl) (by simp only [nput, valC]; rfl) ?_
          refine TL.gE rfl hg16 (by first | exact Val.len rfl rfl rfl rfl | exact Val.lenS rfl rfl rfl) ?_
          refine TL.gE rfl hg16 (Val.move 1 rfl rfl) ?_
          refine TL.gE rfl hg16 (by exact Val.cast (Val.eql rfl rfl rfl) (congrArg (fun z : Bool => (B z : TS)) (show _ = true by have h := hmr.2; simp at hg16; simp [hg16] at h; simp; omega))) ?_
          refine TL.gE rfl rfl (Val.pickF rfl rfl hg16 rfl) ?_
          refine TL.vE (Val.pickT rfl rfl rfl rfl) ?_
          refine TL.vE (Val.assign 1 rfl rfl) ?_
          refine TL.nil ?_
          show TC _ _ _ _ _ _
          refine TC.ret ?_
          exact ⟨.inr rfl, [_], [_], _, rfl, by decide, rfl, by simp [refV, refC, valC, C.kill, hitR], rfl, rfl⟩
    · iterate 2 (refine TL.skip (nope_b rfl rfl hg4) (by simp only [nput]; rfl) ?_)
      refine TL.vE (Val.pickF rfl rfl hg4 rfl) ?_
      refine TL.vE (Val.move 1 rfl rfl) ?_
      iterate 2 (refine TL.skip (nope_b rfl rfl rfl) (by simp only [nput]; rfl) ?_)
      refine TL.vE (Val.pickF rfl rfl rfl rfl) ?_
      refine TL.vE (by exact Val.cast (Val.eqlB rfl rfl rfl rfl) (congrArg (fun z : Bool => (B z : TS)) (show _ = true by have h := hmr.1; first | (have e1 : decide (m ≤ 3) = false := (by simp at hg4 ⊢; omega); rw [e1] at h; simpa using h) | (have e1 : decide (m ≤ 3) = true := (by simp at hg4 ⊢; omega); first | (have e2 : decide (g ≤ 2) = false := (by simp at hg8 ⊢; omega); rw [e1, e2] at h; simpa using h) | (have e2 : decide (g ≤ 2) = true := (by simp at hg8 ⊢; omega); have e3 : decide ((n : Int) ≤ 12) = decide (n ≤ 12) := (by rw [decide_eq_decide]; omega); rw [e1, e2] at h; rw [e3]; simpa using h))))) ?_
      refine TL.vE (Val.move 1 rfl rfl) ?_
      refine TL.gE rfl rfl (Val.move 1 rfl rfl) ?_
      refine TL.gE rfl rfl (Val.neq rfl rfl rfl) ?_
      refine TL.gE rfl rfl (Val.move 1 rfl rfl) ?_
      refine TL.splitG 16 rfl (fun hg16 => ?_) (fun hg16 => ?_)
      · iterate 5 (refine TL.skip (nope_b rfl rfl hg16) (by simp only [nput]; rfl) ?_)
        refine TL.gE rfl rfl (Val.pickT rfl rfl hg16 rfl) ?_
        refine TL.vE (Val.pickT rfl rfl rfl rfl) ?_
        refine TL.vE (Val.assign 1 rfl rfl) ?_
        refine TL.nil ?_
        show TC _ _ _ _ _ _
        refine TC.ret ?_
        exact ⟨.inr rfl, [_], [_], _, rfl, by decide, rfl, by simp [refV, refC, valC, C.kill, hitR], rfl, rfl⟩
      · refine TL.guardE rfl rfl hg16 (by first | exact Val.field rfl rfl rfl | exact Val.fieldC rfl rfl rfl) (by simp only [St.put, List.set_cons_succ, List.set_cons_zero, List.getElem_toArray, List.getElem_cons_succ, List.getElem_cons_zero, Nat.zero_add, Nat.reduceAdd]; rfl) ?_
        refine TL.guardE rfl rfl hg16 (by first | exact Val.load rfl rfl rfl rfl rfl | exact Val.loadC rfl rfl rfl) (by simp only [nput, valC]; rfl) ?_
        refine TL.gE rfl hg16 (by first | exact Val.len rfl rfl rfl rfl | exact Val.lenS rfl rfl rfl) ?_
        refine TL.gE rfl hg16 (Val.move 1 rfl rfl) ?_
        refine TL.gE rfl hg16 (by exact Val.cast (Val.eql rfl rfl rfl) (congrArg (fun z : Bool => (B z : TS)) (show _ = true by have h := hmr.2; simp at hg16; simp [hg16] at h; simp; omega))) ?_
        refine TL.gE rfl rfl (Val.pickF rfl rfl hg16 rfl) ?_
        refine TL.vE (Val.pickT rfl rfl rfl rfl) ?_
        refine TL.vE (Val.assign 1 rfl rfl) ?_
        refine TL.nil ?_
        show TC _ _ _ _ _ _
        refine TC.ret ?_
        exact ⟨.inr rfl, [_], [_], _, rfl, by decide, rfl, by simp [refV, refC, valC, C.kill, hitR], rfl, rfl⟩
end Go.Proofs.YtfiakjbnfaaamaaDoor.T

