/- MoveLeft, both sides. PRINTED by gen.py out of spec_host2.py. -/
import Derived.Test.YtldollgpolklpaaT3
import Derived.Test.YtldollgpolklpaaZg
namespace Go.Proofs.Ytldollgpolklpaa.T
open Go
set_option linter.unusedVariables false
set_option linter.unusedSimpArgs false
set_option maxRecDepth 100000
set_option maxHeartbeats 4000000

/-- Must the page still be copied? -/
def leftAt (x : VMon) (v : VMove) (i : Nat) : Bool := decide ((v.Have[i]?.getD []).length = 0) || x.Dirty[i]?.getD false
def leftTo (x : VMon) (v : VMove) (i : Nat) : List Int := ((List.range i).filter (leftAt x v)).map fun (k : Nat) => (k : Int)
def moveLeft (h : VHost) (v : VMove) : List Int := match monAt h v.M with
  | some x => if v.Have.length = 8 then leftTo x v 8 else []
  | none => []
theorem left_yes {x : VMon} {v : VMove} {i : Nat} (h : leftAt x v i = true) : leftTo x v (i + 1) = leftTo x v i ++ [(i : Int)] := by simp [leftTo, List.range_succ, List.filter_append, h]
theorem left_no {x : VMon} {v : VMove} {i : Nat} (h : leftAt x v i = false) : leftTo x v (i + 1) = leftTo x v i := by simp [leftTo, List.range_succ, List.filter_append, h]
theorem moveLeft_full {h : VHost} {v : VMove} {x : VMon} (h1 : monAt h v.M = some x) (h2 : v.Have.length = 8) : moveLeft h v = leftTo x v 8 := by unfold moveLeft; rw [h1]; exact if_pos h2
theorem moveLeft_off {h : VHost} {v : VMove} (h2 : ¬ v.Have.length = 8) : moveLeft h v = [] := by
  unfold moveLeft
  split
  · exact if_neg h2
  · rfl
theorem moveLeft_none {h : VHost} {v : VMove} (h1 : monAt h v.M = none) : moveLeft h v = [] := by unfold moveLeft; rw [h1]
theorem leftTo_len (x : VMon) (v : VMove) (i : Nat) : (leftTo x v i).length ≤ i := by
  unfold leftTo
  rw [List.length_map]
  exact Nat.le_trans (List.length_filter_le _ _) (by simp)
theorem spec_MonAt_q {x : VHost} {m : Int} {q : Option VMon} (hx : SmHost x) (hq : monAt x m = q) : Fun Try.prog 20 [A (rHost x), I m] (RMon q) := hq ▸ spec_MonAt_f x m hx
theorem left_exit1 {h : VHost} {v : VMove} {q : Option VMon} {i : Nat} (hq : monAt h v.M = q) (hyp : i ≤ 8 ∧ (0 < i → q.isSome = true ∧ v.Have.length = 8)) (h8 : 8 ≤ i) : moveLeft h v = leftTo (q.getD noMon) v i := by
  have h9 := hyp.2 (by omega)
  obtain rfl : i = 8 := by omega
  cases q with
  | none => cases h9.1
  | some z => exact moveLeft_full hq h9.2
theorem left_exit2 {h : VHost} {v : VMove} {q : Option VMon} {i : Nat} (hq : monAt h v.M = q) (hyp : i ≤ 8 ∧ (0 < i → q.isSome = true ∧ v.Have.length = 8)) (h8 : q.isSome = false) : moveLeft h v = leftTo (q.getD noMon) v i := by
  rcases Nat.eq_zero_or_pos i with rfl | h9
  · cases q with
    | none => exact moveLeft_none hq
    | some z => cases h8
  · rw [(hyp.2 h9).1] at h8; cases h8
theorem left_exit3 {h : VHost} {v : VMove} {q : Option VMon} {i : Nat} (hq : monAt h v.M = q) (hyp : i ≤ 8 ∧ (0 < i → q.isSome = true ∧ v.Have.length = 8)) (h8 : (((v.Have.map dIntS).length : Int) == 8) = false) : moveLeft h v = leftTo (q.getD noMon) v i := by
  rw [List.length_map, beq_eq_false_iff_ne] at h8
  rcases Nat.eq_zero_or_pos i with rfl | h9
  · exact moveLeft_off (by omega)
  · exact absurd (hyp.2 h9).2 (by omega)
theorem moveLeft_len (h : VHost) (v : VMove) : (moveLeft h v).length ≤ 8 := by
  unfold moveLeft
  split
  · split
    · exact leftTo_len _ _ _
    · simp
  · simp
-- loop.example/g00975/spec.MoveLeft: params ['impl.Host = loop.example/g00975/impl.Host', 'impl.Move = loop.example/g00975/impl.Move'] results ['[]int'] ('arr', [('app', 'Go.ResultVar.tmp', ['4'])])
theorem spec_MoveLeft_f (x : VHost) (v : VMove) (hx : SmHost x) : Fun Try.prog 6 [A (rHost x), A (rMove v)] (RL 1 ((moveLeft x v).map dInt)) := by
  refine Fun.of Try.func6 rfl (by simp [Try.ntmps6]) fun w g0 => ?_
  simp only [Try.ntmps6, List.length_cons, List.length_nil, Nat.reduceAdd, Nat.reduceSub, List.replicate, List.cons_append, List.nil_append]
  obtain ⟨q, hq⟩ : ∃ q, monAt x v.M = q := ⟨_, rfl⟩
  refine TC.seq ?_
  -- region 0
  refine TC.region ?_
  refine TL.opK rfl fun K hK => ?_
  first | refine OpT.box rfl rfl (z := 1) rfl (by simp) ?_ | refine OpT.boxAgg rfl rfl rfl ?_ -- 2
  simp only [nrm, Nat.reduceBEq, Nat.reduceBNe, reduceIte]
  refine hK _ ?_
  clear hK K
  refine TL.opK rfl fun K hK => ?_
  first | refine OpT.box rfl rfl (z := 1) rfl (by simp) ?_ | refine OpT.boxAgg rfl rfl rfl ?_ -- 3
  simp only [nrm, Nat.reduceBEq, Nat.reduceBNe, reduceIte]
  refine hK _ ?_
  clear hK K
  refine TL.vE (Val.assign 1 rfl rfl) ?_
  refine TL.nil ?_
  show TC _ _ _ _ _ _
  refine TC.seq ?_
  -- region 1
  refine TC.region ?_
  refine TL.opK rfl fun K hK => ?_
  refine OpT.build0 (sz := 1) rfl rfl rfl rfl ?_ -- 9
  simp only [nrm, Nat.reduceBEq, Nat.reduceBNe, reduceIte]
  refine hK _ ?_
  clear hK K
  refine TL.vE (Val.assign 1 rfl rfl) ?_
  refine TL.nil ?_
  show TC _ _ _ _ _ _
  refine TC.seq ?_
  -- region 2
  refine TC.region ?_
  refine TL.valE rfl (by first | exact Val.loadCAgg (n := 4) rfl rfl rfl rfl (Nat.le_of_ble_eq_true rfl) | exact Val.loadAgg (n := 4) rfl rfl rfl rfl (by simp [St.cellsAt, St.cellAt, St.root, valC]; rfl) rfl | exact Val.loadAgg (n := 4) rfl rfl rfl rfl rfl rfl) (by simp only [St.put, List.set_cons_succ, List.set_cons_zero, valC, dHost, rHost, D.row, List.take_succ_cons, List.take_zero, List.map_cons, List.map_nil]; rfl) ?_
  refine TL.valE rfl (by first | exact Val.field rfl rfl rfl | exact Val.fieldC rfl rfl rfl) (by simp only [St.put, List.set_cons_succ, List.set_cons_zero, List.getElem_toArray, List.getElem_cons_succ, List.getElem_cons_zero, Nat.zero_add, Nat.reduceAdd]; rfl) ?_
  refine TL.valE rfl (by first | exact Val.load rfl rfl rfl rfl rfl | exact Val.loadC rfl rfl rfl) (by simp only [nput, valC]; rfl) ?_
  refine TL.opK rfl fun K hK => ?_
  refine OpT.callG rfl rfl rfl rfl rfl rfl ((spec_MonAt_q hx hq).k) (by repeat first | exact .nil | refine Snaps.cons (.ro _) ?_ | refine Snaps.cons (.aggRo rfl) ?_ | refine Snaps.cons (.cptr _) ?_ | refine Snaps.cons (.fn _) ?_ | refine Snaps.cons (.ownRef rfl (by first | assumption | exact w_IntS _ | exact w_IntSS _ | exact w_SlotS _ | exact w_BoolS _ | exact w_InsS _ | exact w_GuestS _ | exact w_KeptS _ | exact w_MonS _ | exact w_EntryS _ | exact w_BareS _)) ?_ | refine Snaps.cons (.aggR (by repeat first | exact .nil | refine SnapCs.cons (.ro _) ?_ | refine SnapCs.cons (.ref rfl (by first | assumption | exact w_IntS _ | exact w_IntSS _ | exact w_SlotS _ | exact w_BoolS _ | exact w_InsS _ | exact w_GuestS _ | exact w_KeptS _ | exact w_MonS _ | exact w_EntryS _ | exact w_BareS _)) ?_)) ?_) rfl ?_ -- 14
  simp only [nrm, Nat.reduceBEq, Nat.reduceBNe, reduceIte]
  refine hK _ ?_
  clear hK K
  refine TL.vE (Val.move 1 rfl rfl) ?_
  refine TL.vE (Val.extract rfl rfl rfl) ?_
  refine TL.vE (Val.extract rfl rfl rfl) ?_
  refine TL.opK rfl fun K hK => ?_
  refine OpT.alloc rfl rfl rfl rfl rfl rfl ?_ -- 6
  simp only [nrm, Nat.reduceBEq, Nat.reduceBNe, reduceIte]
  refine hK _ ?_
  clear hK K
  refine TL.opK rfl fun K hK => ?_
  refine OpT.storeAgg rfl rfl rfl rfl rfl rfl (by simp [St.store1, St.storeAll, St.cellAt, St.isMem, St.root, St.wrote, St.kill, St.setRoot, TS.kill, TV.kill, C.kill, Rt.kill, hitR, hitP, shapeOf, setRow, setAt, rowAt, D.row, D.reRow, List.isPrefixOf]; rfl) ?_ -- None
  simp only [nrm, Nat.reduceBEq, Nat.reduceBNe, reduceIte]
  refine hK _ ?_
  clear hK K
  refine TL.vE (Val.assign 1 rfl rfl) ?_
  refine TL.nil ?_
  show TC _ _ _ _ _ _
  refine TC.seq ?_
  refine TC.seq ?_
  -- region 3
  refine TC.region ?_
  refine TL.vE (Val.assign 1 rfl rfl) ?_
  refine TL.nil ?_
  show TC _ _ _ _ _ _
  refine TC.block ?_
  refine TC.loop (fun μ st => ∃ i : Nat, (i ≤ 8 ∧ (0 < i → q.isSome = true ∧ v.Have.length = 8)) ∧ μ = 8 - i ∧ Can st ⟨[.one .dead, .one .dead, .one (.ptr ⟨2, [], 0⟩), .one (.ptr ⟨3, [], 0⟩), .one .dead, .one (.c (.ref ⟨5, [], 0⟩)), .one (.ptr ⟨6, [], 0⟩), B q.isSome, I i, .one .dead, .one .dead, .one .dead, .one .dead, .one .dead, .one .dead, .one .dead, .one .dead, .one .dead, .one .dead, .one .dead, .one .dead, .one .dead, .one .dead, .one .dead, .one .dead, .one .dead, .one .dead, .one .dead, .one .dead, .one .dead, .one .dead, .one .dead, .one .dead, .one .dead, .one .dead, .one .dead, .one .dead, .one .dead, .one .dead, .one .dead, .one .dead, .one .dead, .one .dead, .one .dead, .one .dead, .one .dead, .one .dead, .one .dead, .one .dead, .one .dead, .one .dead, .one .dead, .one .dead, .one .dead, .one .dead, .one .dead], [(5, ⟨false, [.own (.sl 1 ((leftTo (q.getD noMon) v i).map dInt))]⟩), (6, ⟨true, [.own (.sl 2 ((q.getD noMon).Outer.map dSlot)), .own (.sl 1 ((q.getD noMon).Out.map dIntS)), .own (.sl 1 ((q.getD noMon).Dirty.map dBool)), .own (.sl 15 ((q.getD noMon).Guests.map dGuest)), .own (.sl 1 ((q.getD noMon).Outs.map dInt)), .own (.v (.int .i64 (q.getD noMon).Pending)), .own (.v (.int .i64 (q.getD noMon).Traps)), .own (.sl 2 ((q.getD noMon).Tables.map dKept)), .own (.v (.int .i64 (q.getD noMon).Own))]⟩), (2, ⟨true, [.ro (.sl 1 (x.Memory.map dIntS)), .ro (.sl 9 (x.Mons.map dMon)), .ro (.sl 4 (x.Buffer.map dEntry)), .ro (.sl 4 (x.IoBuffer.map dEntry))]⟩), (3, ⟨true, [.own (.v (.int .i64 v.M)), .ro (.sl 1 (v.Have.map dIntS))]⟩)]⟩) (8) ?_ fun μ st hI => ?_
  · refine ⟨0, ⟨by omega, fun h => absurd h (by omega)⟩, by simp, ?_⟩
    exact Can.name 9 5 (by simp only [St.name, nameS, nameV, nameC, nameR, List.map_cons, List.map_nil, Nat.reduceEqDiff, if_true, if_false, ne_eq, not_true, not_false, and_true, and_false, true_and, false_and, reduceIte]; rfl) (Can.to (by repeat first | exact LessT.nil | refine LessT.drop ?_ | refine LessT.keep ?_ | refine LessT.eq (by first | rfl | (simp; done) | (simp; omega) | simp_all) ?_) (.cons rfl (by simp [leftTo]) (.cons rfl rfl (.cons rfl rfl (.cons rfl rfl .nil)))))
  · obtain ⟨i, hyp, rfl, hcan⟩ := hI
    refine TC.can hcan ?_
    clear hcan
    refine TC.seq ?_
    refine TC.seq ?_
    -- region 4
    refine TC.region ?_
    refine TL.vE (Val.move 1 rfl rfl) ?_
    refine TL.vE (Val.lss rfl rfl rfl) ?_
    refine TL.vE (Val.move 1 rfl rfl) ?_
    refine TL.splitG 2 rfl (fun hg2 => ?_) (fun hg2 => ?_)
    · refine TL.gE rfl hg2 (Val.move 1 rfl rfl) ?_
      refine TL.vE (Val.pickT rfl rfl hg2 rfl) ?_
      refine TL.vE (Val.move 1 rfl rfl) ?_
      refine TL.splitG 5 rfl (fun hg5 => ?_) (fun hg5 => ?_)
      · refine TL.guardE rfl rfl hg5 (by first | exact Val.field rfl rfl rfl | exact Val.fieldC rfl rfl rfl) (by simp only [St.put, List.set_cons_succ, List.set_cons_zero, List.getElem_toArray, List.getElem_cons_succ, List.getElem_cons_zero, Nat.zero_add, Nat.reduceAdd]; rfl) ?_
        refine TL.guardE rfl rfl hg5 (by first | exact Val.load rfl rfl rfl rfl rfl | exact Val.loadC rfl rfl rfl) (by simp only [nput, valC]; rfl) ?_
        refine TL.gE rfl hg5 (by first | exact Val.len rfl rfl rfl rfl | exact Val.lenS rfl rfl rfl) ?_
        refine TL.gE rfl hg5 (Val.eql rfl rfl rfl) ?_
        refine TL.vE (Val.pickT rfl rfl hg5 rfl) ?_
        refine TL.nil ?_
        show TC _ _ _ _ _ _
        refine TC.cond rfl (fun hb => ?_) (fun hb => ?_)
        · have hk27 := hb
          refine TC.skip ?_
          show TC _ _ _ _ _ _
          refine TC.seq ?_
          refine TC.block ?_
          refine TC.seq ?_
          have hi : i < 8 := by simp at hg2; omega
          have hsm : q.isSome = true ∧ v.Have.length = 8 := ⟨hg5, by simp at hb; omega⟩
          obtain ⟨y, hy⟩ := at_of (xs := v.Have) (k := i) (by omega)
          -- region 6
          refine TC.region ?_
          refine TL.valE rfl (by first | exact Val.field rfl rfl rfl | exact Val.fieldC rfl rfl rfl) (by simp only [St.put, List.set_cons_succ, List.set_cons_zero, List.getElem_toArray, List.getElem_cons_succ, List.getElem_cons_zero, Nat.zero_add, Nat.reduceAdd]; rfl) ?_
          refine TL.valE rfl (by first | exact Val.load rfl rfl rfl rfl rfl | exact Val.loadC rfl rfl rfl) (by simp only [nput, valC]; rfl) ?_
          refine TL.vE (Val.move 1 rfl rfl) ?_
          refine TL.vE (by exact Val.indexC (d := dIntS y) rfl rfl rfl rfl rfl (by omega) (by simp [hy])) ?_
          refine TL.valE rfl (by first | exact Val.load rfl rfl rfl rfl rfl | exact Val.loadC rfl rfl rfl) (by simp only [nput, valC]; rfl) ?_
          refine TL.vE (by first | exact Val.len rfl rfl rfl rfl | exact Val.lenS rfl rfl rfl) ?_
          refine TL.vE (Val.eql rfl rfl rfl) ?_
          refine TL.vE (Val.move 1 rfl rfl) ?_
          refine TL.splitG 7 rfl (fun hg7 => ?_) (fun hg7 => ?_)
          · iterate 6 (refine TL.skip (nope_b rfl rfl hg7) (by simp only [nput]; rfl) ?_)
            iterate 5 (refine TL.skip (nope_u rfl rfl) (by simp only [nput]; rfl) ?_)
            refine TL.skip (nope_b rfl rfl hg7) (by simp only [nput]; rfl) ?_
            refine TL.vE (Val.pickT rfl rfl hg7 rfl) ?_
            refine TL.nil ?_
            show TC _ _ _ _ _ _
            refine TC.cond rfl (fun hb => ?_) (fun hb => absurd hb (by simp))
            -- region 7
            refine TC.region ?_
            refine TL.vE (Val.move 1 rfl rfl) ?_
            refine TL.vE (Val.move 1 rfl rfl) ?_
            refine TL.opK rfl fun K hK => ?_
            refine OpT.buildP rfl rfl (xs := [(Go.Operand.tmp 52)]) rfl rfl rfl rfl (sz := 1) rfl rfl rfl (by decide) (by decide) ?_ -- 53
            simp only [nrm, Nat.reduceBEq, Nat.reduceBNe, reduceIte]
            refine hK _ ?_
            clear hK K
            refine TL.opK rfl fun K hK => ?_
            refine OpT.appendE rfl rfl rfl (sz := 1) rfl rfl rfl (by simp [isPlain, D.row, elD, cellD]) rfl rfl rfl rfl rfl rfl rfl (by have h9 := leftTo_len (q.getD noMon) v i; simp; omega) ?_ -- 54
            simp only [nrm, Nat.reduceBEq, Nat.reduceBNe, reduceIte]
            refine hK _ ?_
            clear hK K
            refine TL.vE (Val.assign 1 rfl rfl) ?_
            refine TL.nil ?_
            show TC _ _ _ _ _ _
            -- region 5
            refine TC.region ?_
            refine TL.vE (Val.move 1 rfl rfl) ?_
            refine TL.vE (Val.add rfl rfl rfl (by first | omega | (simp only [List.length_map]; omega)) (by first | omega | (simp only [List.length_map]; omega))) ?_
            refine TL.vE (Val.assign 1 rfl rfl) ?_
            refine TL.nil ?_
            first
            | (first | refine Seq.normal ⟨_, ?_, i + 1, ?_, rfl, ?_⟩ | refine Seq.normal (Q := fun _ _ => True) ⟨_, ?_, i + 1, ?_, rfl, ?_⟩
               · omega
               · exact ⟨by omega, fun _ => hsm⟩
               · (have hly := left_yes (x := (q.getD noMon)) (v := v) (i := i) (by unfold leftAt; rw [hy]; first | (simp at hg7; simp [hg7]; done) | (rw [hd]; simp [hb]; done)); refine @Can.name _ _ _ 54 5 (by simp only [St.name, nameS, nameV, nameC, nameR, List.map_cons, List.map_nil, Nat.reduceEqDiff, if_true, if_false, ne_eq, not_true, not_false, and_true, and_false, true_and, false_and, reduceIte]; rfl) ?_ (by decide); refine @Can.to _ _ _ _ (by repeat first | exact LessT.nil | refine LessT.drop ?_ | refine LessT.keep ?_ | refine LessT.eq (by first | rfl | (simp; done) | (simp; omega) | simp_all) ?_) (.cons rfl (by simp [elD, cellD, hly]) (.cons rfl rfl (.cons rfl rfl (.cons rfl rfl .nil))))))
          · refine TL.gE rfl hg7 (Val.move 1 rfl rfl) ?_
            refine TL.guardE rfl rfl hg7 (by first | exact Val.field rfl rfl rfl | exact Val.fieldC rfl rfl rfl) (by simp only [St.put, List.set_cons_succ, List.set_cons_zero, List.getElem_toArray, List.getElem_cons_succ, List.getElem_cons_zero, Nat.zero_add, Nat.reduceAdd]; rfl) ?_
            refine TL.guardE rfl rfl hg7 (by first | exact Val.load rfl rfl rfl rfl rfl | exact Val.loadC rfl rfl rfl) (by simp only [nput, valC]; rfl) ?_
            refine TL.gE rfl hg7 (by first | exact Val.len rfl rfl rfl rfl | exact Val.lenS rfl rfl rfl) ?_
            refine TL.gE rfl hg7 (Val.lss rfl rfl rfl) ?_
            refine TL.gE rfl hg7 (Val.move 1 rfl rfl) ?_
            refine TL.splitG 13 rfl (fun hg13 => ?_) (fun hg13 => ?_)
            · have h13 : i < (q.getD noMon).Dirty.length := by simpa using hg13
              obtain ⟨d, hd⟩ := at_of (xs := (q.getD noMon).Dirty) (k := i) h13
              refine TL.guardE rfl rfl hg13 (by first | exact Val.field rfl rfl rfl | exact Val.fieldC rfl rfl rfl) (by simp only [St.put, List.set_cons_succ, List.set_cons_zero, List.getElem_toArray, List.getElem_cons_succ, List.getElem_cons_zero, Nat.zero_add, Nat.reduceAdd]; rfl) ?_
              refine TL.guardE rfl rfl hg13 (by first | exact Val.load rfl rfl rfl rfl rfl | exact Val.loadC rfl rfl rfl) (by simp only [nput, valC]; rfl) ?_
              refine TL.gE rfl hg13 (Val.move 1 rfl rfl) ?_
              refine TL.gE rfl hg13 (by exact Val.index rfl rfl rfl rfl rfl rfl (by omega) (by simp; omega)) ?_
              refine TL.guardE rfl rfl hg13 (by exact Val.load rfl rfl rfl (by simp [St.cellAt, St.root, rowAt, setRow, setAt, D.row, D.reRow, listOf, List.getElem?_set_self', List.set_set, hd]; first | rfl | exact ⟨rfl, rfl⟩) rfl) (by simp only [nput, valC]; rfl) ?_
              refine TL.gE rfl hg7 (Val.pickT rfl rfl hg13 rfl) ?_
              refine TL.vE (Val.pickF rfl rfl hg7 rfl) ?_
              refine TL.nil ?_
              show TC _ _ _ _ _ _
              refine TC.cond rfl (fun hb => ?_) (fun hb => ?_)
              · have hk50 := hb
                -- region 7
                refine TC.region ?_
                refine TL.vE (Val.move 1 rfl rfl) ?_
                refine TL.vE (Val.move 1 rfl rfl) ?_
                refine TL.opK rfl fun K hK => ?_
                refine OpT.buildP rfl rfl (xs := [(Go.Operand.tmp 52)]) rfl rfl rfl rfl (sz := 1) rfl rfl rfl (by decide) (by decide) ?_ -- 53
                simp only [nrm, Nat.reduceBEq, Nat.reduceBNe, reduceIte]
                refine hK _ ?_
                clear hK K
                refine TL.opK rfl fun K hK => ?_
                refine OpT.appendE rfl rfl rfl (sz := 1) rfl rfl rfl (by simp [isPlain, D.row, elD, cellD]) rfl rfl rfl rfl rfl rfl rfl (by have h9 := leftTo_len (q.getD noMon) v i; simp; omega) ?_ -- 54
                simp only [nrm, Nat.reduceBEq, Nat.reduceBNe, reduceIte]
                refine hK _ ?_
                clear hK K
                refine TL.vE (Val.assign 1 rfl rfl) ?_
                refine TL.nil ?_
                show TC _ _ _ _ _ _
                -- region 5
                refine TC.region ?_
                refine TL.vE (Val.move 1 rfl rfl) ?_
                refine TL.vE (Val.add rfl rfl rfl (by first | omega | (simp only [List.length_map]; omega)) (by first | omega | (simp only [List.length_map]; omega))) ?_
                refine TL.vE (Val.assign 1 rfl rfl) ?_
                refine TL.nil ?_
                first
                | (first | refine Seq.normal ⟨_, ?_, i + 1, ?_, rfl, ?_⟩ | refine Seq.normal (Q := fun _ _ => True) ⟨_, ?_, i + 1, ?_, rfl, ?_⟩
                   · omega
                   · exact ⟨by omega, fun _ => hsm⟩
                   · (have hly := left_yes (x := (q.getD noMon)) (v := v) (i := i) (by unfold leftAt; rw [hy]; first | (simp at hg7; simp [hg7]; done) | (rw [hd]; simp [hb]; done)); refine @Can.name _ _ _ 54 5 (by simp only [St.name, nameS, nameV, nameC, nameR, List.map_cons, List.map_nil, Nat.reduceEqDiff, if_true, if_false, ne_eq, not_true, not_false, and_true, and_false, true_and, false_and, reduceIte]; rfl) ?_ (by decide); refine @Can.to _ _ _ _ (by repeat first | exact LessT.nil | refine LessT.drop ?_ | refine LessT.keep ?_ | refine LessT.eq (by first | rfl | (simp; done) | (simp; omega) | simp_all) ?_) (.cons rfl (by simp [elD, cellD, hly]) (.cons rfl rfl (.cons rfl rfl (.cons rfl rfl .nil))))))
              have hk50 := hb
              refine TC.skip ?_
              show TC _ _ _ _ _ _
              -- region 5
              refine TC.region ?_
              refine TL.vE (Val.move 1 rfl rfl) ?_
              refine TL.vE (Val.add rfl rfl rfl (by first | omega | (simp only [List.length_map]; omega)) (by first | omega | (simp only [List.length_map]; omega))) ?_
              refine TL.vE (Val.assign 1 rfl rfl) ?_
              refine TL.nil ?_
              first
              | (first | refine Seq.normal ⟨_, ?_, i + 1, ?_, rfl, ?_⟩ | refine Seq.normal (Q := fun _ _ => True) ⟨_, ?_, i + 1, ?_, rfl, ?_⟩
                 · omega
                 · exact ⟨by omega, fun _ => hsm⟩
                 · (have hly := left_no (x := (q.getD noMon)) (v := v) (i := i) (by unfold leftAt; rw [hy]; simp at hg7; first | (rw [hd]; simp [hb, hg7]; done) | (rw [List.getElem?_eq_none (by simp at hg13; omega)]; simp [hg7]; done)); refine @Can.to _ _ _ _ (by repeat first | exact LessT.nil | refine LessT.drop ?_ | refine LessT.keep ?_ | refine LessT.eq (by first | rfl | (simp; done) | (simp; omega) | simp_all) ?_) (.cons rfl (by simp [hly]) (.cons rfl rfl (.cons rfl rfl (.cons rfl rfl .nil))))))
            · iterate 5 (refine TL.skip (nope_b rfl rfl hg13) (by simp only [nput]; rfl) ?_)
              refine TL.gE rfl hg7 (Val.pickF rfl rfl hg13 rfl) ?_
              refine TL.vE (Val.pickF rfl rfl hg7 rfl) ?_
              refine TL.nil ?_
              show TC _ _ _ _ _ _
              refine TC.cond rfl (fun hb => absurd hb (by simp)) (fun hb => ?_)
              refine TC.skip ?_
              show TC _ _ _ _ _ _
              -- region 5
              refine TC.region ?_
              refine TL.vE (Val.move 1 rfl rfl) ?_
              refine TL.vE (Val.add rfl rfl rfl (by first | omega | (simp only [List.length_map]; omega)) (by first | omega | (simp only [List.length_map]; omega))) ?_
              refine TL.vE (Val.assign 1 rfl rfl) ?_
              refine TL.nil ?_
              first
              | (first | refine Seq.normal ⟨_, ?_, i + 1, ?_, rfl, ?_⟩ | refine Seq.normal (Q := fun _ _ => True) ⟨_, ?_, i + 1, ?_, rfl, ?_⟩
                 · omega
                 · exact ⟨by omega, fun _ => hsm⟩
                 · (have hly := left_no (x := (q.getD noMon)) (v := v) (i := i) (by unfold leftAt; rw [hy]; simp at hg7; first | (rw [hd]; simp [hb, hg7]; done) | (rw [List.getElem?_eq_none (by simp at hg13; omega)]; simp [hg7]; done)); refine @Can.to _ _ _ _ (by repeat first | exact LessT.nil | refine LessT.drop ?_ | refine LessT.keep ?_ | refine LessT.eq (by first | rfl | (simp; done) | (simp; omega) | simp_all) ?_) (.cons rfl (by simp [hly]) (.cons rfl rfl (.cons rfl rfl (.cons rfl rfl .nil))))))
        have hk27 := hb
        refine TC.exit ?_
        -- exit 0
        show TC _ _ _ _ _ _
        refine TC.seq ?_
        have h0 : moveLeft x v = leftTo (q.getD noMon) v i := by first | exact left_exit1 hq hyp (by simp at hg2; omega) | exact left_exit2 hq hyp hg5 | exact left_exit3 hq hyp hb
        -- region 8
        refine TC.region ?_
        refine TL.vE (Val.move 1 rfl rfl) ?_
        refine TL.vE (Val.assign 1 rfl rfl) ?_
        refine TL.nil ?_
        show TC _ _ _ _ _ _
        refine TC.ret ?_
        exact ⟨.inr rfl, [_], [_], _, rfl, by decide, rfl, by simp [refV, refC, valC, C.kill, hitR], rfl, (by rw [h0]; rfl)⟩
      · iterate 4 (refine TL.skip (nope_b rfl rfl hg5) (by simp only [nput]; rfl) ?_)
        refine TL.vE (Val.pickF rfl rfl hg5 rfl) ?_
        refine TL.nil ?_
        show TC _ _ _ _ _ _
        refine TC.cond rfl (fun hb => absurd hb (by simp)) (fun hb => ?_)
        refine TC.exit ?_
        -- exit 0
        show TC _ _ _ _ _ _
        refine TC.seq ?_
        have h0 : moveLeft x v = leftTo (q.getD noMon) v i := by first | exact left_exit1 hq hyp (by simp at hg2; omega) | exact left_exit2 hq hyp hg5 | exact left_exit3 hq hyp hb
        -- region 8
        refine TC.region ?_
        refine TL.vE (Val.move 1 rfl rfl) ?_
        refine TL.vE (Val.assign 1 rfl rfl) ?_
        refine TL.nil ?_
        show TC _ _ _ _ _ _
        refine TC.ret ?_
        exact ⟨.inr rfl, [_], [_], _, rfl, by decide, rfl, by simp [refV, refC, valC, C.kill, hitR], rfl, (by rw [h0]; rfl)⟩
    · refine TL.skip (nope_b rfl rfl hg2) (by simp only [nput]; rfl) ?_
      refine TL.vE (Val.pickF rfl rfl hg2 rfl) ?_
      refine TL.vE (Val.move 1 rfl rfl) ?_
      iterate 4 (refine TL.skip (nope_b rfl rfl rfl) (by simp only [nput]; rfl) ?_)
      refine TL.vE (Val.pickF rfl rfl rfl rfl) ?_
      refine TL.nil ?_
      show TC _ _ _ _ _ _
      refine TC.cond rfl (fun hb => absurd hb (by simp)) (fun hb => ?_)
      refine TC.exit ?_
      -- exit 0
      show TC _ _ _ _ _ _
      refine TC.seq ?_
      have h0 : moveLeft x v = leftTo (q.getD noMon) v i := by first | exact left_exit1 hq hyp (by simp at hg2; omega) | exact left_exit2 hq hyp hg5 | exact left_exit3 hq hyp hb
      -- region 8
      refine TC.region ?_
      refine TL.vE (Val.move 1 rfl rfl) ?_
      refine TL.vE (Val.assign 1 rfl rfl) ?_
      refine TL.nil ?_
      show TC _ _ _ _ _ _
      refine TC.ret ?_
      exact ⟨.inr rfl, [_], [_], _, rfl, by decide, rfl, by simp [refV, refC, valC, C.kill, hitR], rfl, (by rw [h0]; rfl)⟩

-- loop.example/g00975/impl.has: params ['int', 'int'] results ['bool'] ('arr', [('app', 'Go.ResultVar.tmp', ['4'])])
theorem impl_has_f (k n : Int) : Fun Try.prog 24 [I k, I n] (RV (.bool (decide (0 ≤ k ∧ k < n)))) := by
  refine Fun.of Try.func24 rfl (by simp [Try.ntmps24]) fun w g0 => ?_
  simp only [Try.ntmps24, List.length_cons, List.length_nil, Nat.reduceAdd, Nat.reduceSub, List.replicate, List.cons_append, List.nil_append]
  refine TC.seq ?_
  -- region 0
  refine TC.region ?_
  refine TL.vE (Val.assign 1 rfl rfl) ?_
  refine TL.nil ?_
  show TC _ _ _ _ _ _
  refine TC.seq ?_
  -- region 1
  refine TC.region ?_
  refine TL.vE (Val.move 1 rfl rfl) ?_
  refine TL.vE (Val.geq rfl rfl rfl) ?_
  refine TL.vE (Val.move 1 rfl rfl) ?_
  refine TL.splitG 2 rfl (fun hg2 => ?_) (fun hg2 => ?_)
  · refine TL.gE rfl hg2 (Val.move 1 rfl rfl) ?_
    refine TL.gE rfl hg2 (Val.move 1 rfl rfl) ?_
    refine TL.gE rfl hg2 (Val.lss rfl rfl rfl) ?_
    refine TL.vE (Val.pickT rfl rfl hg2 rfl) ?_
    refine TL.vE (Val.assign 1 rfl rfl) ?_
    refine TL.nil ?_
    show TC _ _ _ _ _ _
    refine TC.ret ?_
    exact ⟨.inr rfl, [_], [_], _, rfl, by decide, rfl, by simp [refV, refC, valC, C.kill, hitR], rfl, resV (by simp_all <;> (try intros) <;> omega)⟩
  · iterate 3 (refine TL.skip (nope_b rfl rfl hg2) (by simp only [nput]; rfl) ?_)
    refine TL.vE (Val.pickF rfl rfl hg2 rfl) ?_
    refine TL.vE (Val.assign 1 rfl rfl) ?_
    refine TL.nil ?_
    show TC _ _ _ _ _ _
    refine TC.ret ?_
    exact ⟨.inr rfl, [_], [_], _, rfl, by decide, rfl, by simp [refV, refC, valC, C.kill, hitR], rfl, resV (by simp_all <;> (try intros) <;> omega)⟩

-- loop.example/g00975/impl.MoveLeft: params ['impl.Host = loop.example/g00975/impl.Host', 'impl.Move = loop.example/g00975/impl.Move'] results ['[]int'] ('arr', [('app', 'Go.ResultVar.tmp', ['4'])])
theorem impl_MoveLeft_f (x : VHost) (v : VMove) (hx : SmHost x) : Fun Try.prog 9 [A (rHost x), A (rMove v)] (RL 1 ((moveLeft x v).map dInt)) := by
  refine Fun.of Try.func9 rfl (by simp [Try.ntmps9]) fun w g0 => ?_
  simp only [Try.ntmps9, List.length_cons, List.length_nil, Nat.reduceAdd, Nat.reduceSub, List.replicate, List.cons_append, List.nil_append]
  refine TC.seq ?_
  -- region 0
  refine TC.region ?_
  refine TL.opK rfl fun K hK => ?_
  first | refine OpT.box rfl rfl (z := 1) rfl (by simp) ?_ | refine OpT.boxAgg rfl rfl rfl ?_ -- 2
  simp only [nrm, Nat.reduceBEq, Nat.reduceBNe, reduceIte]
  refine hK _ ?_
  clear hK K
  refine TL.opK rfl fun K hK => ?_
  first | refine OpT.box rfl rfl (z := 1) rfl (by simp) ?_ | refine OpT.boxAgg rfl rfl rfl ?_ -- 3
  simp only [nrm, Nat.reduceBEq, Nat.reduceBNe, reduceIte]
  refine hK _ ?_
  clear hK K
  refine TL.vE (Val.assign 1 rfl rfl) ?_
  refine TL.nil ?_
  show TC _ _ _ _ _ _
  refine TC.seq ?_
  refine TC.seq ?_
  -- region 1
  refine TC.region ?_
  refine TL.valE rfl (by first | exact Val.field rfl rfl rfl | exact Val.fieldC rfl rfl rfl) (by simp only [St.put, List.set_cons_succ, List.set_cons_zero, List.getElem_toArray, List.getElem_cons_succ, List.getElem_cons_zero, Nat.zero_add, Nat.reduceAdd]; rfl) ?_
  refine TL.valE rfl (by first | exact Val.load rfl rfl rfl rfl rfl | exact Val.loadC rfl rfl rfl) (by simp only [nput, valC]; rfl) ?_
  refine TL.valE rfl (by first | exact Val.field rfl rfl rfl | exact Val.fieldC rfl rfl rfl) (by simp only [St.put, List.set_cons_succ, List.set_cons_zero, List.getElem_toArray, List.getElem_cons_succ, List.getElem_cons_zero, Nat.zero_add, Nat.reduceAdd]; rfl) ?_
  refine TL.valE rfl (by first | exact Val.load rfl rfl rfl rfl rfl | exact Val.loadC rfl rfl rfl) (by simp only [nput, valC]; rfl) ?_
  refine TL.vE (by first | exact Val.len rfl rfl rfl rfl | exact Val.lenS rfl rfl rfl) ?_
  refine TL.callF (yes_none rfl) rfl rfl rfl rfl rfl rfl ((impl_has_f v.M ((x.Mons.map dMon).length : Nat)).k) (by repeat first | exact .nil | refine Snaps.cons (.ro _) ?_ | refine Snaps.cons (.aggRo rfl) ?_ | refine Snaps.cons (.cptr _) ?_ | refine Snaps.cons (.fn _) ?_ | refine Snaps.cons (.ownRef rfl (by first | assumption | exact w_IntS _ | exact w_IntSS _ | exact w_SlotS _ | exact w_BoolS _ | exact w_InsS _ | exact w_GuestS _ | exact w_KeptS _ | exact w_MonS _ | exact w_EntryS _ | exact w_BareS _)) ?_ | refine Snaps.cons (.aggR (by repeat first | exact .nil | refine SnapCs.cons (.ro _) ?_ | refine SnapCs.cons (.ref rfl (by first | assumption | exact w_IntS _ | exact w_IntSS _ | exact w_SlotS _ | exact w_BoolS _ | exact w_InsS _ | exact w_GuestS _ | exact w_KeptS _ | exact w_MonS _ | exact w_EntryS _ | exact w_BareS _)) ?_)) ?_) rfl (by simp only [nput]; rfl) ?_
  refine TL.vE (Val.not rfl rfl) ?_
  refine TL.vE (Val.move 1 rfl rfl) ?_
  refine TL.splitG 7 rfl (fun hg7 => ?_) (fun hg7 => ?_)
  · iterate 4 (refine TL.skip (nope_b rfl rfl hg7) (by simp only [nput]; rfl) ?_)
    refine TL.vE (Val.pickT rfl rfl hg7 rfl) ?_
    refine TL.nil ?_
    show TC _ _ _ _ _ _
    refine TC.cond rfl (fun hb => ?_) (fun hb => absurd hb (by simp))
    refine TC.seq ?_
    have h0 : moveLeft x v = [] := by first | exact moveLeft_none (monAt_none (by simp at hg7; omega)) | exact moveLeft_off (by simp at hb; omega)
    -- region 2
    refine TC.region ?_
    refine TL.opK rfl fun K hK => ?_
    refine OpT.moveNil (.inr rfl) rfl 1 ?_
    simp only [nrm, Nat.reduceBEq, Nat.reduceBNe, reduceIte]
    refine hK _ ?_
    clear hK K
    refine TL.nil ?_
    show TC _ _ _ _ _ _
    refine TC.ret ?_
    exact ⟨.inr rfl, [_], [_], _, rfl, by decide, rfl, by simp [refV, refC, valC, C.kill, hitR], rfl, (by rw [h0]; rfl)⟩
  · refine TL.guardE rfl rfl hg7 (by first | exact Val.field rfl rfl rfl | exact Val.fieldC rfl rfl rfl) (by simp only [St.put, List.set_cons_succ, List.set_cons_zero, List.getElem_toArray, List.getElem_cons_succ, List.getElem_cons_zero, Nat.zero_add, Nat.reduceAdd]; rfl) ?_
    refine TL.guardE rfl rfl hg7 (by first | exact Val.load rfl rfl rfl rfl rfl | exact Val.loadC rfl rfl rfl) (by simp only [nput, valC]; rfl) ?_
    refine TL.gE rfl hg7 (by first | exact Val.len rfl rfl rfl rfl | exact Val.lenS rfl rfl rfl) ?_
    refine TL.gE rfl hg7 (Val.neq rfl rfl rfl) ?_
    refine TL.vE (Val.pickF rfl rfl hg7 rfl) ?_
    refine TL.nil ?_
    show TC _ _ _ _ _ _
    refine TC.cond rfl (fun hb => ?_) (fun hb => ?_)
    · have hk20 := hb
      refine TC.seq ?_
      have h0 : moveLeft x v = [] := by first | exact moveLeft_none (monAt_none (by simp at hg7; omega)) | exact moveLeft_off (by simp at hb; omega)
      -- region 2
      refine TC.region ?_
      refine TL.opK rfl fun K hK => ?_
      refine OpT.moveNil (.inr rfl) rfl 1 ?_
      simp only [nrm, Nat.reduceBEq, Nat.reduceBNe, reduceIte]
      refine hK _ ?_
      clear hK K
      refine TL.nil ?_
      show TC _ _ _ _ _ _
      refine TC.ret ?_
      exact ⟨.inr rfl, [_], [_], _, rfl, by decide, rfl, by simp [refV, refC, valC, C.kill, hitR], rfl, (by rw [h0]; rfl)⟩
    have hk20 := hb
    refine TC.skip ?_
    show TC _ _ _ _ _ _
    refine TC.seq ?_
    have hin : 0 ≤ v.M ∧ v.M < x.Mons.length := by simp at hg7; omega
    have hl8 : v.Have.length = 8 := by simp at hb; omega
    obtain ⟨z, hz⟩ := at_of (xs := x.Mons) (k := v.M.toNat) (by omega)
    have hmz := monAt_some hin.1 hz
    -- region 3
    refine TC.region ?_
    refine TL.opK rfl fun K hK => ?_
    refine OpT.build0 (sz := 1) rfl rfl rfl rfl ?_ -- 21
    simp only [nrm, Nat.reduceBEq, Nat.reduceBNe, reduceIte]
    refine hK _ ?_
    clear hK K
    refine TL.vE (Val.assign 1 rfl rfl) ?_
    refine TL.nil ?_
    show TC _ _ _ _ _ _
    refine TC.seq ?_
    -- region 4
    refine TC.region ?_
    refine TL.valE rfl (by first | exact Val.field rfl rfl rfl | exact Val.fieldC rfl rfl rfl) (by simp only [St.put, List.set_cons_succ, List.set_cons_zero, List.getElem_toArray, List.getElem_cons_succ, List.getElem_cons_zero, Nat.zero_add, Nat.reduceAdd]; rfl) ?_
    refine TL.valE rfl (by first | exact Val.load rfl rfl rfl rfl rfl | exact Val.loadC rfl rfl rfl) (by simp only [nput, valC]; rfl) ?_
    refine TL.valE rfl (by first | exact Val.field rfl rfl rfl | exact Val.fieldC rfl rfl rfl) (by simp only [St.put, List.set_cons_succ, List.set_cons_zero, List.getElem_toArray, List.getElem_cons_succ, List.getElem_cons_zero, Nat.zero_add, Nat.reduceAdd]; rfl) ?_
    refine TL.valE rfl (by first | exact Val.load rfl rfl rfl rfl rfl | exact Val.loadC rfl rfl rfl) (by simp only [nput, valC]; rfl) ?_
    refine TL.vE (by exact Val.indexC (d := dMon z) rfl rfl rfl rfl rfl (by omega) (by simp [hz])) ?_
    refine TL.valE rfl (by first | exact Val.field rfl rfl rfl | exact Val.fieldC rfl rfl rfl) (by simp only [St.put, List.set_cons_succ, List.set_cons_zero, List.getElem_toArray, List.getElem_cons_succ, List.getElem_cons_zero, Nat.zero_add, Nat.reduceAdd]; rfl) ?_
    refine TL.valE rfl (by first | exact Val.load rfl rfl rfl rfl rfl | exact Val.loadC rfl rfl rfl) (by simp only [nput, valC]; rfl) ?_
    refine TL.vE (Val.assign 1 rfl rfl) ?_
    refine TL.nil ?_
    show TC _ _ _ _ _ _
    refine TC.seq ?_
    refine TC.seq ?_
    -- region 5
    refine TC.region ?_
    refine TL.vE (Val.assign 1 rfl rfl) ?_
    refine TL.nil ?_
    show TC _ _ _ _ _ _
    refine TC.block ?_
    refine TC.loop (fun μ st => ∃ i : Nat, (i ≤ 8) ∧ μ = 8 - i ∧ Can st ⟨[.one .dead, .one .dead, .one (.ptr ⟨2, [], 0⟩), .one (.ptr ⟨3, [], 0⟩), .one .dead, .one (.c (.ref ⟨5, [], 0⟩)), L 1 (z.Dirty.map dBool), I i, .one .dead, .one .dead, .one .dead, .one .dead, .one .dead, .one .dead, .one .dead, .one .dead, .one .dead, .one .dead, .one .dead, .one .dead, .one .dead, .one .dead, .one .dead, .one .dead, .one .dead, .one .dead, .one .dead, .one .dead, .one .dead, .one .dead, .one .dead, .one .dead, .one .dead, .one .dead, .one .dead, .one .dead, .one .dead, .one .dead, .one .dead, .one .dead, .one .dead, .one .dead, .one .dead, .one .dead, .one .dead, .one .dead, .one .dead, .one .dead, .one .dead, .one .dead, .one .dead, .one .dead, .one .dead, .one .dead, .one .dead, .one .dead, .one .dead], [(5, ⟨false, [.own (.sl 1 ((leftTo z v i).map dInt))]⟩), (2, ⟨true, [.ro (.sl 1 (x.Memory.map dIntS)), .ro (.sl 9 (x.Mons.map dMon)), .ro (.sl 4 (x.Buffer.map dEntry)), .ro (.sl 4 (x.IoBuffer.map dEntry))]⟩), (3, ⟨true, [.own (.v (.int .i64 v.M)), .ro (.sl 1 (v.Have.map dIntS))]⟩)]⟩) (8) ?_ fun μ st hI => ?_
    · refine ⟨0, (by omega), by simp, ?_⟩
      exact Can.name 21 5 (by simp only [St.name, nameS, nameV, nameC, nameR, List.map_cons, List.map_nil, Nat.reduceEqDiff, if_true, if_false, ne_eq, not_true, not_false, and_true, and_false, true_and, false_and, reduceIte]; rfl) (Can.to (by repeat first | exact LessT.nil | refine LessT.drop ?_ | refine LessT.keep ?_ | refine LessT.eq (by first | rfl | (simp; done) | (simp; omega) | simp_all) ?_) (.cons rfl (by simp [leftTo]) (.cons rfl rfl (.cons rfl rfl .nil))))
    · obtain ⟨i, hyp, rfl, hcan⟩ := hI
      refine TC.can hcan ?_
      clear hcan
      refine TC.seq ?_
      refine TC.seq ?_
      -- region 6
      refine TC.region ?_
      refine TL.vE (Val.move 1 rfl rfl) ?_
      refine TL.vE (Val.lss rfl rfl rfl) ?_
      refine TL.nil ?_
      show TC _ _ _ _ _ _
      refine TC.cond rfl (fun hb => ?_) (fun hb => ?_)
      · have hk30 := hb
        refine TC.skip ?_
        show TC _ _ _ _ _ _
        refine TC.seq ?_
        refine TC.block ?_
        refine TC.seq ?_
        have hi : i < 8 := by simp at hb; omega
        obtain ⟨y, hy⟩ := at_of (xs := v.Have) (k := i) (by omega)
        -- region 8
        refine TC.region ?_
        refine TL.valE rfl (by first | exact Val.field rfl rfl rfl | exact Val.fieldC rfl rfl rfl) (by simp only [St.put, List.set_cons_succ, List.set_cons_zero, List.getElem_toArray, List.getElem_cons_succ, List.getElem_cons_zero, Nat.zero_add, Nat.reduceAdd]; rfl) ?_
        refine TL.valE rfl (by first | exact Val.load rfl rfl rfl rfl rfl | exact Val.loadC rfl rfl rfl) (by simp only [nput, valC]; rfl) ?_
        refine TL.vE (Val.move 1 rfl rfl) ?_
        refine TL.vE (by exact Val.indexC (d := dIntS y) rfl rfl rfl rfl rfl (by omega) (by simp [hy])) ?_
        refine TL.valE rfl (by first | exact Val.load rfl rfl rfl rfl rfl | exact Val.loadC rfl rfl rfl) (by simp only [nput, valC]; rfl) ?_
        refine TL.vE (by first | exact Val.len rfl rfl rfl rfl | exact Val.lenS rfl rfl rfl) ?_
        refine TL.vE (Val.eql rfl rfl rfl) ?_
        refine TL.vE (Val.move 1 rfl rfl) ?_
        refine TL.splitG 7 rfl (fun hg7 => ?_) (fun hg7 => ?_)
        · iterate 5 (refine TL.skip (nope_b rfl rfl hg7) (by simp only [nput]; rfl) ?_)
          iterate 4 (refine TL.skip (nope_u rfl rfl) (by simp only [nput]; rfl) ?_)
          refine TL.skip (nope_b rfl rfl hg7) (by simp only [nput]; rfl) ?_
          refine TL.vE (Val.pickT rfl rfl hg7 rfl) ?_
          refine TL.nil ?_
          show TC _ _ _ _ _ _
          refine TC.cond rfl (fun hb => ?_) (fun hb => absurd hb (by simp))
          -- region 9
          refine TC.region ?_
          refine TL.vE (Val.move 1 rfl rfl) ?_
          refine TL.vE (Val.move 1 rfl rfl) ?_
          refine TL.opK rfl fun K hK => ?_
          refine OpT.buildP rfl rfl (xs := [(Go.Operand.tmp 53)]) rfl rfl rfl rfl (sz := 1) rfl rfl rfl (by decide) (by decide) ?_ -- 54
          simp only [nrm, Nat.reduceBEq, Nat.reduceBNe, reduceIte]
          refine hK _ ?_
          clear hK K
          refine TL.opK rfl fun K hK => ?_
          refine OpT.appendE rfl rfl rfl (sz := 1) rfl rfl rfl (by simp [isPlain, D.row, elD, cellD]) rfl rfl rfl rfl rfl rfl rfl (by have h9 := leftTo_len z v i; simp; omega) ?_ -- 55
          simp only [nrm, Nat.reduceBEq, Nat.reduceBNe, reduceIte]
          refine hK _ ?_
          clear hK K
          refine TL.vE (Val.assign 1 rfl rfl) ?_
          refine TL.nil ?_
          show TC _ _ _ _ _ _
          -- region 7
          refine TC.region ?_
          refine TL.vE (Val.move 1 rfl rfl) ?_
          refine TL.vE (Val.add rfl rfl rfl (by first | omega | (simp only [List.length_map]; omega)) (by first | omega | (simp only [List.length_map]; omega))) ?_
          refine TL.vE (Val.assign 1 rfl rfl) ?_
          refine TL.nil ?_
          first
          | (first | refine Seq.normal ⟨_, ?_, i + 1, ?_, rfl, ?_⟩ | refine Seq.normal (Q := fun _ _ => True) ⟨_, ?_, i + 1, ?_, rfl, ?_⟩
             · omega
             · omega
             · (have hly := left_yes (x := z) (v := v) (i := i) (by unfold leftAt; rw [hy]; first | (simp at hg7; simp [hg7]; done) | (rw [hd]; simp [hb]; done)); refine @Can.name _ _ _ 55 5 (by simp only [St.name, nameS, nameV, nameC, nameR, List.map_cons, List.map_nil, Nat.reduceEqDiff, if_true, if_false, ne_eq, not_true, not_false, and_true, and_false, true_and, false_and, reduceIte]; rfl) ?_ (by decide); refine @Can.to _ _ _ _ (by repeat first | exact LessT.nil | refine LessT.drop ?_ | refine LessT.keep ?_ | refine LessT.eq (by first | rfl | (simp; done) | (simp; omega) | simp_all) ?_) (.cons rfl (by simp [elD, cellD, hly]) (.cons rfl rfl (.cons rfl rfl .nil)))))
        · refine TL.gE rfl hg7 (Val.move 1 rfl rfl) ?_
          refine TL.gE rfl hg7 (Val.move 1 rfl rfl) ?_
          refine TL.gE rfl hg7 (by first | exact Val.len rfl rfl rfl rfl | exact Val.lenS rfl rfl rfl) ?_
          refine TL.callF (yes_some rfl rfl hg7) rfl rfl rfl rfl rfl rfl ((impl_has_f i ((z.Dirty.map dBool).length : Nat)).k) (by repeat first | exact .nil | refine Snaps.cons (.ro _) ?_ | refine Snaps.cons (.aggRo rfl) ?_ | refine Snaps.cons (.cptr _) ?_ | refine Snaps.cons (.fn _) ?_ | refine Snaps.cons (.ownRef rfl (by first | assumption | exact w_IntS _ | exact w_IntSS _ | exact w_SlotS _ | exact w_BoolS _ | exact w_InsS _ | exact w_GuestS _ | exact w_KeptS _ | exact w_MonS _ | exact w_EntryS _ | exact w_BareS _)) ?_ | refine Snaps.cons (.aggR (by repeat first | exact .nil | refine SnapCs.cons (.ro _) ?_ | refine SnapCs.cons (.ref rfl (by first | assumption | exact w_IntS _ | exact w_IntSS _ | exact w_SlotS _ | exact w_BoolS _ | exact w_InsS _ | exact w_GuestS _ | exact w_KeptS _ | exact w_MonS _ | exact w_EntryS _ | exact w_BareS _)) ?_)) ?_) rfl (by simp only [nput]; rfl) ?_
          refine TL.gE rfl hg7 (Val.move 1 rfl rfl) ?_
          refine TL.splitG 12 rfl (fun hg12 => ?_) (fun hg12 => ?_)
          · have h12 : i < z.Dirty.length := by simp at hg12; omega
            obtain ⟨d, hd⟩ := at_of (xs := z.Dirty) (k := i) h12
            refine TL.gE rfl hg12 (Val.move 1 rfl rfl) ?_
            refine TL.gE rfl hg12 (Val.move 1 rfl rfl) ?_
            refine TL.gE rfl hg12 (by exact Val.indexC (d := dBool d) rfl rfl rfl rfl rfl (by omega) (by simp [hd])) ?_
            refine TL.guardE rfl rfl hg12 (by first | exact Val.load rfl rfl rfl rfl rfl | exact Val.loadC rfl rfl rfl) (by simp only [nput, valC]; rfl) ?_
            refine TL.gE rfl hg7 (Val.pickT rfl rfl hg12 rfl) ?_
            refine TL.vE (Val.pickF rfl rfl hg7 rfl) ?_
            refine TL.nil ?_
            show TC _ _ _ _ _ _
            refine TC.cond rfl (fun hb => ?_) (fun hb => ?_)
            · have hk51 := hb
              -- region 9
              refine TC.region ?_
              refine TL.vE (Val.move 1 rfl rfl) ?_
              refine TL.vE (Val.move 1 rfl rfl) ?_
              refine TL.opK rfl fun K hK => ?_
              refine OpT.buildP rfl rfl (xs := [(Go.Operand.tmp 53)]) rfl rfl rfl rfl (sz := 1) rfl rfl rfl (by decide) (by decide) ?_ -- 54
              simp only [nrm, Nat.reduceBEq, Nat.reduceBNe, reduceIte]
              refine hK _ ?_
              clear hK K
              refine TL.opK rfl fun K hK => ?_
              refine OpT.appendE rfl rfl rfl (sz := 1) rfl rfl rfl (by simp [isPlain, D.row, elD, cellD]) rfl rfl rfl rfl rfl rfl rfl (by have h9 := leftTo_len z v i; simp; omega) ?_ -- 55
              simp only [nrm, Nat.reduceBEq, Nat.reduceBNe, reduceIte]
              refine hK _ ?_
              clear hK K
              refine TL.vE (Val.assign 1 rfl rfl) ?_
              refine TL.nil ?_
              show TC _ _ _ _ _ _
              -- region 7
              refine TC.region ?_
              refine TL.vE (Val.move 1 rfl rfl) ?_
              refine TL.vE (Val.add rfl rfl rfl (by first | omega | (simp only [List.length_map]; omega)) (by first | omega | (simp only [List.length_map]; omega))) ?_
              refine TL.vE (Val.assign 1 rfl rfl) ?_
              refine TL.nil ?_
              first
              | (first | refine Seq.normal ⟨_, ?_, i + 1, ?_, rfl, ?_⟩ | refine Seq.normal (Q := fun _ _ => True) ⟨_, ?_, i + 1, ?_, rfl, ?_⟩
                 · omega
                 · omega
                 · (have hly := left_yes (x := z) (v := v) (i := i) (by unfold leftAt; rw [hy]; first | (simp at hg7; simp [hg7]; done) | (rw [hd]; simp [hb]; done)); refine @Can.name _ _ _ 55 5 (by simp only [St.name, nameS, nameV, nameC, nameR, List.map_cons, List.map_nil, Nat.reduceEqDiff, if_true, if_false, ne_eq, not_true, not_false, and_true, and_false, true_and, false_and, reduceIte]; rfl) ?_ (by decide); refine @Can.to _ _ _ _ (by repeat first | exact LessT.nil | refine LessT.drop ?_ | refine LessT.keep ?_ | refine LessT.eq (by first | rfl | (simp; done) | (simp; omega) | simp_all) ?_) (.cons rfl (by simp [elD, cellD, hly]) (.cons rfl rfl (.cons rfl rfl .nil)))))
            have hk51 := hb
            refine TC.skip ?_
            show TC _ _ _ _ _ _
            -- region 7
            refine TC.region ?_
            refine TL.vE (Val.move 1 rfl rfl) ?_
            refine TL.vE (Val.add rfl rfl rfl (by first | omega | (simp only [List.length_map]; omega)) (by first | omega | (simp only [List.length_map]; omega))) ?_
            refine TL.vE (Val.assign 1 rfl rfl) ?_
            refine TL.nil ?_
            first
            | (first | refine Seq.normal ⟨_, ?_, i + 1, ?_, rfl, ?_⟩ | refine Seq.normal (Q := fun _ _ => True) ⟨_, ?_, i + 1, ?_, rfl, ?_⟩
               · omega
               · omega
               · (have hly := left_no (x := z) (v := v) (i := i) (by unfold leftAt; rw [hy]; simp at hg7; first | (rw [hd]; simp [hb, hg7]; done) | (rw [List.getElem?_eq_none (by simp at hg12; omega)]; simp [hg7]; done)); refine @Can.to _ _ _ _ (by repeat first | exact LessT.nil | refine LessT.drop ?_ | refine LessT.keep ?_ | refine LessT.eq (by first | rfl | (simp; done) | (simp; omega) | simp_all) ?_) (.cons rfl (by simp [hly]) (.cons rfl rfl (.cons rfl rfl .nil)))))
          · iterate 4 (refine TL.skip (nope_b rfl rfl hg12) (by simp only [nput]; rfl) ?_)
            refine TL.gE rfl hg7 (Val.pickF rfl rfl hg12 rfl) ?_
            refine TL.vE (Val.pickF rfl rfl hg7 rfl) ?_
            refine TL.nil ?_
            show TC _ _ _ _ _ _
            refine TC.cond rfl (fun hb => absurd hb (by simp)) (fun hb => ?_)
            refine TC.skip ?_
            show TC _ _ _ _ _ _
            -- region 7
            refine TC.region ?_
            refine TL.vE (Val.move 1 rfl rfl) ?_
            refine TL.vE (Val.add rfl rfl rfl (by first | omega | (simp only [List.length_map]; omega)) (by first | omega | (simp only [List.length_map]; omega))) ?_
            refine TL.vE (Val.assign 1 rfl rfl) ?_
            refine TL.nil ?_
            first
            | (first | refine Seq.normal ⟨_, ?_, i + 1, ?_, rfl, ?_⟩ | refine Seq.normal (Q := fun _ _ => True) ⟨_, ?_, i + 1, ?_, rfl, ?_⟩
               · omega
               · omega
               · (have hly := left_no (x := z) (v := v) (i := i) (by unfold leftAt; rw [hy]; simp at hg7; first | (rw [hd]; simp [hb, hg7]; done) | (rw [List.getElem?_eq_none (by simp at hg12; omega)]; simp [hg7]; done)); refine @Can.to _ _ _ _ (by repeat first | exact LessT.nil | refine LessT.drop ?_ | refine LessT.keep ?_ | refine LessT.eq (by first | rfl | (simp; done) | (simp; omega) | simp_all) ?_) (.cons rfl (by simp [hly]) (.cons rfl rfl (.cons rfl rfl .nil)))))
      have hk30 := hb
      refine TC.exit ?_
      -- exit 0
      show TC _ _ _ _ _ _
      refine TC.seq ?_
      obtain rfl : i = 8 := by simp at hb; omega
      have h0 := moveLeft_full hmz hl8
      -- region 10
      refine TC.region ?_
      refine TL.vE (Val.move 1 rfl rfl) ?_
      refine TL.vE (Val.assign 1 rfl rfl) ?_
      refine TL.nil ?_
      show TC _ _ _ _ _ _
      refine TC.ret ?_
      exact ⟨.inr rfl, [_], [_], _, rfl, by decide, rfl, by simp [refV, refC, valC, C.kill, hitR], rfl, (by rw [h0]; rfl)⟩
end Go.Proofs.Ytldollgpolklpaa.T

