/- The functions that draw. PRINTED by gen.py out of spec_draw.py. -/
import Derived.Test.YtdlpmcjpbcbbjaaDoorT3
import Derived.Test.YtdlpmcjpbcbbjaaDoorXk
import Derived.Test.YtdlpmcjpbcbbjaaDoorXg
import Derived.Test.YtdlpmcjpbcbbjaaDoorWg
namespace Go.Proofs.YtdlpmcjpbcbbjaaDoor.T
open Go
set_option linter.unusedVariables false
set_option linter.unusedSimpArgs false
set_option maxRecDepth 100000
set_option maxHeartbeats 1000000

theorem rdIns (a b : Int) {r : Res} (h : r = ⟨[], fun _ => .one (.agg [.ro (.v (.int .i64 a)), .ro (.v (.int .i64 b))])⟩) : RDr (fun x : VIns => A (rIns x)) (fun _ => True) r := ⟨⟨a, b⟩, trivial, h⟩
theorem rdCtl (a b : Int) (c : Bool) {r : Res} (h : r = ⟨[], fun _ => .one (.agg [.ro (.v (.int .i64 a)), .ro (.v (.int .i64 b)), .ro (.v (.bool c))])⟩) : RDr (fun x : VCtl => A (rCtl x)) (fun _ => True) r := ⟨⟨a, b, c⟩, trivial, h⟩
theorem rdAct (a b c d e f : Int) {r : Res} (h : r = ⟨[], fun _ => .one (.agg [.ro (.v (.int .i64 a)), .ro (.v (.int .i64 b)), .ro (.v (.int .i64 c)), .ro (.v (.int .i64 d)), .ro (.v (.int .i64 e)), .ro (.v (.int .i64 f))])⟩) :
    RDr (fun x : VAct => A (rAct x)) (fun _ => True) r := ⟨⟨a, b, c, d, e, f⟩, trivial, h⟩
-- loop.example/g00975/spec.l01Below: params ['*spec.l01Cur', 'int'] results ['int'] ('arr', [('app', 'Go.ResultVar.tmp', ['4'])])
theorem spec_l01Below_c {ds : List D} (hby : isBytes ds) (hn : ds.length ≤ 1048576) (m : Int) (hm : 0 < m) : FunC Tryd.prog 43 ds [.one (.ptr ⟨pinB, [], 0⟩), I m] (RDr I (fun z => 0 ≤ z ∧ z < m)) := by
  refine FunC.of Tryd.func43 rfl (by simp [Tryd.ntmps43]) fun w g0 ci0 ch0 hci0 => ?_
  simp only [Tryd.ntmps43, List.length_cons, List.length_nil, Nat.reduceAdd, Nat.reduceSub, List.replicate, List.cons_append, List.nil_append, stC, cur3, refP, pinB, pinK]
  refine TC.seq ?_
  -- region 0
  refine TC.region ?_
  refine TL.vE (Val.assign 1 rfl rfl) ?_
  refine TL.nil ?_
  show TC _ _ _ _ _ _
  refine TC.seq ?_
  refine TC.seq ?_
  -- region 1
  refine TC.region ?_
  refine TL.vE (Val.move 1 rfl rfl) ?_
  refine TL.vE (Val.leq rfl rfl rfl) ?_
  refine TL.nil ?_
  show TC _ _ _ _ _ _
  refine TC.cond rfl (fun hb => ?_) (fun hb => ?_)
  · have hk10 := hb
    refine TC.seq ?_
    (exfalso; simp at hb; omega)
  have hk10 := hb
  refine TC.skip ?_
  show TC _ _ _ _ _ _
  refine TC.seq ?_
  refine TC.seq ?_
  -- region 3
  refine TC.region ?_
  refine TL.vE (Val.move 1 rfl rfl) ?_
  refine TL.vE (Val.leq rfl rfl rfl) ?_
  refine TL.nil ?_
  show TC _ _ _ _ _ _
  refine TC.cond rfl (fun hb => ?_) (fun hb => ?_)
  · have hk12 := hb
    refine TC.seq ?_
    -- region 4
    refine TC.region ?_
    refine TL.vE (Val.move 1 rfl rfl) ?_
    refine TL.drawP (yes_none rfl) rfl rfl rfl rfl rfl (K := 1000001) rfl (by first | exact .inl rfl | exact .inr ⟨rfl, by decide, rfl⟩) (by first | assumption | omega) (by repeat first | exact .nil | refine SnapsD.cons .cur ?_ | refine SnapsD.cons (.ro _) ?_ | refine SnapsD.cons (.aggRo _) ?_ | refine SnapsD.cons (.ref _ _ rfl (by first | assumption | exact whole_map _ _ (fun w c hc => by simp only [D.row, List.mem_cons, List.not_mem_nil, or_false] at hc; subst hc; exact .v _)) (by decide)) ?_) (spec_l01Byte_c hby hn) (fun x => ⟨_, rfl⟩) (fun x i' h' => by simp only [St.curC, cur3, refP, pinK, pinB]; simp only [nrm, Nat.reduceBEq, Nat.reduceBNe, reduceIte]; rfl) fun x14 ci14 ch14 hp14 hci14 => ?_
    refine TL.vE (Val.move 1 rfl rfl) ?_
    refine TL.vE (by exact Val.rem rfl rfl rfl (by omega)) ?_
    refine TL.vE (Val.assign 1 rfl rfl) ?_
    refine TL.nil ?_
    show TC _ _ _ _ _ _
    refine TC.ret ?_
    exact ⟨.inr rfl, [_], [_], _, _, _, rfl, by decide, rfl, by simp [refV, refC, valC], rfl, rfl, by assumption, ⟨_, (by first | exact ⟨Int.tmod_nonneg _ (by omega), Int.tmod_lt_of_pos _ (by omega)⟩), rfl⟩⟩
  have hk12 := hb
  refine TC.skip ?_
  show TC _ _ _ _ _ _
  refine TC.seq ?_
  -- region 5
  refine TC.region ?_
  refine TL.vE (Val.move 1 rfl rfl) ?_
  refine TL.drawP (yes_none rfl) rfl rfl rfl rfl rfl (K := 1000001) rfl (by first | exact .inl rfl | exact .inr ⟨rfl, by decide, rfl⟩) (by first | assumption | omega) (by repeat first | exact .nil | refine SnapsD.cons .cur ?_ | refine SnapsD.cons (.ro _) ?_ | refine SnapsD.cons (.aggRo _) ?_ | refine SnapsD.cons (.ref _ _ rfl (by first | assumption | exact whole_map _ _ (fun w c hc => by simp only [D.row, List.mem_cons, List.not_mem_nil, or_false] at hc; subst hc; exact .v _)) (by decide)) ?_) (spec_l01Byte_c hby hn) (fun x => ⟨_, rfl⟩) (fun x i' h' => by simp only [St.curC, cur3, refP, pinK, pinB]; simp only [nrm, Nat.reduceBEq, Nat.reduceBNe, reduceIte]; rfl) fun x18 ci18 ch18 hp18 hci18 => ?_
  refine TL.vE (Val.assign 1 rfl rfl) ?_
  refine TL.nil ?_
  show TC _ _ _ _ _ _
  refine TC.seq ?_
  -- region 6
  refine TC.region ?_
  refine TL.vE (Val.move 1 rfl rfl) ?_
  refine TL.drawP (yes_none rfl) rfl rfl rfl rfl rfl (K := 1000001) rfl (by first | exact .inl rfl | exact .inr ⟨rfl, by decide, rfl⟩) (by first | assumption | omega) (by repeat first | exact .nil | refine SnapsD.cons .cur ?_ | refine SnapsD.cons (.ro _) ?_ | refine SnapsD.cons (.aggRo _) ?_ | refine SnapsD.cons (.ref _ _ rfl (by first | assumption | exact whole_map _ _ (fun w c hc => by simp only [D.row, List.mem_cons, List.not_mem_nil, or_false] at hc; subst hc; exact .v _)) (by decide)) ?_) (spec_l01Byte_c hby hn) (fun x => ⟨_, rfl⟩) (fun x i' h' => by simp only [St.curC, cur3, refP, pinK, pinB]; simp only [nrm, Nat.reduceBEq, Nat.reduceBNe, reduceIte]; rfl) fun x20 ci20 ch20 hp20 hci20 => ?_
  refine TL.vE (Val.assign 1 rfl rfl) ?_
  refine TL.nil ?_
  show TC _ _ _ _ _ _
  refine TC.seq ?_
  -- region 7
  refine TC.region ?_
  refine TL.vE (Val.move 1 rfl rfl) ?_
  refine TL.drawP (yes_none rfl) rfl rfl rfl rfl rfl (K := 1000001) rfl (by first | exact .inl rfl | exact .inr ⟨rfl, by decide, rfl⟩) (by first | assumption | omega) (by repeat first | exact .nil | refine SnapsD.cons .cur ?_ | refine SnapsD.cons (.ro _) ?_ | refine SnapsD.cons (.aggRo _) ?_ | refine SnapsD.cons (.ref _ _ rfl (by first | assumption | exact whole_map _ _ (fun w c hc => by simp only [D.row, List.mem_cons, List.not_mem_nil, or_false] at hc; subst hc; exact .v _)) (by decide)) ?_) (spec_l01Byte_c hby hn) (fun x => ⟨_, rfl⟩) (fun x i' h' => by simp only [St.curC, cur3, refP, pinK, pinB]; simp only [nrm, Nat.reduceBEq, Nat.reduceBNe, reduceIte]; rfl) fun x22 ci22 ch22 hp22 hci22 => ?_
  refine TL.vE (Val.assign 1 rfl rfl) ?_
  refine TL.nil ?_
  show TC _ _ _ _ _ _
  refine TC.seq ?_
  -- region 8
  refine TC.region ?_
  refine TL.vE (Val.move 1 rfl rfl) ?_
  refine TL.drawP (yes_none rfl) rfl rfl rfl rfl rfl (K := 1000001) rfl (by first | exact .inl rfl | exact .inr ⟨rfl, by decide, rfl⟩) (by first | assumption | omega) (by repeat first | exact .nil | refine SnapsD.cons .cur ?_ | refine SnapsD.cons (.ro _) ?_ | refine SnapsD.cons (.aggRo _) ?_ | refine SnapsD.cons (.ref _ _ rfl (by first | assumption | exact whole_map _ _ (fun w c hc => by simp only [D.row, List.mem_cons, List.not_mem_nil, or_false] at hc; subst hc; exact .v _)) (by decide)) ?_) (spec_l01Byte_c hby hn) (fun x => ⟨_, rfl⟩) (fun x i' h' => by simp only [St.curC, cur3, refP, pinK, pinB]; simp only [nrm, Nat.reduceBEq, Nat.reduceBNe, reduceIte]; rfl) fun x24 ci24 ch24 hp24 hci24 => ?_
  refine TL.vE (Val.assign 1 rfl rfl) ?_
  refine TL.nil ?_
  show TC _ _ _ _ _ _
  refine TC.seq ?_
  -- region 9
  refine TC.region ?_
  refine TL.vE (Val.move 1 rfl rfl) ?_
  refine TL.vE (Val.mul rfl rfl rfl (by first | omega | (simp only [List.length_map]; omega)) (by first | omega | (simp only [List.length_map]; omega))) ?_
  refine TL.vE (Val.move 1 rfl rfl) ?_
  refine TL.vE (Val.mul rfl rfl rfl (by first | omega | (simp only [List.length_map]; omega)) (by first | omega | (simp only [List.length_map]; omega))) ?_
  refine TL.vE (Val.add rfl rfl rfl (by first | omega | (simp only [List.length_map]; omega)) (by first | omega | (simp only [List.length_map]; omega))) ?_
  refine TL.vE (Val.move 1 rfl rfl) ?_
  refine TL.vE (Val.mul rfl rfl rfl (by first | omega | (simp only [List.length_map]; omega)) (by first | omega | (simp only [List.length_map]; omega))) ?_
  refine TL.vE (Val.add rfl rfl rfl (by first | omega | (simp only [List.length_map]; omega)) (by first | omega | (simp only [List.length_map]; omega))) ?_
  refine TL.vE (Val.move 1 rfl rfl) ?_
  refine TL.vE (Val.add rfl rfl rfl (by first | omega | (simp only [List.length_map]; omega)) (by first | omega | (simp only [List.length_map]; omega))) ?_
  refine TL.vE (Val.move 1 rfl rfl) ?_
  refine TL.vE (by exact Val.rem rfl rfl rfl (by omega)) ?_
  refine TL.vE (Val.assign 1 rfl rfl) ?_
  refine TL.nil ?_
  show TC _ _ _ _ _ _
  refine TC.ret ?_
  exact ⟨.inr rfl, [_], [_], _, _, _, rfl, by decide, rfl, by simp [refV, refC, valC], rfl, rfl, by assumption, ⟨_, (by first | exact ⟨Int.tmod_nonneg _ (by omega), Int.tmod_lt_of_pos _ (by omega)⟩), rfl⟩⟩

-- loop.example/g00975/spec.l01Once: params ['*spec.l01Cur', 'int'] results ['bool'] ('arr', [('app', 'Go.ResultVar.tmp', ['4'])])
theorem spec_l01Once_c {ds : List D} (hby : isBytes ds) (hn : ds.length ≤ 1048576) (m : Int) (hm : 0 < m) : FunC Tryd.prog 82 ds [.one (.ptr ⟨pinB, [], 0⟩), I m] (RDr B (fun _ => True)) := by
  refine FunC.of Tryd.func82 rfl (by simp [Tryd.ntmps82]) fun w g0 ci0 ch0 hci0 => ?_
  simp only [Tryd.ntmps82, List.length_cons, List.length_nil, Nat.reduceAdd, Nat.reduceSub, List.replicate, List.cons_append, List.nil_append, stC, cur3, refP, pinB, pinK]
  refine TC.seq ?_
  -- region 0
  refine TC.region ?_
  refine TL.vE (Val.assign 1 rfl rfl) ?_
  refine TL.nil ?_
  show TC _ _ _ _ _ _
  refine TC.seq ?_
  -- region 1
  refine TC.region ?_
  refine TL.vE (Val.move 1 rfl rfl) ?_
  refine TL.vE (Val.move 1 rfl rfl) ?_
  refine TL.drawP (yes_none rfl) rfl rfl rfl rfl rfl (K := 1000001) rfl (by first | exact .inl rfl | exact .inr ⟨rfl, by decide, rfl⟩) (by first | assumption | omega) (by repeat first | exact .nil | refine SnapsD.cons .cur ?_ | refine SnapsD.cons (.ro _) ?_ | refine SnapsD.cons (.aggRo _) ?_ | refine SnapsD.cons (.ref _ _ rfl (by first | assumption | exact whole_map _ _ (fun w c hc => by simp only [D.row, List.mem_cons, List.not_mem_nil, or_false] at hc; subst hc; exact .v _)) (by decide)) ?_) (spec_l01Below_c hby hn m hm) (fun x => ⟨_, rfl⟩) (fun x i' h' => by simp only [St.curC, cur3, refP, pinK, pinB]; simp only [nrm, Nat.reduceBEq, Nat.reduceBNe, reduceIte]; rfl) fun x7 ci7 ch7 hp7 hci7 => ?_
  refine TL.vE (Val.eql rfl rfl rfl) ?_
  refine TL.vE (Val.assign 1 rfl rfl) ?_
  refine TL.nil ?_
  show TC _ _ _ _ _ _
  refine TC.ret ?_
  exact ⟨.inr rfl, [_], [_], _, _, _, rfl, by decide, rfl, by simp [refV, refC, valC], rfl, rfl, by assumption, ⟨_, trivial, rfl⟩⟩

-- loop.example/g00975/spec.l01PickInt: params ['*spec.l01Cur', '[]int'] results ['int'] ('arr', [('app', 'Go.ResultVar.tmp', ['4'])])
theorem spec_l01PickInt_c {ds : List D} (hby : isBytes ds) (hn : ds.length ≤ 1048576) (xs : List Int) (h1 : 0 < xs.length) (h2 : xs.length ≤ 1000) : FunC Tryd.prog 116 ds [.one (.ptr ⟨pinB, [], 0⟩), L 1 (xs.map dInt)] (RDr I (fun z => z ∈ xs)) := by
  refine FunC.of Tryd.func116 rfl (by simp [Tryd.ntmps116]) fun w g0 ci0 ch0 hci0 => ?_
  simp only [Tryd.ntmps116, List.length_cons, List.length_nil, Nat.reduceAdd, Nat.reduceSub, List.replicate, List.cons_append, List.nil_append, stC, cur3, refP, pinB, pinK]
  refine TC.seq ?_
  -- region 0
  refine TC.region ?_
  refine TL.vE (Val.assign 1 rfl rfl) ?_
  refine TL.nil ?_
  show TC _ _ _ _ _ _
  refine TC.seq ?_
  -- region 1
  refine TC.region ?_
  refine TL.vE (Val.move 1 rfl rfl) ?_
  refine TL.vE (Val.move 1 rfl rfl) ?_
  refine TL.vE (Val.move 1 rfl rfl) ?_
  refine TL.vE (by exact by first | exact Val.len rfl rfl rfl rfl) ?_
  refine TL.drawP (yes_none rfl) rfl rfl rfl rfl rfl (K := 1000001) rfl (by first | exact .inl rfl | exact .inr ⟨rfl, by decide, rfl⟩) (by first | assumption | omega) (by repeat first | exact .nil | refine SnapsD.cons .cur ?_ | refine SnapsD.cons (.ro _) ?_ | refine SnapsD.cons (.aggRo _) ?_ | refine SnapsD.cons (.ref _ _ rfl (by first | assumption | exact whole_map _ _ (fun w c hc => by simp only [D.row, List.mem_cons, List.not_mem_nil, or_false] at hc; subst hc; exact .v _)) (by decide)) ?_) (spec_l01Below_c hby hn ((xs.map dInt).length : Nat) (by simp; omega)) (fun x => ⟨_, rfl⟩) (fun x i' h' => by simp only [St.curC, cur3, refP, pinK, pinB]; simp only [nrm, Nat.reduceBEq, Nat.reduceBNe, reduceIte]; rfl) fun x9 ci9 ch9 hp9 hci9 => ?_
  obtain ⟨x, hx1⟩ := at_of (xs := xs) (k := x9.toNat) (by simp at hp9; omega)
  refine TL.vE (Val.indexC (d := .v (.int .i64 x)) rfl rfl rfl rfl rfl (by omega) (by simp [hx1])) ?_
  refine TL.valE rfl (by first | exact Val.load rfl rfl rfl rfl rfl | exact Val.loadC rfl rfl rfl) (by simp only [nput, valC]; rfl) ?_
  refine TL.vE (Val.assign 1 rfl rfl) ?_
  refine TL.nil ?_
  show TC _ _ _ _ _ _
  refine TC.ret ?_
  exact ⟨.inr rfl, [_], [_], _, _, _, rfl, by decide, rfl, by simp [refV, refC, valC], rfl, rfl, by assumption, ⟨x, List.mem_of_getElem? hx1, rfl⟩⟩

-- loop.example/g00975/spec.l01Pick: params ['*spec.l01Cur', '[]string'] results ['string'] ('arr', [('app', 'Go.ResultVar.tmp', ['4'])])
theorem spec_l01Pick_c {ds : List D} (hby : isBytes ds) (hn : ds.length ≤ 1048576) (xs : List ByteArray) (h1 : 0 < xs.length) (h2 : xs.length ≤ 1000) : FunC Tryd.prog 83 ds [.one (.ptr ⟨pinB, [], 0⟩), L 1 (xs.map fun w => .v (.string w))] (RDr S (fun z => z ∈ xs)) := by
  refine FunC.of Tryd.func83 rfl (by simp [Tryd.ntmps83]) fun w g0 ci0 ch0 hci0 => ?_
  simp only [Tryd.ntmps83, List.length_cons, List.length_nil, Nat.reduceAdd, Nat.reduceSub, List.replicate, List.cons_append, List.nil_append, stC, cur3, refP, pinB, pinK]
  refine TC.seq ?_
  -- region 0
  refine TC.region ?_
  refine TL.vE (Val.assign 1 rfl rfl) ?_
  refine TL.nil ?_
  show TC _ _ _ _ _ _
  refine TC.seq ?_
  -- region 1
  refine TC.region ?_
  refine TL.vE (Val.move 1 rfl rfl) ?_
  refine TL.vE (Val.move 1 rfl rfl) ?_
  refine TL.vE (Val.move 1 rfl rfl) ?_
  refine TL.vE (by exact by first | exact Val.len rfl rfl rfl rfl) ?_
  refine TL.drawP (yes_none rfl) rfl rfl rfl rfl rfl (K := 1000001) rfl (by first | exact .inl rfl | exact .inr ⟨rfl, by decide, rfl⟩) (by first | assumption | omega) (by repeat first | exact .nil | refine SnapsD.cons .cur ?_ | refine SnapsD.cons (.ro _) ?_ | refine SnapsD.cons (.aggRo _) ?_ | refine SnapsD.cons (.ref _ _ rfl (by first | assumption | exact whole_map _ _ (fun w c hc => by simp only [D.row, List.mem_cons, List.not_mem_nil, or_false] at hc; subst hc; exact .v _)) (by decide)) ?_) (spec_l01Below_c hby hn ((xs.map (fun w => (.v (.string w) : D))).length : Nat) (by simp; omega)) (fun x => ⟨_, rfl⟩) (fun x i' h' => by simp only [St.curC, cur3, refP, pinK, pinB]; simp only [nrm, Nat.reduceBEq, Nat.reduceBNe, reduceIte]; rfl) fun x9 ci9 ch9 hp9 hci9 => ?_
  obtain ⟨x, hx1⟩ := at_of (xs := xs) (k := x9.toNat) (by simp at hp9; omega)
  refine TL.vE (Val.indexC (d := .v (.string x)) rfl rfl rfl rfl rfl (by omega) (by simp [hx1])) ?_
  refine TL.valE rfl (by first | exact Val.load rfl rfl rfl rfl rfl | exact Val.loadC rfl rfl rfl) (by simp only [nput, valC]; rfl) ?_
  refine TL.vE (Val.assign 1 rfl rfl) ?_
  refine TL.nil ?_
  show TC _ _ _ _ _ _
  refine TC.ret ?_
  exact ⟨.inr rfl, [_], [_], _, _, _, rfl, by decide, rfl, by simp [refV, refC, valC], rfl, rfl, by assumption, ⟨x, List.mem_of_getElem? hx1, rfl⟩⟩

-- loop.example/g00975/spec.l10Ins: params ['*spec.l01Cur'] results ['impl.Ins = loop.example/g00975/impl.Ins'] ('arr', [('app', 'Go.ResultVar.cell', ['2', '66'])])
theorem spec_l10Ins_c {ds : List D} (hby : isBytes ds) (hn : ds.length ≤ 1048576)  : FunC Tryd.prog 115 ds [.one (.ptr ⟨pinB, [], 0⟩)] (RDr (fun x : VIns => A (rIns x)) (fun _ => True)) := by
  refine FunC.of Tryd.func115 rfl (by simp [Tryd.ntmps115]) fun w g0 ci0 ch0 hci0 => ?_
  simp only [Tryd.ntmps115, List.length_cons, List.length_nil, Nat.reduceAdd, Nat.reduceSub, List.replicate, List.cons_append, List.nil_append, stC, cur3, refP, pinB, pinK]
  refine TC.seq ?_
  -- region 0
  refine TC.region ?_
  refine TL.opK rfl fun K hK => ?_
  refine OpT.alloc rfl rfl rfl rfl rfl rfl ?_ -- 2
  simp only [nrm, Nat.reduceBEq, Nat.reduceBNe, reduceIte]
  refine hK _ ?_
  clear hK K
  refine TL.nil ?_
  show TC _ _ _ _ _ _
  refine TC.seq ?_
  -- region 1
  refine TC.region ?_
  refine TL.vE (Val.move 1 rfl rfl) ?_
  refine TL.opK rfl fun K hK => ?_
  refine OpT.buildP rfl rfl (xs := [(Go.Operand.const (Go.Value.int Go.IntKind.i64 1)), (Go.Operand.const (Go.Value.int Go.IntKind.i64 2)), (Go.Operand.const (Go.Value.int Go.IntKind.i64 3)), (Go.Operand.const (Go.Value.int Go.IntKind.i64 3)), (Go.Operand.const (Go.Value.int Go.IntKind.i64 3)), (Go.Operand.const (Go.Value.int Go.IntKind.i64 4)), (Go.Operand.const (Go.Value.int Go.IntKind.i64 4)), (Go.Operand.const (Go.Value.int Go.IntKind.i64 4)), (Go.Operand.const (Go.Value.int Go.IntKind.i64 5)), (Go.Operand.const (Go.Value.int Go.IntKind.i64 6)), (Go.Operand.const (Go.Value.int Go.IntKind.i64 8))]) rfl rfl rfl rfl (sz := 1) rfl rfl rfl (by decide) (by decide) ?_ -- 5
  simp only [nrm, Nat.reduceBEq, Nat.reduceBNe, reduceIte]
  refine hK _ ?_
  clear hK K
  refine TL.drawP (yes_none rfl) rfl rfl rfl rfl rfl (K := 1000001) rfl (by first | exact .inl rfl | exact .inr ⟨rfl, by decide, rfl⟩) (by first | assumption | omega) (by repeat first | exact .nil | refine SnapsD.cons .cur ?_ | refine SnapsD.cons (.ro _) ?_ | refine SnapsD.cons (.aggRo _) ?_ | refine SnapsD.cons (.ref _ _ rfl (by first | assumption | exact whole_map _ _ (fun w c hc => by simp only [D.row, List.mem_cons, List.not_mem_nil, or_false] at hc; subst hc; exact .v _)) (by decide)) ?_) (spec_l01PickInt_c hby hn [1, 2, 3, 3, 3, 4, 4, 4, 5, 6, 8] (by decide) (by decide)) (fun x => ⟨_, rfl⟩) (fun x i' h' => by simp only [St.curC, cur3, refP, pinK, pinB]; simp only [nrm, Nat.reduceBEq, Nat.reduceBNe, reduceIte]; rfl) fun x6 ci6 ch6 hp6 hci6 => ?_
  refine TL.vE (Val.build (parts := [(0, (Go.Operand.tmp 6))]) (place := [(0, 1), (1, 1)]) rfl rfl rfl rfl rfl rfl rfl rfl rfl (by simp [fillC]; rfl)) ?_
  refine TL.opK rfl fun K hK => ?_
  refine OpT.alloc rfl rfl rfl rfl rfl rfl ?_ -- 3
  simp only [nrm, Nat.reduceBEq, Nat.reduceBNe, reduceIte]
  refine hK _ ?_
  clear hK K
  refine TL.opK rfl fun K hK => ?_
  refine OpT.storeAgg rfl rfl rfl rfl rfl rfl (by simp [St.store1, St.storeAll, St.cellAt, St.isMem, St.root, St.wrote, St.kill, St.setRoot, TS.kill, TV.kill, C.kill, Rt.kill, hitR, hitP, shapeOf, setRow, setAt, rowAt, D.row, D.reRow, List.isPrefixOf]; rfl) ?_ -- None
  simp only [nrm, Nat.reduceBEq, Nat.reduceBNe, reduceIte]
  refine hK _ ?_
  clear hK K
  refine TL.nil ?_
  show TC _ _ _ _ _ _
  refine TC.seq ?_
  refine TC.seq ?_
  -- region 2
  refine TC.region ?_
  refine TL.valE rfl (by first | exact Val.field rfl rfl rfl | exact Val.fieldC rfl rfl rfl) (by simp only [St.put, List.set_cons_succ, List.set_cons_zero, List.getElem_toArray, List.getElem_cons_succ, List.getElem_cons_zero, Nat.zero_add, Nat.reduceAdd]; rfl) ?_
  refine TL.valE rfl (by first | exact Val.load rfl rfl rfl rfl rfl | exact Val.loadC rfl rfl rfl) (by simp only [nput, valC]; rfl) ?_
  refine TL.nil ?_
  show TC _ _ _ _ _ _
  refine TC.block ?_
  refine TC.seq ?_
  refine TC.seq ?_
  -- region 4
  refine TC.region ?_
  refine TL.vE (Val.eql rfl rfl rfl) ?_
  refine TL.vE (Val.assign 1 rfl rfl) ?_
  refine TL.nil ?_
  show TC _ _ _ _ _ _
  refine TC.cond rfl (fun hb => ?_) (fun hb => ?_)
  · have hk13 := hb
    refine TC.skip ?_
    show TC _ _ _ _ _ _
    refine TC.cond rfl (fun hb => ?_) (fun hc => absurd (hc.symm.trans hk13) (by decide))
    -- region 6
    refine TC.region ?_
    refine TL.vE (Val.move 1 rfl rfl) ?_
    refine TL.drawP (yes_none rfl) rfl rfl rfl rfl rfl (K := 1000001) rfl (by first | exact .inl rfl | exact .inr ⟨rfl, by decide, rfl⟩) (by first | assumption | omega) (by repeat first | exact .nil | refine SnapsD.cons .cur ?_ | refine SnapsD.cons (.ro _) ?_ | refine SnapsD.cons (.aggRo _) ?_ | refine SnapsD.cons (.ref _ _ rfl (by first | assumption | exact whole_map _ _ (fun w c hc => by simp only [D.row, List.mem_cons, List.not_mem_nil, or_false] at hc; subst hc; exact .v _)) (by decide)) ?_) (spec_l01Below_c hby hn 16 (by decide)) (fun x => ⟨_, rfl⟩) (fun x i' h' => by simp only [St.curC, cur3, refP, pinK, pinB]; simp only [nrm, Nat.reduceBEq, Nat.reduceBNe, reduceIte]; rfl) fun x17 ci17 ch17 hp17 hci17 => ?_
    refine TL.valE rfl (by first | exact Val.field rfl rfl rfl | exact Val.fieldC rfl rfl rfl) (by simp only [St.put, List.set_cons_succ, List.set_cons_zero, List.getElem_toArray, List.getElem_cons_succ, List.getElem_cons_zero, Nat.zero_add, Nat.reduceAdd]; rfl) ?_
    refine TL.opK rfl fun K hK => ?_
    refine OpT.store (z := 1) rfl rfl rfl rfl rfl rfl (by simp [St.store1, St.storeAll, St.cellAt, St.isMem, St.root, St.wrote, St.kill, St.setRoot, TS.kill, TV.kill, C.kill, Rt.kill, hitR, hitP, shapeOf, setRow, setAt, rowAt, D.row, D.reRow, List.isPrefixOf]; rfl) ?_ -- None
    simp only [nrm, Nat.reduceBEq, Nat.reduceBNe, reduceIte]
    refine hK _ ?_
    clear hK K
    refine TL.nil ?_
    show TC _ _ _ _ _ _
    refine TC.seq ?_
    -- region 9
    refine TC.region ?_
    refine TL.valE rfl (by first | exact Val.loadCAgg (n := 2) rfl rfl rfl rfl (Nat.le_of_ble_eq_true rfl) | exact Val.loadAgg (n := 2) rfl rfl rfl rfl (by simp [St.cellsAt, St.cellAt, St.root, valC]; rfl) rfl | exact Val.loadAgg (n := 2) rfl rfl rfl rfl rfl rfl) (by simp only [St.put, List.set_cons_succ, List.set_cons_zero, valC, dIns, rIns, D.row, List.take_succ_cons, List.take_zero, List.map_cons, List.map_nil]; rfl) ?_
    refine TL.opK rfl fun K hK => ?_
    refine OpT.storeAgg rfl rfl rfl rfl rfl rfl (by simp [St.store1, St.storeAll, St.cellAt, St.isMem, St.root, St.wrote, St.kill, St.setRoot, TS.kill, TV.kill, C.kill, Rt.kill, hitR, hitP, shapeOf, setRow, setAt, rowAt, D.row, D.reRow, List.isPrefixOf]; rfl) ?_ -- None
    simp only [nrm, Nat.reduceBEq, Nat.reduceBNe, reduceIte]
    refine hK _ ?_
    clear hK K
    refine TL.nil ?_
    show TC _ _ _ _ _ _
    refine TC.ret ?_
    exact ⟨.inr rfl, [_], [_], _, _, _, rfl, by decide, rfl, by simp [refV, refC, valC], rfl, rfl, by assumption, rdIns _ _ rfl⟩
  have hk13 := hb
  -- region 5
  refine TC.region ?_
  refine TL.vE (Val.eql rfl rfl rfl) ?_
  refine TL.vE (Val.assign 1 rfl rfl) ?_
  refine TL.nil ?_
  show TC _ _ _ _ _ _
  refine TC.cond rfl (fun hb => ?_) (fun hb => ?_)
  · have hk13 := hb
    -- region 6
    refine TC.region ?_
    refine TL.vE (Val.move 1 rfl rfl) ?_
    refine TL.drawP (yes_none rfl) rfl rfl rfl rfl rfl (K := 1000001) rfl (by first | exact .inl rfl | exact .inr ⟨rfl, by decide, rfl⟩) (by first | assumption | omega) (by repeat first | exact .nil | refine SnapsD.cons .cur ?_ | refine SnapsD.cons (.ro _) ?_ | refine SnapsD.cons (.aggRo _) ?_ | refine SnapsD.cons (.ref _ _ rfl (by first | assumption | exact whole_map _ _ (fun w c hc => by simp only [D.row, List.mem_cons, List.not_mem_nil, or_false] at hc; subst hc; exact .v _)) (by decide)) ?_) (spec_l01Below_c hby hn 16 (by decide)) (fun x => ⟨_, rfl⟩) (fun x i' h' => by simp only [St.curC, cur3, refP, pinK, pinB]; simp only [nrm, Nat.reduceBEq, Nat.reduceBNe, reduceIte]; rfl) fun x17 ci17 ch17 hp17 hci17 => ?_
    refine TL.valE rfl (by first | exact Val.field rfl rfl rfl | exact Val.fieldC rfl rfl rfl) (by simp only [St.put, List.set_cons_succ, List.set_cons_zero, List.getElem_toArray, List.getElem_cons_succ, List.getElem_cons_zero, Nat.zero_add, Nat.reduceAdd]; rfl) ?_
    refine TL.opK rfl fun K hK => ?_
    refine OpT.store (z := 1) rfl rfl rfl rfl rfl rfl (by simp [St.store1, St.storeAll, St.cellAt, St.isMem, St.root, St.wrote, St.kill, St.setRoot, TS.kill, TV.kill, C.kill, Rt.kill, hitR, hitP, shapeOf, setRow, setAt, rowAt, D.row, D.reRow, List.isPrefixOf]; rfl) ?_ -- None
    simp only [nrm, Nat.reduceBEq, Nat.reduceBNe, reduceIte]
    refine hK _ ?_
    clear hK K
    refine TL.nil ?_
    show TC _ _ _ _ _ _
    refine TC.seq ?_
    -- region 9
    refine TC.region ?_
    refine TL.valE rfl (by first | exact Val.loadCAgg (n := 2) rfl rfl rfl rfl (Nat.le_of_ble_eq_true rfl) | exact Val.loadAgg (n := 2) rfl rfl rfl rfl (by simp [St.cellsAt, St.cellAt, St.root, valC]; rfl) rfl | exact Val.loadAgg (n := 2) rfl rfl rfl rfl rfl rfl) (by simp only [St.put, List.set_cons_succ, List.set_cons_zero, valC, dIns, rIns, D.row, List.take_succ_cons, List.take_zero, List.map_cons, List.map_nil]; rfl) ?_
    refine TL.opK rfl fun K hK => ?_
    refine OpT.storeAgg rfl rfl rfl rfl rfl rfl (by simp [St.store1, St.storeAll, St.cellAt, St.isMem, St.root, St.wrote, St.kill, St.setRoot, TS.kill, TV.kill, C.kill, Rt.kill, hitR, hitP, shapeOf, setRow, setAt, rowAt, D.row, D.reRow, List.isPrefixOf]; rfl) ?_ -- None
    simp only [nrm, Nat.reduceBEq, Nat.reduceBNe, reduceIte]
    refine hK _ ?_
    clear hK K
    refine TL.nil ?_
    show TC _ _ _ _ _ _
    refine TC.ret ?_
    exact ⟨.inr rfl, [_], [_], _, _, _, rfl, by decide, rfl, by simp [refV, refC, valC], rfl, rfl, by assumption, rdIns _ _ rfl⟩
  have hk13 := hb
  refine TC.seq ?_
  -- region 7
  refine TC.region ?_
  refine TL.vE (Val.eql rfl rfl rfl) ?_
  refine TL.vE (Val.assign 1 rfl rfl) ?_
  refine TL.nil ?_
  show TC _ _ _ _ _ _
  refine TC.cond rfl (fun hb => ?_) (fun hb => ?_)
  · have hk19 := hb
    -- region 8
    refine TC.region ?_
    refine TL.vE (Val.move 1 rfl rfl) ?_
    refine TL.drawP (yes_none rfl) rfl rfl rfl rfl rfl (K := 1000001) rfl (by first | exact .inl rfl | exact .inr ⟨rfl, by decide, rfl⟩) (by first | assumption | omega) (by repeat first | exact .nil | refine SnapsD.cons .cur ?_ | refine SnapsD.cons (.ro _) ?_ | refine SnapsD.cons (.aggRo _) ?_ | refine SnapsD.cons (.ref _ _ rfl (by first | assumption | exact whole_map _ _ (fun w c hc => by simp only [D.row, List.mem_cons, List.not_mem_nil, or_false] at hc; subst hc; exact .v _)) (by decide)) ?_) (spec_l01Below_c hby hn 4 (by decide)) (fun x => ⟨_, rfl⟩) (fun x i' h' => by simp only [St.curC, cur3, refP, pinK, pinB]; simp only [nrm, Nat.reduceBEq, Nat.reduceBNe, reduceIte]; rfl) fun x22 ci22 ch22 hp22 hci22 => ?_
    refine TL.valE rfl (by first | exact Val.field rfl rfl rfl | exact Val.fieldC rfl rfl rfl) (by simp only [St.put, List.set_cons_succ, List.set_cons_zero, List.getElem_toArray, List.getElem_cons_succ, List.getElem_cons_zero, Nat.zero_add, Nat.reduceAdd]; rfl) ?_
    refine TL.opK rfl fun K hK => ?_
    refine OpT.store (z := 1) rfl rfl rfl rfl rfl rfl (by simp [St.store1, St.storeAll, St.cellAt, St.isMem, St.root, St.wrote, St.kill, St.setRoot, TS.kill, TV.kill, C.kill, Rt.kill, hitR, hitP, shapeOf, setRow, setAt, rowAt, D.row, D.reRow, List.isPrefixOf]; rfl) ?_ -- None
    simp only [nrm, Nat.reduceBEq, Nat.reduceBNe, reduceIte]
    refine hK _ ?_
    clear hK K
    refine TL.nil ?_
    show TC _ _ _ _ _ _
    refine TC.seq ?_
    -- region 9
    refine TC.region ?_
    refine TL.valE rfl (by first | exact Val.loadCAgg (n := 2) rfl rfl rfl rfl (Nat.le_of_ble_eq_true rfl) | exact Val.loadAgg (n := 2) rfl rfl rfl rfl (by simp [St.cellsAt, St.cellAt, St.root, valC]; rfl) rfl | exact Val.loadAgg (n := 2) rfl rfl rfl rfl rfl rfl) (by simp only [St.put, List.set_cons_succ, List.set_cons_zero, valC, dIns, rIns, D.row, List.take_succ_cons, List.take_zero, List.map_cons, List.map_nil]; rfl) ?_
    refine TL.opK rfl fun K hK => ?_
    refine OpT.storeAgg rfl rfl rfl rfl rfl rfl (by simp [St.store1, St.storeAll, St.cellAt, St.isMem, St.root, St.wrote, St.kill, St.setRoot, TS.kill, TV.kill, C.kill, Rt.kill, hitR, hitP, shapeOf, setRow, setAt, rowAt, D.row, D.reRow, List.isPrefixOf]; rfl) ?_ -- None
    simp only [nrm, Nat.reduceBEq, Nat.reduceBNe, reduceIte]
    refine hK _ ?_
    clear hK K
    refine TL.nil ?_
    show TC _ _ _ _ _ _
    refine TC.ret ?_
    exact ⟨.inr rfl, [_], [_], _, _, _, rfl, by decide, rfl, by simp [refV, refC, valC], rfl, rfl, by assumption, rdIns _ _ rfl⟩
  have hk19 := hb
  -- region 3
  refine TC.region ?_
  refine TL.vE (Val.move 1 rfl rfl) ?_
  refine TL.drawP (yes_none rfl) rfl rfl rfl rfl rfl (K := 1000001) rfl (by first | exact .inl rfl | exact .inr ⟨rfl, by decide, rfl⟩) (by first | assumption | omega) (by repeat first | exact .nil | refine SnapsD.cons .cur ?_ | refine SnapsD.cons (.ro _) ?_ | refine SnapsD.cons (.aggRo _) ?_ | refine SnapsD.cons (.ref _ _ rfl (by first | assumption | exact whole_map _ _ (fun w c hc => by simp only [D.row, List.mem_cons, List.not_mem_nil, or_false] at hc; subst hc; exact .v _)) (by decide)) ?_) (spec_l01Below_c hby hn 100 (by decide)) (fun x => ⟨_, rfl⟩) (fun x i' h' => by simp only [St.curC, cur3, refP, pinK, pinB]; simp only [nrm, Nat.reduceBEq, Nat.reduceBNe, reduceIte]; rfl) fun x11 ci11 ch11 hp11 hci11 => ?_
  refine TL.valE rfl (by first | exact Val.field rfl rfl rfl | exact Val.fieldC rfl rfl rfl) (by simp only [St.put, List.set_cons_succ, List.set_cons_zero, List.getElem_toArray, List.getElem_cons_succ, List.getElem_cons_zero, Nat.zero_add, Nat.reduceAdd]; rfl) ?_
  refine TL.opK rfl fun K hK => ?_
  refine OpT.store (z := 1) rfl rfl rfl rfl rfl rfl (by simp [St.store1, St.storeAll, St.cellAt, St.isMem, St.root, St.wrote, St.kill, St.setRoot, TS.kill, TV.kill, C.kill, Rt.kill, hitR, hitP, shapeOf, setRow, setAt, rowAt, D.row, D.reRow, List.isPrefixOf]; rfl) ?_ -- None
  simp only [nrm, Nat.reduceBEq, Nat.reduceBNe, reduceIte]
  refine hK _ ?_
  clear hK K
  refine TL.nil ?_
  show TC _ _ _ _ _ _
  refine TC.seq ?_
  -- region 9
  refine TC.region ?_
  refine TL.valE rfl (by first | exact Val.loadCAgg (n := 2) rfl rfl rfl rfl (Nat.le_of_ble_eq_true rfl) | exact Val.loadAgg (n := 2) rfl rfl rfl rfl (by simp [St.cellsAt, St.cellAt, St.root, valC]; rfl) rfl | exact Val.loadAgg (n := 2) rfl rfl rfl rfl rfl rfl) (by simp only [St.put, List.set_cons_succ, List.set_cons_zero, valC, dIns, rIns, D.row, List.take_succ_cons, List.take_zero, List.map_cons, List.map_nil]; rfl) ?_
  refine TL.opK rfl fun K hK => ?_
  refine OpT.storeAgg rfl rfl rfl rfl rfl rfl (by simp [St.store1, St.storeAll, St.cellAt, St.isMem, St.root, St.wrote, St.kill, St.setRoot, TS.kill, TV.kill, C.kill, Rt.kill, hitR, hitP, shapeOf, setRow, setAt, rowAt, D.row, D.reRow, List.isPrefixOf]; rfl) ?_ -- None
  simp only [nrm, Nat.reduceBEq, Nat.reduceBNe, reduceIte]
  refine hK _ ?_
  clear hK K
  refine TL.nil ?_
  show TC _ _ _ _ _ _
  refine TC.ret ?_
  exact ⟨.inr rfl, [_], [_], _, _, _, rfl, by decide, rfl, by simp [refV, refC, valC], rfl, rfl, by assumption, rdIns _ _ rfl⟩

-- loop.example/g00975/spec.l10AnyIns: params ['*spec.l01Cur'] results ['impl.Ins = loop.example/g00975/impl.Ins'] ('arr', [('app', 'Go.ResultVar.cell', ['2', '66'])])
theorem spec_l10AnyIns_c {ds : List D} (hby : isBytes ds) (hn : ds.length ≤ 1048576)  : FunC Tryd.prog 79 ds [.one (.ptr ⟨pinB, [], 0⟩)] (RDr (fun x : VIns => A (rIns x)) (fun _ => True)) := by
  refine FunC.of Tryd.func79 rfl (by simp [Tryd.ntmps79]) fun w g0 ci0 ch0 hci0 => ?_
  simp only [Tryd.ntmps79, List.length_cons, List.length_nil, Nat.reduceAdd, Nat.reduceSub, List.replicate, List.cons_append, List.nil_append, stC, cur3, refP, pinB, pinK]
  refine TC.seq ?_
  -- region 0
  refine TC.region ?_
  refine TL.opK rfl fun K hK => ?_
  refine OpT.alloc rfl rfl rfl rfl rfl rfl ?_ -- 2
  simp only [nrm, Nat.reduceBEq, Nat.reduceBNe, reduceIte]
  refine hK _ ?_
  clear hK K
  refine TL.nil ?_
  show TC _ _ _ _ _ _
  refine TC.seq ?_
  -- region 1
  refine TC.region ?_
  refine TL.vE (Val.move 1 rfl rfl) ?_
  refine TL.drawP (yes_none rfl) rfl rfl rfl rfl rfl (K := 1000001) rfl (by first | exact .inl rfl | exact .inr ⟨rfl, by decide, rfl⟩) (by first | assumption | omega) (by repeat first | exact .nil | refine SnapsD.cons .cur ?_ | refine SnapsD.cons (.ro _) ?_ | refine SnapsD.cons (.aggRo _) ?_ | refine SnapsD.cons (.ref _ _ rfl (by first | assumption | exact whole_map _ _ (fun w c hc => by simp only [D.row, List.mem_cons, List.not_mem_nil, or_false] at hc; subst hc; exact .v _)) (by decide)) ?_) (spec_l10Ins_c hby hn) (fun x => ⟨_, rfl⟩) (fun x i' h' => by simp only [St.curC, cur3, refP, pinK, pinB]; simp only [nrm, Nat.reduceBEq, Nat.reduceBNe, reduceIte]; rfl) fun x5 ci5 ch5 hp5 hci5 => ?_
  refine TL.opK rfl fun K hK => ?_
  refine OpT.alloc rfl rfl rfl rfl rfl rfl ?_ -- 3
  simp only [nrm, Nat.reduceBEq, Nat.reduceBNe, reduceIte]
  refine hK _ ?_
  clear hK K
  refine TL.opK rfl fun K hK => ?_
  refine OpT.storeAgg rfl rfl rfl rfl rfl rfl (by simp [St.store1, St.storeAll, St.cellAt, St.isMem, St.root, St.wrote, St.kill, St.setRoot, TS.kill, TV.kill, C.kill, Rt.kill, hitR, hitP, shapeOf, setRow, setAt, rowAt, D.row, D.reRow, List.isPrefixOf]; rfl) ?_ -- None
  simp only [nrm, Nat.reduceBEq, Nat.reduceBNe, reduceIte]
  refine hK _ ?_
  clear hK K
  refine TL.nil ?_
  show TC _ _ _ _ _ _
  refine TC.seq ?_
  refine TC.seq ?_
  -- region 2
  refine TC.region ?_
  refine TL.vE (Val.move 1 rfl rfl) ?_
  refine TL.drawP (yes_none rfl) rfl rfl rfl rfl rfl (K := 1000001) rfl (by first | exact .inl rfl | exact .inr ⟨rfl, by decide, rfl⟩) (by first | assumption | omega) (by repeat first | exact .nil | refine SnapsD.cons .cur ?_ | refine SnapsD.cons (.ro _) ?_ | refine SnapsD.cons (.aggRo _) ?_ | refine SnapsD.cons (.ref _ _ rfl (by first | assumption | exact whole_map _ _ (fun w c hc => by simp only [D.row, List.mem_cons, List.not_mem_nil, or_false] at hc; subst hc; exact .v _)) (by decide)) ?_) (spec_l01Below_c hby hn 10 (by decide)) (fun x => ⟨_, rfl⟩) (fun x i' h' => by simp only [St.curC, cur3, refP, pinK, pinB]; simp only [nrm, Nat.reduceBEq, Nat.reduceBNe, reduceIte]; rfl) fun x7 ci7 ch7 hp7 hci7 => ?_
  refine TL.nil ?_
  show TC _ _ _ _ _ _
  refine TC.block ?_
  refine TC.seq ?_
  -- region 3
  refine TC.region ?_
  refine TL.vE (Val.eql rfl rfl rfl) ?_
  refine TL.vE (Val.assign 1 rfl rfl) ?_
  refine TL.nil ?_
  show TC _ _ _ _ _ _
  refine TC.cond rfl (fun hb => ?_) (fun hb => ?_)
  · have hk8 := hb
    -- region 4
    refine TC.region ?_
    refine TL.vE (Val.move 1 rfl rfl) ?_
    refine TL.drawP (yes_none rfl) rfl rfl rfl rfl rfl (K := 1000001) rfl (by first | exact .inl rfl | exact .inr ⟨rfl, by decide, rfl⟩) (by first | assumption | omega) (by repeat first | exact .nil | refine SnapsD.cons .cur ?_ | refine SnapsD.cons (.ro _) ?_ | refine SnapsD.cons (.aggRo _) ?_ | refine SnapsD.cons (.ref _ _ rfl (by first | assumption | exact whole_map _ _ (fun w c hc => by simp only [D.row, List.mem_cons, List.not_mem_nil, or_false] at hc; subst hc; exact .v _)) (by decide)) ?_) (spec_l01Below_c hby hn 11 (by decide)) (fun x => ⟨_, rfl⟩) (fun x i' h' => by simp only [St.curC, cur3, refP, pinK, pinB]; simp only [nrm, Nat.reduceBEq, Nat.reduceBNe, reduceIte]; rfl) fun x11 ci11 ch11 hp11 hci11 => ?_
    refine TL.vE (Val.sub rfl rfl rfl (by first | omega | (simp only [List.length_map]; omega)) (by first | omega | (simp only [List.length_map]; omega))) ?_
    refine TL.valE rfl (by first | exact Val.field rfl rfl rfl | exact Val.fieldC rfl rfl rfl) (by simp only [St.put, List.set_cons_succ, List.set_cons_zero, List.getElem_toArray, List.getElem_cons_succ, List.getElem_cons_zero, Nat.zero_add, Nat.reduceAdd]; rfl) ?_
    refine TL.opK rfl fun K hK => ?_
    refine OpT.store (z := 1) rfl rfl rfl rfl rfl rfl (by simp [St.store1, St.storeAll, St.cellAt, St.isMem, St.root, St.wrote, St.kill, St.setRoot, TS.kill, TV.kill, C.kill, Rt.kill, hitR, hitP, shapeOf, setRow, setAt, rowAt, D.row, D.reRow, List.isPrefixOf]; rfl) ?_ -- None
    simp only [nrm, Nat.reduceBEq, Nat.reduceBNe, reduceIte]
    refine hK _ ?_
    clear hK K
    refine TL.nil ?_
    show TC _ _ _ _ _ _
    refine TC.seq ?_
    -- region 7
    refine TC.region ?_
    refine TL.valE rfl (by first | exact Val.loadCAgg (n := 2) rfl rfl rfl rfl (Nat.le_of_ble_eq_true rfl) | exact Val.loadAgg (n := 2) rfl rfl rfl rfl (by simp [St.cellsAt, St.cellAt, St.root, valC]; rfl) rfl | exact Val.loadAgg (n := 2) rfl rfl rfl rfl rfl rfl) (by simp only [St.put, List.set_cons_succ, List.set_cons_zero, valC, dIns, rIns, D.row, List.take_succ_cons, List.take_zero, List.map_cons, List.map_nil]; rfl) ?_
    refine TL.opK rfl fun K hK => ?_
    refine OpT.storeAgg rfl rfl rfl rfl rfl rfl (by simp [St.store1, St.storeAll, St.cellAt, St.isMem, St.root, St.wrote, St.kill, St.setRoot, TS.kill, TV.kill, C.kill, Rt.kill, hitR, hitP, shapeOf, setRow, setAt, rowAt, D.row, D.reRow, List.isPrefixOf]; rfl) ?_ -- None
    simp only [nrm, Nat.reduceBEq, Nat.reduceBNe, reduceIte]
    refine hK _ ?_
    clear hK K
    refine TL.nil ?_
    show TC _ _ _ _ _ _
    refine TC.ret ?_
    exact ⟨.inr rfl, [_], [_], _, _, _, rfl, by decide, rfl, by simp [refV, refC, valC], rfl, rfl, by assumption, rdIns _ _ rfl⟩
  have hk8 := hb
  refine TC.seq ?_
  -- region 5
  refine TC.region ?_
  refine TL.vE (Val.eql rfl rfl rfl) ?_
  refine TL.vE (Val.assign 1 rfl rfl) ?_
  refine TL.nil ?_
  show TC _ _ _ _ _ _
  refine TC.cond rfl (fun hb => ?_) (fun hb => ?_)
  · have hk14 := hb
    -- region 6
    refine TC.region ?_
    refine TL.vE (Val.move 1 rfl rfl) ?_
    refine TL.opK rfl fun K hK => ?_
    refine OpT.buildP rfl rfl (xs := [(Go.Operand.const (Go.Value.int Go.IntKind.i64 (-1))), (Go.Operand.const (Go.Value.int Go.IntKind.i64 0)), (Go.Operand.const (Go.Value.int Go.IntKind.i64 12)), (Go.Operand.const (Go.Value.int Go.IntKind.i64 15)), (Go.Operand.const (Go.Value.int Go.IntKind.i64 16)), (Go.Operand.const (Go.Value.int Go.IntKind.i64 99)), (Go.Operand.const (Go.Value.int Go.IntKind.i64 100)), (Go.Operand.const (Go.Value.int Go.IntKind.i64 9223372036854775807))]) rfl rfl rfl rfl (sz := 1) rfl rfl rfl (by decide) (by decide) ?_ -- 17
    simp only [nrm, Nat.reduceBEq, Nat.reduceBNe, reduceIte]
    refine hK _ ?_
    clear hK K
    refine TL.drawP (yes_none rfl) rfl rfl rfl rfl rfl (K := 1000001) rfl (by first | exact .inl rfl | exact .inr ⟨rfl, by decide, rfl⟩) (by first | assumption | omega) (by repeat first | exact .nil | refine SnapsD.cons .cur ?_ | refine SnapsD.cons (.ro _) ?_ | refine SnapsD.cons (.aggRo _) ?_ | refine SnapsD.cons (.ref _ _ rfl (by first | assumption | exact whole_map _ _ (fun w c hc => by simp only [D.row, List.mem_cons, List.not_mem_nil, or_false] at hc; subst hc; exact .v _)) (by decide)) ?_) (spec_l01PickInt_c hby hn [-1, 0, 12, 15, 16, 99, 100, 9223372036854775807] (by decide) (by decide)) (fun x => ⟨_, rfl⟩) (fun x i' h' => by simp only [St.curC, cur3, refP, pinK, pinB]; simp only [nrm, Nat.reduceBEq, Nat.reduceBNe, reduceIte]; rfl) fun x18 ci18 ch18 hp18 hci18 => ?_
    refine TL.valE rfl (by first | exact Val.field rfl rfl rfl | exact Val.fieldC rfl rfl rfl) (by simp only [St.put, List.set_cons_succ, List.set_cons_zero, List.getElem_toArray, List.getElem_cons_succ, List.getElem_cons_zero, Nat.zero_add, Nat.reduceAdd]; rfl) ?_
    refine TL.opK rfl fun K hK => ?_
    refine OpT.store (z := 1) rfl rfl rfl rfl rfl rfl (by simp [St.store1, St.storeAll, St.cellAt, St.isMem, St.root, St.wrote, St.kill, St.setRoot, TS.kill, TV.kill, C.kill, Rt.kill, hitR, hitP, shapeOf, setRow, setAt, rowAt, D.row, D.reRow, List.isPrefixOf]; rfl) ?_ -- None
    simp only [nrm, Nat.reduceBEq, Nat.reduceBNe, reduceIte]
    refine hK _ ?_
    clear hK K
    refine TL.nil ?_
    show TC _ _ _ _ _ _
    refine TC.seq ?_
    -- region 7
    refine TC.region ?_
    refine TL.valE rfl (by first | exact Val.loadCAgg (n := 2) rfl rfl rfl rfl (Nat.le_of_ble_eq_true rfl) | exact Val.loadAgg (n := 2) rfl rfl rfl rfl (by simp [St.cellsAt, St.cellAt, St.root, valC]; rfl) rfl | exact Val.loadAgg (n := 2) rfl rfl rfl rfl rfl rfl) (by simp only [St.put, List.set_cons_succ, List.set_cons_zero, valC, dIns, rIns, D.row, List.take_succ_cons, List.take_zero, List.map_cons, List.map_nil]; rfl) ?_
    refine TL.opK rfl fun K hK => ?_
    refine OpT.storeAgg rfl rfl rfl rfl rfl rfl (by simp [St.store1, St.storeAll, St.cellAt, St.isMem, St.root, St.wrote, St.kill, St.setRoot, TS.kill, TV.kill, C.kill, Rt.kill, hitR, hitP, shapeOf, setRow, setAt, rowAt, D.row, D.reRow, List.isPrefixOf]; rfl) ?_ -- None
    simp only [nrm, Nat.reduceBEq, Nat.reduceBNe, reduceIte]
    refine hK _ ?_
    clear hK K
    refine TL.nil ?_
    show TC _ _ _ _ _ _
    refine TC.ret ?_
    exact ⟨.inr rfl, [_], [_], _, _, _, rfl, by decide, rfl, by simp [refV, refC, valC], rfl, rfl, by assumption, rdIns _ _ rfl⟩
  have hk14 := hb
  refine TC.skip ?_
  show TC _ _ _ _ _ _
  refine TC.seq ?_
  -- region 7
  refine TC.region ?_
  refine TL.valE rfl (by first | exact Val.loadCAgg (n := 2) rfl rfl rfl rfl (Nat.le_of_ble_eq_true rfl) | exact Val.loadAgg (n := 2) rfl rfl rfl rfl (by simp [St.cellsAt, St.cellAt, St.root, valC]; rfl) rfl | exact Val.loadAgg (n := 2) rfl rfl rfl rfl rfl rfl) (by simp only [St.put, List.set_cons_succ, List.set_cons_zero, valC, dIns, rIns, D.row, List.take_succ_cons, List.take_zero, List.map_cons, List.map_nil]; rfl) ?_
  refine TL.opK rfl fun K hK => ?_
  refine OpT.storeAgg rfl rfl rfl rfl rfl rfl (by simp [St.store1, St.storeAll, St.cellAt, St.isMem, St.root, St.wrote, St.kill, St.setRoot, TS.kill, TV.kill, C.kill, Rt.kill, hitR, hitP, shapeOf, setRow, setAt, rowAt, D.row, D.reRow, List.isPrefixOf]; rfl) ?_ -- None
  simp only [nrm, Nat.reduceBEq, Nat.reduceBNe, reduceIte]
  refine hK _ ?_
  clear hK K
  refine TL.nil ?_
  show TC _ _ _ _ _ _
  refine TC.ret ?_
  exact ⟨.inr rfl, [_], [_], _, _, _, rfl, by decide, rfl, by simp [refV, refC, valC], rfl, rfl, by assumption, rdIns _ _ rfl⟩

-- loop.example/g00975/spec.l11Ctl: params ['*spec.l01Cur'] results ['impl.Ctl = loop.example/g00975/impl.Ctl'] ('arr', [('app', 'Go.ResultVar.cell', ['2', '93'])])
theorem spec_l11Ctl_c {ds : List D} (hby : isBytes ds) (hn : ds.length ≤ 1048576)  : FunC Tryd.prog 155 ds [.one (.ptr ⟨pinB, [], 0⟩)] (RDr (fun x : VCtl => A (rCtl x)) (fun _ => True)) := by
  refine FunC.of Tryd.func155 rfl (by simp [Tryd.ntmps155]) fun w g0 ci0 ch0 hci0 => ?_
  simp only [Tryd.ntmps155, List.length_cons, List.length_nil, Nat.reduceAdd, Nat.reduceSub, List.replicate, List.cons_append, List.nil_append, stC, cur3, refP, pinB, pinK]
  refine TC.seq ?_
  -- region 0
  refine TC.region ?_
  refine TL.opK rfl fun K hK => ?_
  refine OpT.alloc rfl rfl rfl rfl rfl rfl ?_ -- 2
  simp only [nrm, Nat.reduceBEq, Nat.reduceBNe, reduceIte]
  refine hK _ ?_
  clear hK K
  refine TL.nil ?_
  show TC _ _ _ _ _ _
  refine TC.seq ?_
  -- region 1
  refine TC.region ?_
  refine TL.vE (Val.move 1 rfl rfl) ?_
  refine TL.drawP (yes_none rfl) rfl rfl rfl rfl rfl (K := 1000001) rfl (by first | exact .inl rfl | exact .inr ⟨rfl, by decide, rfl⟩) (by first | assumption | omega) (by repeat first | exact .nil | refine SnapsD.cons .cur ?_ | refine SnapsD.cons (.ro _) ?_ | refine SnapsD.cons (.aggRo _) ?_ | refine SnapsD.cons (.ref _ _ rfl (by first | assumption | exact whole_map _ _ (fun w c hc => by simp only [D.row, List.mem_cons, List.not_mem_nil, or_false] at hc; subst hc; exact .v _)) (by decide)) ?_) (spec_l01Below_c hby hn 4 (by decide)) (fun x => ⟨_, rfl⟩) (fun x i' h' => by simp only [St.curC, cur3, refP, pinK, pinB]; simp only [nrm, Nat.reduceBEq, Nat.reduceBNe, reduceIte]; rfl) fun x5 ci5 ch5 hp5 hci5 => ?_
  refine TL.vE (Val.move 1 rfl rfl) ?_
  refine TL.drawP (yes_none rfl) rfl rfl rfl rfl rfl (K := 1000001) rfl (by first | exact .inl rfl | exact .inr ⟨rfl, by decide, rfl⟩) (by first | assumption | omega) (by repeat first | exact .nil | refine SnapsD.cons .cur ?_ | refine SnapsD.cons (.ro _) ?_ | refine SnapsD.cons (.aggRo _) ?_ | refine SnapsD.cons (.ref _ _ rfl (by first | assumption | exact whole_map _ _ (fun w c hc => by simp only [D.row, List.mem_cons, List.not_mem_nil, or_false] at hc; subst hc; exact .v _)) (by decide)) ?_) (spec_l01Once_c hby hn 4 (by decide)) (fun x => ⟨_, rfl⟩) (fun x i' h' => by simp only [St.curC, cur3, refP, pinK, pinB]; simp only [nrm, Nat.reduceBEq, Nat.reduceBNe, reduceIte]; rfl) fun x7 ci7 ch7 hp7 hci7 => ?_
  refine TL.vE (Val.not rfl rfl) ?_
  refine TL.vE (Val.build (parts := [(0, (Go.Operand.tmp 5)), (2, (Go.Operand.tmp 8))]) (place := [(0, 1), (1, 1), (2, 1)]) rfl rfl rfl rfl rfl rfl rfl rfl rfl (by simp [fillC]; rfl)) ?_
  refine TL.opK rfl fun K hK => ?_
  refine OpT.alloc rfl rfl rfl rfl rfl rfl ?_ -- 3
  simp only [nrm, Nat.reduceBEq, Nat.reduceBNe, reduceIte]
  refine hK _ ?_
  clear hK K
  refine TL.opK rfl fun K hK => ?_
  refine OpT.storeAgg rfl rfl rfl rfl rfl rfl (by simp [St.store1, St.storeAll, St.cellAt, St.isMem, St.root, St.wrote, St.kill, St.setRoot, TS.kill, TV.kill, C.kill, Rt.kill, hitR, hitP, shapeOf, setRow, setAt, rowAt, D.row, D.reRow, List.isPrefixOf]; rfl) ?_ -- None
  simp only [nrm, Nat.reduceBEq, Nat.reduceBNe, reduceIte]
  refine hK _ ?_
  clear hK K
  refine TL.nil ?_
  show TC _ _ _ _ _ _
  refine TC.seq ?_
  refine TC.seq ?_
  -- region 2
  refine TC.region ?_
  refine TL.valE rfl (by first | exact Val.field rfl rfl rfl | exact Val.fieldC rfl rfl rfl) (by simp only [St.put, List.set_cons_succ, List.set_cons_zero, List.getElem_toArray, List.getElem_cons_succ, List.getElem_cons_zero, Nat.zero_add, Nat.reduceAdd]; rfl) ?_
  refine TL.valE rfl (by first | exact Val.load rfl rfl rfl rfl rfl | exact Val.loadC rfl rfl rfl) (by simp only [nput, valC]; rfl) ?_
  refine TL.vE (Val.move 1 rfl rfl) ?_
  refine TL.splitG 2 rfl (fun hg2 => ?_) (fun hg2 => ?_)
  · refine TL.guardE rfl rfl hg2 (by first | exact Val.field rfl rfl rfl | exact Val.fieldC rfl rfl rfl) (by simp only [St.put, List.set_cons_succ, List.set_cons_zero, List.getElem_toArray, List.getElem_cons_succ, List.getElem_cons_zero, Nat.zero_add, Nat.reduceAdd]; rfl) ?_
    refine TL.guardE rfl rfl hg2 (by first | exact Val.load rfl rfl rfl rfl rfl | exact Val.loadC rfl rfl rfl) (by simp only [nput, valC]; rfl) ?_
    refine TL.gE rfl hg2 (Val.neq rfl rfl rfl) ?_
    refine TL.vE (Val.pickT rfl rfl hg2 rfl) ?_
    refine TL.vE (Val.move 1 rfl rfl) ?_
    refine TL.splitG 7 rfl (fun hg7 => ?_) (fun hg7 => ?_)
    · refine TL.gE rfl hg7 (Val.move 1 rfl rfl) ?_
      refine TL.drawP (yes_some rfl rfl hg7) rfl rfl rfl rfl rfl (K := 1000001) rfl (by first | exact .inl rfl | exact .inr ⟨rfl, by decide, rfl⟩) (by first | assumption | omega) (by repeat first | exact .nil | refine SnapsD.cons .cur ?_ | refine SnapsD.cons (.ro _) ?_ | refine SnapsD.cons (.aggRo _) ?_ | refine SnapsD.cons (.ref _ _ rfl (by first | assumption | exact whole_map _ _ (fun w c hc => by simp only [D.row, List.mem_cons, List.not_mem_nil, or_false] at hc; subst hc; exact .v _)) (by decide)) ?_) (spec_l01Once_c hby hn 2 (by decide)) (fun x => ⟨_, rfl⟩) (fun x i' h' => by simp only [St.curC, cur3, refP, pinK, pinB]; simp only [nrm, Nat.reduceBEq, Nat.reduceBNe, reduceIte]; rfl) fun x19 ci19 ch19 hp19 hci19 => ?_
      refine TL.vE (Val.pickT rfl rfl hg7 rfl) ?_
      refine TL.nil ?_
      show TC _ _ _ _ _ _
      refine TC.cond rfl (fun hb => ?_) (fun hb => ?_)
      · have hk20 := hb
        -- region 3
        refine TC.region ?_
        refine TL.vE (Val.move 1 rfl rfl) ?_
        refine TL.drawP (yes_none rfl) rfl rfl rfl rfl rfl (K := 1000001) rfl (by first | exact .inl rfl | exact .inr ⟨rfl, by decide, rfl⟩) (by first | assumption | omega) (by repeat first | exact .nil | refine SnapsD.cons .cur ?_ | refine SnapsD.cons (.ro _) ?_ | refine SnapsD.cons (.aggRo _) ?_ | refine SnapsD.cons (.ref _ _ rfl (by first | assumption | exact whole_map _ _ (fun w c hc => by simp only [D.row, List.mem_cons, List.not_mem_nil, or_false] at hc; subst hc; exact .v _)) (by decide)) ?_) (spec_l01Below_c hby hn 256 (by decide)) (fun x => ⟨_, rfl⟩) (fun x i' h' => by simp only [St.curC, cur3, refP, pinK, pinB]; simp only [nrm, Nat.reduceBEq, Nat.reduceBNe, reduceIte]; rfl) fun x22 ci22 ch22 hp22 hci22 => ?_
        refine TL.valE rfl (by first | exact Val.field rfl rfl rfl | exact Val.fieldC rfl rfl rfl) (by simp only [St.put, List.set_cons_succ, List.set_cons_zero, List.getElem_toArray, List.getElem_cons_succ, List.getElem_cons_zero, Nat.zero_add, Nat.reduceAdd]; rfl) ?_
        refine TL.opK rfl fun K hK => ?_
        refine OpT.store (z := 1) rfl rfl rfl rfl rfl rfl (by simp [St.store1, St.storeAll, St.cellAt, St.isMem, St.root, St.wrote, St.kill, St.setRoot, TS.kill, TV.kill, C.kill, Rt.kill, hitR, hitP, shapeOf, setRow, setAt, rowAt, D.row, D.reRow, List.isPrefixOf]; rfl) ?_ -- None
        simp only [nrm, Nat.reduceBEq, Nat.reduceBNe, reduceIte]
        refine hK _ ?_
        clear hK K
        refine TL.nil ?_
        show TC _ _ _ _ _ _
        refine TC.seq ?_
        -- region 4
        refine TC.region ?_
        refine TL.valE rfl (by first | exact Val.loadCAgg (n := 3) rfl rfl rfl rfl (Nat.le_of_ble_eq_true rfl) | exact Val.loadAgg (n := 3) rfl rfl rfl rfl (by simp [St.cellsAt, St.cellAt, St.root, valC]; rfl) rfl | exact Val.loadAgg (n := 3) rfl rfl rfl rfl rfl rfl) (by simp only [St.put, List.set_cons_succ, List.set_cons_zero, valC, dCtl, rCtl, D.row, List.take_succ_cons, List.take_zero, List.map_cons, List.map_nil]; rfl) ?_
        refine TL.opK rfl fun K hK => ?_
        refine OpT.storeAgg rfl rfl rfl rfl rfl rfl (by simp [St.store1, St.storeAll, St.cellAt, St.isMem, St.root, St.wrote, St.kill, St.setRoot, TS.kill, TV.kill, C.kill, Rt.kill, hitR, hitP, shapeOf, setRow, setAt, rowAt, D.row, D.reRow, List.isPrefixOf]; rfl) ?_ -- None
        simp only [nrm, Nat.reduceBEq, Nat.reduceBNe, reduceIte]
        refine hK _ ?_
        clear hK K
        refine TL.nil ?_
        show TC _ _ _ _ _ _
        refine TC.ret ?_
        exact ⟨.inr rfl, [_], [_], _, _, _, rfl, by decide, rfl, by simp [refV, refC, valC], rfl, rfl, by assumption, rdCtl _ _ _ rfl⟩
      have hk20 := hb
      refine TC.skip ?_
      show TC _ _ _ _ _ _
      refine TC.seq ?_
      -- region 4
      refine TC.region ?_
      refine TL.valE rfl (by first | exact Val.loadCAgg (n := 3) rfl rfl rfl rfl (Nat.le_of_ble_eq_true rfl) | exact Val.loadAgg (n := 3) rfl rfl rfl rfl (by simp [St.cellsAt, St.cellAt, St.root, valC]; rfl) rfl | exact Val.loadAgg (n := 3) rfl rfl rfl rfl rfl rfl) (by simp only [St.put, List.set_cons_succ, List.set_cons_zero, valC, dCtl, rCtl, D.row, List.take_succ_cons, List.take_zero, List.map_cons, List.map_nil]; rfl) ?_
      refine TL.opK rfl fun K hK => ?_
      refine OpT.storeAgg rfl rfl rfl rfl rfl rfl (by simp [St.store1, St.storeAll, St.cellAt, St.isMem, St.root, St.wrote, St.kill, St.setRoot, TS.kill, TV.kill, C.kill, Rt.kill, hitR, hitP, shapeOf, setRow, setAt, rowAt, D.row, D.reRow, List.isPrefixOf]; rfl) ?_ -- None
      simp only [nrm, Nat.reduceBEq, Nat.reduceBNe, reduceIte]
      refine hK _ ?_
      clear hK K
      refine TL.nil ?_
      show TC _ _ _ _ _ _
      refine TC.ret ?_
      exact ⟨.inr rfl, [_], [_], _, _, _, rfl, by decide, rfl, by simp [refV, refC, valC], rfl, rfl, by assumption, rdCtl _ _ _ rfl⟩
    · iterate 2 (refine TL.skip (nope_b rfl rfl hg7) (by simp only [nput]; rfl) ?_)
      refine TL.vE (Val.pickF rfl rfl hg7 rfl) ?_
      refine TL.nil ?_
      show TC _ _ _ _ _ _
      refine TC.cond rfl (fun hb => absurd hb (by simp)) (fun hb => ?_)
      refine TC.skip ?_
      show TC _ _ _ _ _ _
      refine TC.seq ?_
      -- region 4
      refine TC.region ?_
      refine TL.valE rfl (by first | exact Val.loadCAgg (n := 3) rfl rfl rfl rfl (Nat.le_of_ble_eq_true rfl) | exact Val.loadAgg (n := 3) rfl rfl rfl rfl (by simp [St.cellsAt, St.cellAt, St.root, valC]; rfl) rfl | exact Val.loadAgg (n := 3) rfl rfl rfl rfl rfl rfl) (by simp only [St.put, List.set_cons_succ, List.set_cons_zero, valC, dCtl, rCtl, D.row, List.take_succ_cons, List.take_zero, List.map_cons, List.map_nil]; rfl) ?_
      refine TL.opK rfl fun K hK => ?_
      refine OpT.storeAgg rfl rfl rfl rfl rfl rfl (by simp [St.store1, St.storeAll, St.cellAt, St.isMem, St.root, St.wrote, St.kill, St.setRoot, TS.kill, TV.kill, C.kill, Rt.kill, hitR, hitP, shapeOf, setRow, setAt, rowAt, D.row, D.reRow, List.isPrefixOf]; rfl) ?_ -- None
      simp only [nrm, Nat.reduceBEq, Nat.reduceBNe, reduceIte]
      refine hK _ ?_
      clear hK K
      refine TL.nil ?_
      show TC _ _ _ _ _ _
      refine TC.ret ?_
      exact ⟨.inr rfl, [_], [_], _, _, _, rfl, by decide, rfl, by simp [refV, refC, valC], rfl, rfl, by assumption, rdCtl _ _ _ rfl⟩
  · iterate 3 (refine TL.skip (nope_b rfl rfl hg2) (by simp only [nput]; rfl) ?_)
    refine TL.vE (Val.pickF rfl rfl hg2 rfl) ?_
    refine TL.vE (Val.move 1 rfl rfl) ?_
    iterate 2 (refine TL.skip (nope_b rfl rfl rfl) (by simp only [nput]; rfl) ?_)
    refine TL.vE (Val.pickF rfl rfl rfl rfl) ?_
    refine TL.nil ?_
    show TC _ _ _ _ _ _
    refine TC.cond rfl (fun hb => absurd hb (by simp)) (fun hb => ?_)
    refine TC.skip ?_
    show TC _ _ _ _ _ _
    refine TC.seq ?_
    -- region 4
    refine TC.region ?_
    refine TL.valE rfl (by first | exact Val.loadCAgg (n := 3) rfl rfl rfl rfl (Nat.le_of_ble_eq_true rfl) | exact Val.loadAgg (n := 3) rfl rfl rfl rfl (by simp [St.cellsAt, St.cellAt, St.root, valC]; rfl) rfl | exact Val.loadAgg (n := 3) rfl rfl rfl rfl rfl rfl) (by simp only [St.put, List.set_cons_succ, List.set_cons_zero, valC, dCtl, rCtl, D.row, List.take_succ_cons, List.take_zero, List.map_cons, List.map_nil]; rfl) ?_
    refine TL.opK rfl fun K hK => ?_
    refine OpT.storeAgg rfl rfl rfl rfl rfl rfl (by simp [St.store1, St.storeAll, St.cellAt, St.isMem, St.root, St.wrote, St.kill, St.setRoot, TS.kill, TV.kill, C.kill, Rt.kill, hitR, hitP, shapeOf, setRow, setAt, rowAt, D.row, D.reRow, List.isPrefixOf]; rfl) ?_ -- None
    simp only [nrm, Nat.reduceBEq, Nat.reduceBNe, reduceIte]
    refine hK _ ?_
    clear hK K
    refine TL.nil ?_
    show TC _ _ _ _ _ _
    refine TC.ret ?_
    exact ⟨.inr rfl, [_], [_], _, _, _, rfl, by decide, rfl, by simp [refV, refC, valC], rfl, rfl, by assumption, rdCtl _ _ _ rfl⟩

-- loop.example/g00975/spec.l21At: params ['*spec.l01Cur'] results ['int'] ('arr', [('app', 'Go.ResultVar.tmp', ['2'])])
theorem spec_l21At_c {ds : List D} (hby : isBytes ds) (hn : ds.length ≤ 1048576)  : FunC Tryd.prog 142 ds [.one (.ptr ⟨pinB, [], 0⟩)] (RDr I (fun _ => True)) := by
  refine FunC.of Tryd.func142 rfl (by simp [Tryd.ntmps142]) fun w g0 ci0 ch0 hci0 => ?_
  simp only [Tryd.ntmps142, List.length_cons, List.length_nil, Nat.reduceAdd, Nat.reduceSub, List.replicate, List.cons_append, List.nil_append, stC, cur3, refP, pinB, pinK]
  refine TC.seq ?_
  -- region 0
  refine TC.region ?_
  refine TL.vE (Val.assign 1 rfl rfl) ?_
  refine TL.nil ?_
  show TC _ _ _ _ _ _
  refine TC.seq ?_
  -- region 1
  refine TC.region ?_
  refine TL.vE (Val.move 1 rfl rfl) ?_
  refine TL.opK rfl fun K hK => ?_
  refine OpT.buildP rfl rfl (xs := [(Go.Operand.const (Go.Value.int Go.IntKind.i64 0)), (Go.Operand.const (Go.Value.int Go.IntKind.i64 0)), (Go.Operand.const (Go.Value.int Go.IntKind.i64 0)), (Go.Operand.const (Go.Value.int Go.IntKind.i64 1)), (Go.Operand.const (Go.Value.int Go.IntKind.i64 1)), (Go.Operand.const (Go.Value.int Go.IntKind.i64 2)), (Go.Operand.const (Go.Value.int Go.IntKind.i64 (-1))), (Go.Operand.const (Go.Value.int Go.IntKind.i64 9223372036854775807))]) rfl rfl rfl rfl (sz := 1) rfl rfl rfl (by decide) (by decide) ?_ -- 4
  simp only [nrm, Nat.reduceBEq, Nat.reduceBNe, reduceIte]
  refine hK _ ?_
  clear hK K
  refine TL.drawP (yes_none rfl) rfl rfl rfl rfl rfl (K := 1000001) rfl (by first | exact .inl rfl | exact .inr ⟨rfl, by decide, rfl⟩) (by first | assumption | omega) (by repeat first | exact .nil | refine SnapsD.cons .cur ?_ | refine SnapsD.cons (.ro _) ?_ | refine SnapsD.cons (.aggRo _) ?_ | refine SnapsD.cons (.ref _ _ rfl (by first | assumption | exact whole_map _ _ (fun w c hc => by simp only [D.row, List.mem_cons, List.not_mem_nil, or_false] at hc; subst hc; exact .v _)) (by decide)) ?_) (spec_l01PickInt_c hby hn [0, 0, 0, 1, 1, 2, -1, 9223372036854775807] (by decide) (by decide)) (fun x => ⟨_, rfl⟩) (fun x i' h' => by simp only [St.curC, cur3, refP, pinK, pinB]; simp only [nrm, Nat.reduceBEq, Nat.reduceBNe, reduceIte]; rfl) fun x5 ci5 ch5 hp5 hci5 => ?_
  refine TL.vE (Val.assign 1 rfl rfl) ?_
  refine TL.nil ?_
  show TC _ _ _ _ _ _
  refine TC.ret ?_
  exact ⟨.inr rfl, [_], [_], _, _, _, rfl, by decide, rfl, by simp [refV, refC, valC], rfl, rfl, by assumption, ⟨_, trivial, rfl⟩⟩

-- loop.example/g00975/spec.l28Act: params ['*spec.l01Cur'] results ['impl.Act = loop.example/g00975/impl.Act'] ('arr', [('app', 'Go.ResultVar.cell', ['2', '27'])])
theorem spec_l28Act_c {ds : List D} (hby : isBytes ds) (hn : ds.length ≤ 1048576)  : FunC Tryd.prog 141 ds [.one (.ptr ⟨pinB, [], 0⟩)] (RDr (fun x : VAct => A (rAct x)) (fun _ => True)) := by
  refine FunC.of Tryd.func141 rfl (by simp [Tryd.ntmps141]) fun w g0 ci0 ch0 hci0 => ?_
  simp only [Tryd.ntmps141, List.length_cons, List.length_nil, Nat.reduceAdd, Nat.reduceSub, List.replicate, List.cons_append, List.nil_append, stC, cur3, refP, pinB, pinK]
  refine TC.seq ?_
  -- region 0
  refine TC.region ?_
  refine TL.opK rfl fun K hK => ?_
  refine OpT.alloc rfl rfl rfl rfl rfl rfl ?_ -- 2
  simp only [nrm, Nat.reduceBEq, Nat.reduceBNe, reduceIte]
  refine hK _ ?_
  clear hK K
  refine TL.nil ?_
  show TC _ _ _ _ _ _
  refine TC.seq ?_
  -- region 1
  refine TC.region ?_
  refine TL.vE (Val.move 1 rfl rfl) ?_
  refine TL.drawP (yes_none rfl) rfl rfl rfl rfl rfl (K := 1000001) rfl (by first | exact .inl rfl | exact .inr ⟨rfl, by decide, rfl⟩) (by first | assumption | omega) (by repeat first | exact .nil | refine SnapsD.cons .cur ?_ | refine SnapsD.cons (.ro _) ?_ | refine SnapsD.cons (.aggRo _) ?_ | refine SnapsD.cons (.ref _ _ rfl (by first | assumption | exact whole_map _ _ (fun w c hc => by simp only [D.row, List.mem_cons, List.not_mem_nil, or_false] at hc; subst hc; exact .v _)) (by decide)) ?_) (spec_l01Below_c hby hn 2 (by decide)) (fun x => ⟨_, rfl⟩) (fun x i' h' => by simp only [St.curC, cur3, refP, pinK, pinB]; simp only [nrm, Nat.reduceBEq, Nat.reduceBNe, reduceIte]; rfl) fun x6 ci6 ch6 hp6 hci6 => ?_
  refine TL.vE (Val.move 1 rfl rfl) ?_
  refine TL.drawP (yes_none rfl) rfl rfl rfl rfl rfl (K := 1000001) rfl (by first | exact .inl rfl | exact .inr ⟨rfl, by decide, rfl⟩) (by first | assumption | omega) (by repeat first | exact .nil | refine SnapsD.cons .cur ?_ | refine SnapsD.cons (.ro _) ?_ | refine SnapsD.cons (.aggRo _) ?_ | refine SnapsD.cons (.ref _ _ rfl (by first | assumption | exact whole_map _ _ (fun w c hc => by simp only [D.row, List.mem_cons, List.not_mem_nil, or_false] at hc; subst hc; exact .v _)) (by decide)) ?_) (spec_l01Below_c hby hn 2 (by decide)) (fun x => ⟨_, rfl⟩) (fun x i' h' => by simp only [St.curC, cur3, refP, pinK, pinB]; simp only [nrm, Nat.reduceBEq, Nat.reduceBNe, reduceIte]; rfl) fun x8 ci8 ch8 hp8 hci8 => ?_
  refine TL.vE (Val.build (parts := [(1, (Go.Operand.tmp 6)), (2, (Go.Operand.tmp 8))]) (place := [(0, 1), (1, 1), (2, 1), (3, 1), (4, 1), (5, 1)]) rfl rfl rfl rfl rfl rfl rfl rfl rfl (by simp [fillC]; rfl)) ?_
  refine TL.opK rfl fun K hK => ?_
  refine OpT.alloc rfl rfl rfl rfl rfl rfl ?_ -- 3
  simp only [nrm, Nat.reduceBEq, Nat.reduceBNe, reduceIte]
  refine hK _ ?_
  clear hK K
  refine TL.opK rfl fun K hK => ?_
  refine OpT.storeAgg rfl rfl rfl rfl rfl rfl (by simp [St.store1, St.storeAll, St.cellAt, St.isMem, St.root, St.wrote, St.kill, St.setRoot, TS.kill, TV.kill, C.kill, Rt.kill, hitR, hitP, shapeOf, setRow, setAt, rowAt, D.row, D.reRow, List.isPrefixOf]; rfl) ?_ -- None
  simp only [nrm, Nat.reduceBEq, Nat.reduceBNe, reduceIte]
  refine hK _ ?_
  clear hK K
  refine TL.nil ?_
  show TC _ _ _ _ _ _
  refine TC.seq ?_
  refine TC.seq ?_
  -- region 2
  refine TC.region ?_
  refine TL.vE (Val.move 1 rfl rfl) ?_
  refine TL.drawP (yes_none rfl) rfl rfl rfl rfl rfl (K := 1000001) rfl (by first | exact .inl rfl | exact .inr ⟨rfl, by decide, rfl⟩) (by first | assumption | omega) (by repeat first | exact .nil | refine SnapsD.cons .cur ?_ | refine SnapsD.cons (.ro _) ?_ | refine SnapsD.cons (.aggRo _) ?_ | refine SnapsD.cons (.ref _ _ rfl (by first | assumption | exact whole_map _ _ (fun w c hc => by simp only [D.row, List.mem_cons, List.not_mem_nil, or_false] at hc; subst hc; exact .v _)) (by decide)) ?_) (spec_l01Below_c hby hn 24 (by decide)) (fun x => ⟨_, rfl⟩) (fun x i' h' => by simp only [St.curC, cur3, refP, pinK, pinB]; simp only [nrm, Nat.reduceBEq, Nat.reduceBNe, reduceIte]; rfl) fun x11 ci11 ch11 hp11 hci11 => ?_
  refine TL.nil ?_
  show TC _ _ _ _ _ _
  refine TC.block ?_
  refine TC.seq ?_
  refine TC.seq ?_
  -- region 4
  refine TC.region ?_
  refine TL.vE (Val.eql rfl rfl rfl) ?_
  refine TL.vE (Val.assign 1 rfl rfl) ?_
  refine TL.nil ?_
  show TC _ _ _ _ _ _
  refine TC.cond rfl (fun hb => ?_) (fun hb => ?_)
  · have hk13 := hb
    refine TC.skip ?_
    show TC _ _ _ _ _ _
    refine TC.cond rfl (fun hb => ?_) (fun hc => absurd (hc.symm.trans hk13) (by decide))
    refine TC.seq ?_
    -- region 6
    refine TC.region ?_
    refine TL.valE rfl (by first | exact Val.field rfl rfl rfl | exact Val.fieldC rfl rfl rfl) (by simp only [St.put, List.set_cons_succ, List.set_cons_zero, List.getElem_toArray, List.getElem_cons_succ, List.getElem_cons_zero, Nat.zero_add, Nat.reduceAdd]; rfl) ?_
    refine TL.opK rfl fun K hK => ?_
    refine OpT.store (z := 1) rfl rfl rfl rfl rfl rfl (by simp [St.store1, St.storeAll, St.cellAt, St.isMem, St.root, St.wrote, St.kill, St.setRoot, TS.kill, TV.kill, C.kill, Rt.kill, hitR, hitP, shapeOf, setRow, setAt, rowAt, D.row, D.reRow, List.isPrefixOf]; rfl) ?_ -- None
    simp only [nrm, Nat.reduceBEq, Nat.reduceBNe, reduceIte]
    refine hK _ ?_
    clear hK K
    refine TL.nil ?_
    show TC _ _ _ _ _ _
    refine TC.seq ?_
    -- region 7
    refine TC.region ?_
    refine TL.vE (Val.move 1 rfl rfl) ?_
    refine TL.drawP (yes_none rfl) rfl rfl rfl rfl rfl (K := 1000001) rfl (by first | exact .inl rfl | exact .inr ⟨rfl, by decide, rfl⟩) (by first | assumption | omega) (by repeat first | exact .nil | refine SnapsD.cons .cur ?_ | refine SnapsD.cons (.ro _) ?_ | refine SnapsD.cons (.aggRo _) ?_ | refine SnapsD.cons (.ref _ _ rfl (by first | assumption | exact whole_map _ _ (fun w c hc => by simp only [D.row, List.mem_cons, List.not_mem_nil, or_false] at hc; subst hc; exact .v _)) (by decide)) ?_) (spec_l01Below_c hby hn 4 (by decide)) (fun x => ⟨_, rfl⟩) (fun x i' h' => by simp only [St.curC, cur3, refP, pinK, pinB]; simp only [nrm, Nat.reduceBEq, Nat.reduceBNe, reduceIte]; rfl) fun x18 ci18 ch18 hp18 hci18 => ?_
    refine TL.valE rfl (by first | exact Val.field rfl rfl rfl | exact Val.fieldC rfl rfl rfl) (by simp only [St.put, List.set_cons_succ, List.set_cons_zero, List.getElem_toArray, List.getElem_cons_succ, List.getElem_cons_zero, Nat.zero_add, Nat.reduceAdd]; rfl) ?_
    refine TL.opK rfl fun K hK => ?_
    refine OpT.store (z := 1) rfl rfl rfl rfl rfl rfl (by simp [St.store1, St.storeAll, St.cellAt, St.isMem, St.root, St.wrote, St.kill, St.setRoot, TS.kill, TV.kill, C.kill, Rt.kill, hitR, hitP, shapeOf, setRow, setAt, rowAt, D.row, D.reRow, List.isPrefixOf]; rfl) ?_ -- None
    simp only [nrm, Nat.reduceBEq, Nat.reduceBNe, reduceIte]
    refine hK _ ?_
    clear hK K
    refine TL.nil ?_
    show TC _ _ _ _ _ _
    refine TC.seq ?_
    -- region 8
    refine TC.region ?_
    refine TL.vE (Val.move 1 rfl rfl) ?_
    refine TL.drawP (yes_none rfl) rfl rfl rfl rfl rfl (K := 1000001) rfl (by first | exact .inl rfl | exact .inr ⟨rfl, by decide, rfl⟩) (by first | assumption | omega) (by repeat first | exact .nil | refine SnapsD.cons .cur ?_ | refine SnapsD.cons (.ro _) ?_ | refine SnapsD.cons (.aggRo _) ?_ | refine SnapsD.cons (.ref _ _ rfl (by first | assumption | exact whole_map _ _ (fun w c hc => by simp only [D.row, List.mem_cons, List.not_mem_nil, or_false] at hc; subst hc; exact .v _)) (by decide)) ?_) (spec_l01Below_c hby hn 8 (by decide)) (fun x => ⟨_, rfl⟩) (fun x i' h' => by simp only [St.curC, cur3, refP, pinK, pinB]; simp only [nrm, Nat.reduceBEq, Nat.reduceBNe, reduceIte]; rfl) fun x21 ci21 ch21 hp21 hci21 => ?_
    refine TL.valE rfl (by first | exact Val.field rfl rfl rfl | exact Val.fieldC rfl rfl rfl) (by simp only [St.put, List.set_cons_succ, List.set_cons_zero, List.getElem_toArray, List.getElem_cons_succ, List.getElem_cons_zero, Nat.zero_add, Nat.reduceAdd]; rfl) ?_
    refine TL.opK rfl fun K hK => ?_
    refine OpT.store (z := 1) rfl rfl rfl rfl rfl rfl (by simp [St.store1, St.storeAll, St.cellAt, St.isMem, St.root, St.wrote, St.kill, St.setRoot, TS.kill, TV.kill, C.kill, Rt.kill, hitR, hitP, shapeOf, setRow, setAt, rowAt, D.row, D.reRow, List.isPrefixOf]; rfl) ?_ -- None
    simp only [nrm, Nat.reduceBEq, Nat.reduceBNe, reduceIte]
    refine hK _ ?_
    clear hK K
    refine TL.nil ?_
    show TC _ _ _ _ _ _
    -- region 9
    refine TC.region ?_
    refine TL.vE (Val.move 1 rfl rfl) ?_
    refine TL.opK rfl fun K hK => ?_
    refine OpT.buildP rfl rfl (xs := [(Go.Operand.const (Go.Value.int Go.IntKind.i64 3)), (Go.Operand.const (Go.Value.int Go.IntKind.i64 3)), (Go.Operand.const (Go.Value.int Go.IntKind.i64 1)), (Go.Operand.const (Go.Value.int Go.IntKind.i64 2))]) rfl rfl rfl rfl (sz := 1) rfl rfl rfl (by decide) (by decide) ?_ -- 24
    simp only [nrm, Nat.reduceBEq, Nat.reduceBNe, reduceIte]
    refine hK _ ?_
    clear hK K
    refine TL.drawP (yes_none rfl) rfl rfl rfl rfl rfl (K := 1000001) rfl (by first | exact .inl rfl | exact .inr ⟨rfl, by decide, rfl⟩) (by first | assumption | omega) (by repeat first | exact .nil | refine SnapsD.cons .cur ?_ | refine SnapsD.cons (.ro _) ?_ | refine SnapsD.cons (.aggRo _) ?_ | refine SnapsD.cons (.ref _ _ rfl (by first | assumption | exact whole_map _ _ (fun w c hc => by simp only [D.row, List.mem_cons, List.not_mem_nil, or_false] at hc; subst hc; exact .v _)) (by decide)) ?_) (spec_l01PickInt_c hby hn [3, 3, 1, 2] (by decide) (by decide)) (fun x => ⟨_, rfl⟩) (fun x i' h' => by simp only [St.curC, cur3, refP, pinK, pinB]; simp only [nrm, Nat.reduceBEq, Nat.reduceBNe, reduceIte]; rfl) fun x25 ci25 ch25 hp25 hci25 => ?_
    refine TL.valE rfl (by first | exact Val.field rfl rfl rfl | exact Val.fieldC rfl rfl rfl) (by simp only [St.put, List.set_cons_succ, List.set_cons_zero, List.getElem_toArray, List.getElem_cons_succ, List.getElem_cons_zero, Nat.zero_add, Nat.reduceAdd]; rfl) ?_
    refine TL.opK rfl fun K hK => ?_
    refine OpT.store (z := 1) rfl rfl rfl rfl rfl rfl (by simp [St.store1, St.storeAll, St.cellAt, St.isMem, St.root, St.wrote, St.kill, St.setRoot, TS.kill, TV.kill, C.kill, Rt.kill, hitR, hitP, shapeOf, setRow, setAt, rowAt, D.row, D.reRow, List.isPrefixOf]; rfl) ?_ -- None
    simp only [nrm, Nat.reduceBEq, Nat.reduceBNe, reduceIte]
    refine hK _ ?_
    clear hK K
    refine TL.nil ?_
    show TC _ _ _ _ _ _
    refine TC.seq ?_
    -- region 54
    refine TC.region ?_
    refine TL.valE rfl (by first | exact Val.loadCAgg (n := 6) rfl rfl rfl rfl (Nat.le_of_ble_eq_true rfl) | exact Val.loadAgg (n := 6) rfl rfl rfl rfl (by simp [St.cellsAt, St.cellAt, St.root, valC]; rfl) rfl | exact Val.loadAgg (n := 6) rfl rfl rfl rfl rfl rfl) (by simp only [St.put, List.set_cons_succ, List.set_cons_zero, valC, dAct, rAct, D.row, List.take_succ_cons, List.take_zero, List.map_cons, List.map_nil]; rfl) ?_
    refine TL.opK rfl fun K hK => ?_
    refine OpT.storeAgg rfl rfl rfl rfl rfl rfl (by simp [St.store1, St.storeAll, St.cellAt, St.isMem, St.root, St.wrote, St.kill, St.setRoot, TS.kill, TV.kill, C.kill, Rt.kill, hitR, hitP, shapeOf, setRow, setAt, rowAt, D.row, D.reRow, List.isPrefixOf]; rfl) ?_ -- None
    simp only [nrm, Nat.reduceBEq, Nat.reduceBNe, reduceIte]
    refine hK _ ?_
    clear hK K
    refine TL.nil ?_
    show TC _ _ _ _ _ _
    refine TC.ret ?_
    exact ⟨.inr rfl, [_], [_], _, _, _, rfl, by decide, rfl, by simp [refV, refC, valC], rfl, rfl, by assumption, rdAct _ _ _ _ _ _ rfl⟩
  have hk13 := hb
  -- region 5
  refine TC.region ?_
  refine TL.vE (Val.eql rfl rfl rfl) ?_
  refine TL.vE (Val.assign 1 rfl rfl) ?_
  refine TL.nil ?_
  show TC _ _ _ _ _ _
  refine TC.cond rfl (fun hb => ?_) (fun hb => ?_)
  · have hk13 := hb
    refine TC.seq ?_
    -- region 6
    refine TC.region ?_
    refine TL.valE rfl (by first | exact Val.field rfl rfl rfl | exact Val.fieldC rfl rfl rfl) (by simp only [St.put, List.set_cons_succ, List.set_cons_zero, List.getElem_toArray, List.getElem_cons_succ, List.getElem_cons_zero, Nat.zero_add, Nat.reduceAdd]; rfl) ?_
    refine TL.opK rfl fun K hK => ?_
    refine OpT.store (z := 1) rfl rfl rfl rfl rfl rfl (by simp [St.store1, St.storeAll, St.cellAt, St.isMem, St.root, St.wrote, St.kill, St.setRoot, TS.kill, TV.kill, C.kill, Rt.kill, hitR, hitP, shapeOf, setRow, setAt, rowAt, D.row, D.reRow, List.isPrefixOf]; rfl) ?_ -- None
    simp only [nrm, Nat.reduceBEq, Nat.reduceBNe, reduceIte]
    refine hK _ ?_
    clear hK K
    refine TL.nil ?_
    show TC _ _ _ _ _ _
    refine TC.seq ?_
    -- region 7
    refine TC.region ?_
    refine TL.vE (Val.move 1 rfl rfl) ?_
    refine TL.drawP (yes_none rfl) rfl rfl rfl rfl rfl (K := 1000001) rfl (by first | exact .inl rfl | exact .inr ⟨rfl, by decide, rfl⟩) (by first | assumption | omega) (by repeat first | exact .nil | refine SnapsD.cons .cur ?_ | refine SnapsD.cons (.ro _) ?_ | refine SnapsD.cons (.aggRo _) ?_ | refine SnapsD.cons (.ref _ _ rfl (by first | assumption | exact whole_map _ _ (fun w c hc => by simp only [D.row, List.mem_cons, List.not_mem_nil, or_false] at hc; subst hc; exact .v _)) (by decide)) ?_) (spec_l01Below_c hby hn 4 (by decide)) (fun x => ⟨_, rfl⟩) (fun x i' h' => by simp only [St.curC, cur3, refP, pinK, pinB]; simp only [nrm, Nat.reduceBEq, Nat.reduceBNe, reduceIte]; rfl) fun x18 ci18 ch18 hp18 hci18 => ?_
    refine TL.valE rfl (by first | exact Val.field rfl rfl rfl | exact Val.fieldC rfl rfl rfl) (by simp only [St.put, List.set_cons_succ, List.set_cons_zero, List.getElem_toArray, List.getElem_cons_succ, List.getElem_cons_zero, Nat.zero_add, Nat.reduceAdd]; rfl) ?_
    refine TL.opK rfl fun K hK => ?_
    refine OpT.store (z := 1) rfl rfl rfl rfl rfl rfl (by simp [St.store1, St.storeAll, St.cellAt, St.isMem, St.root, St.wrote, St.kill, St.setRoot, TS.kill, TV.kill, C.kill, Rt.kill, hitR, hitP, shapeOf, setRow, setAt, rowAt, D.row, D.reRow, List.isPrefixOf]; rfl) ?_ -- None
    simp only [nrm, Nat.reduceBEq, Nat.reduceBNe, reduceIte]
    refine hK _ ?_
    clear hK K
    refine TL.nil ?_
    show TC _ _ _ _ _ _
    refine TC.seq ?_
    -- region 8
    refine TC.region ?_
    refine TL.vE (Val.move 1 rfl rfl) ?_
    refine TL.drawP (yes_none rfl) rfl rfl rfl rfl rfl (K := 1000001) rfl (by first | exact .inl rfl | exact .inr ⟨rfl, by decide, rfl⟩) (by first | assumption | omega) (by repeat first | exact .nil | refine SnapsD.cons .cur ?_ | refine SnapsD.cons (.ro _) ?_ | refine SnapsD.cons (.aggRo _) ?_ | refine SnapsD.cons (.ref _ _ rfl (by first | assumption | exact whole_map _ _ (fun w c hc => by simp only [D.row, List.mem_cons, List.not_mem_nil, or_false] at hc; subst hc; exact .v _)) (by decide)) ?_) (spec_l01Below_c hby hn 8 (by decide)) (fun x => ⟨_, rfl⟩) (fun x i' h' => by simp only [St.curC, cur3, refP, pinK, pinB]; simp only [nrm, Nat.reduceBEq, Nat.reduceBNe, reduceIte]; rfl) fun x21 ci21 ch21 hp21 hci21 => ?_
    refine TL.valE rfl (by first | exact Val.field rfl rfl rfl | exact Val.fieldC rfl rfl rfl) (by simp only [St.put, List.set_cons_succ, List.set_cons_zero, List.getElem_toArray, List.getElem_cons_succ, List.getElem_cons_zero, Nat.zero_add, Nat.reduceAdd]; rfl) ?_
    refine TL.opK rfl fun K hK => ?_
    refine OpT.store (z := 1) rfl rfl rfl rfl rfl rfl (by simp [St.store1, St.storeAll, St.cellAt, St.isMem, St.root, St.wrote, St.kill, St.setRoot, TS.kill, TV.kill, C.kill, Rt.kill, hitR, hitP, shapeOf, setRow, setAt, rowAt, D.row, D.reRow, List.isPrefixOf]; rfl) ?_ -- None
    simp only [nrm, Nat.reduceBEq, Nat.reduceBNe, reduceIte]
    refine hK _ ?_
    clear hK K
    refine TL.nil ?_
    show TC _ _ _ _ _ _
    -- region 9
    refine TC.region ?_
    refine TL.vE (Val.move 1 rfl rfl) ?_
    refine TL.opK rfl fun K hK => ?_
    refine OpT.buildP rfl rfl (xs := [(Go.Operand.const (Go.Value.int Go.IntKind.i64 3)), (Go.Operand.const (Go.Value.int Go.IntKind.i64 3)), (Go.Operand.const (Go.Value.int Go.IntKind.i64 1)), (Go.Operand.const (Go.Value.int Go.IntKind.i64 2))]) rfl rfl rfl rfl (sz := 1) rfl rfl rfl (by decide) (by decide) ?_ -- 24
    simp only [nrm, Nat.reduceBEq, Nat.reduceBNe, reduceIte]
    refine hK _ ?_
    clear hK K
    refine TL.drawP (yes_none rfl) rfl rfl rfl rfl rfl (K := 1000001) rfl (by first | exact .inl rfl | exact .inr ⟨rfl, by decide, rfl⟩) (by first | assumption | omega) (by repeat first | exact .nil | refine SnapsD.cons .cur ?_ | refine SnapsD.cons (.ro _) ?_ | refine SnapsD.cons (.aggRo _) ?_ | refine SnapsD.cons (.ref _ _ rfl (by first | assumption | exact whole_map _ _ (fun w c hc => by simp only [D.row, List.mem_cons, List.not_mem_nil, or_false] at hc; subst hc; exact .v _)) (by decide)) ?_) (spec_l01PickInt_c hby hn [3, 3, 1, 2] (by decide) (by decide)) (fun x => ⟨_, rfl⟩) (fun x i' h' => by simp only [St.curC, cur3, refP, pinK, pinB]; simp only [nrm, Nat.reduceBEq, Nat.reduceBNe, reduceIte]; rfl) fun x25 ci25 ch25 hp25 hci25 => ?_
    refine TL.valE rfl (by first | exact Val.field rfl rfl rfl | exact Val.fieldC rfl rfl rfl) (by simp only [St.put, List.set_cons_succ, List.set_cons_zero, List.getElem_toArray, List.getElem_cons_succ, List.getElem_cons_zero, Nat.zero_add, Nat.reduceAdd]; rfl) ?_
    refine TL.opK rfl fun K hK => ?_
    refine OpT.store (z := 1) rfl rfl rfl rfl rfl rfl (by simp [St.store1, St.storeAll, St.cellAt, St.isMem, St.root, St.wrote, St.kill, St.setRoot, TS.kill, TV.kill, C.kill, Rt.kill, hitR, hitP, shapeOf, setRow, setAt, rowAt, D.row, D.reRow, List.isPrefixOf]; rfl) ?_ -- None
    simp only [nrm, Nat.reduceBEq, Nat.reduceBNe, reduceIte]
    refine hK _ ?_
    clear hK K
    refine TL.nil ?_
    show TC _ _ _ _ _ _
    refine TC.seq ?_
    -- region 54
    refine TC.region ?_
    refine TL.valE rfl (by first | exact Val.loadCAgg (n := 6) rfl rfl rfl rfl (Nat.le_of_ble_eq_true rfl) | exact Val.loadAgg (n := 6) rfl rfl rfl rfl (by simp [St.cellsAt, St.cellAt, St.root, valC]; rfl) rfl | exact Val.loadAgg (n := 6) rfl rfl rfl rfl rfl rfl) (by simp only [St.put, List.set_cons_succ, List.set_cons_zero, valC, dAct, rAct, D.row, List.take_succ_cons, List.take_zero, List.map_cons, List.map_nil]; rfl) ?_
    refine TL.opK rfl fun K hK => ?_
    refine OpT.storeAgg rfl rfl rfl rfl rfl rfl (by simp [St.store1, St.storeAll, St.cellAt, St.isMem, St.root, St.wrote, St.kill, St.setRoot, TS.kill, TV.kill, C.kill, Rt.kill, hitR, hitP, shapeOf, setRow, setAt, rowAt, D.row, D.reRow, List.isPrefixOf]; rfl) ?_ -- None
    simp only [nrm, Nat.reduceBEq, Nat.reduceBNe, reduceIte]
    refine hK _ ?_
    clear hK K
    refine TL.nil ?_
    show TC _ _ _ _ _ _
    refine TC.ret ?_
    exact ⟨.inr rfl, [_], [_], _, _, _, rfl, by decide, rfl, by simp [refV, refC, valC], rfl, rfl, by assumption, rdAct _ _ _ _ _ _ rfl⟩
  have hk13 := hb
  refine TC.seq ?_
  refine TC.seq ?_
  -- region 10
  refine TC.region ?_
  refine TL.vE (Val.eql rfl rfl rfl) ?_
  refine TL.vE (Val.assign 1 rfl rfl) ?_
  refine TL.nil ?_
  show TC _ _ _ _ _ _
  refine TC.cond rfl (fun hb => ?_) (fun hb => ?_)
  · have hk27 := hb
    refine TC.skip ?_
    show TC _ _ _ _ _ _
    refine TC.cond rfl (fun hb => ?_) (fun hc => absurd (hc.symm.trans hk27) (by decide))
    refine TC.seq ?_
    -- region 12
    refine TC.region ?_
    refine TL.valE rfl (by first | exact Val.field rfl rfl rfl | exact Val.fieldC rfl rfl rfl) (by simp only [St.put, List.set_cons_succ, List.set_cons_zero, List.getElem_toArray, List.getElem_cons_succ, List.getElem_cons_zero, Nat.zero_add, Nat.reduceAdd]; rfl) ?_
    refine TL.opK rfl fun K hK => ?_
    refine OpT.store (z := 1) rfl rfl rfl rfl rfl rfl (by simp [St.store1, St.storeAll, St.cellAt, St.isMem, St.root, St.wrote, St.kill, St.setRoot, TS.kill, TV.kill, C.kill, Rt.kill, hitR, hitP, shapeOf, setRow, setAt, rowAt, D.row, D.reRow, List.isPrefixOf]; rfl) ?_ -- None
    simp only [nrm, Nat.reduceBEq, Nat.reduceBNe, reduceIte]
    refine hK _ ?_
    clear hK K
    refine TL.nil ?_
    show TC _ _ _ _ _ _
    -- region 13
    refine TC.region ?_
    refine TL.vE (Val.move 1 rfl rfl) ?_
    refine TL.drawP (yes_none rfl) rfl rfl rfl rfl rfl (K := 1000001) rfl (by first | exact .inl rfl | exact .inr ⟨rfl, by decide, rfl⟩) (by first | assumption | omega) (by repeat first | exact .nil | refine SnapsD.cons .cur ?_ | refine SnapsD.cons (.ro _) ?_ | refine SnapsD.cons (.aggRo _) ?_ | refine SnapsD.cons (.ref _ _ rfl (by first | assumption | exact whole_map _ _ (fun w c hc => by simp only [D.row, List.mem_cons, List.not_mem_nil, or_false] at hc; subst hc; exact .v _)) (by decide)) ?_) (spec_l01Below_c hby hn 4 (by decide)) (fun x => ⟨_, rfl⟩) (fun x i' h' => by simp only [St.curC, cur3, refP, pinK, pinB]; simp only [nrm, Nat.reduceBEq, Nat.reduceBNe, reduceIte]; rfl) fun x32 ci32 ch32 hp32 hci32 => ?_
    refine TL.valE rfl (by first | exact Val.field rfl rfl rfl | exact Val.fieldC rfl rfl rfl) (by simp only [St.put, List.set_cons_succ, List.set_cons_zero, List.getElem_toArray, List.getElem_cons_succ, List.getElem_cons_zero, Nat.zero_add, Nat.reduceAdd]; rfl) ?_
    refine TL.opK rfl fun K hK => ?_
    refine OpT.store (z := 1) rfl rfl rfl rfl rfl rfl (by simp [St.store1, St.storeAll, St.cellAt, St.isMem, St.root, St.wrote, St.kill, St.setRoot, TS.kill, TV.kill, C.kill, Rt.kill, hitR, hitP, shapeOf, setRow, setAt, rowAt, D.row, D.reRow, List.isPrefixOf]; rfl) ?_ -- None
    simp only [nrm, Nat.reduceBEq, Nat.reduceBNe, reduceIte]
    refine hK _ ?_
    clear hK K
    refine TL.nil ?_
    show TC _ _ _ _ _ _
    refine TC.seq ?_
    -- region 54
    refine TC.region ?_
    refine TL.valE rfl (by first | exact Val.loadCAgg (n := 6) rfl rfl rfl rfl (Nat.le_of_ble_eq_true rfl) | exact Val.loadAgg (n := 6) rfl rfl rfl rfl (by simp [St.cellsAt, St.cellAt, St.root, valC]; rfl) rfl | exact Val.loadAgg (n := 6) rfl rfl rfl rfl rfl rfl) (by simp only [St.put, List.set_cons_succ, List.set_cons_zero, valC, dAct, rAct, D.row, List.take_succ_cons, List.take_zero, List.map_cons, List.map_nil]; rfl) ?_
    refine TL.opK rfl fun K hK => ?_
    refine OpT.storeAgg rfl rfl rfl rfl rfl rfl (by simp [St.store1, St.storeAll, St.cellAt, St.isMem, St.root, St.wrote, St.kill, St.setRoot, TS.kill, TV.kill, C.kill, Rt.kill, hitR, hitP, shapeOf, setRow, setAt, rowAt, D.row, D.reRow, List.isPrefixOf]; rfl) ?_ -- None
    simp only [nrm, Nat.reduceBEq, Nat.reduceBNe, reduceIte]
    refine hK _ ?_
    clear hK K
    refine TL.nil ?_
    show TC _ _ _ _ _ _
    refine TC.ret ?_
    exact ⟨.inr rfl, [_], [_], _, _, _, rfl, by decide, rfl, by simp [refV, refC, valC], rfl, rfl, by assumption, rdAct _ _ _ _ _ _ rfl⟩
  have hk27 := hb
  -- region 11
  refine TC.region ?_
  refine TL.vE (Val.eql rfl rfl rfl) ?_
  refine TL.vE (Val.assign 1 rfl rfl) ?_
  refine TL.nil ?_
  show TC _ _ _ _ _ _
  refine TC.cond rfl (fun hb => ?_) (fun hb => ?_)
  · have hk27 := hb
    refine TC.seq ?_
    -- region 12
    refine TC.region ?_
    refine TL.valE rfl (by first | exact Val.field rfl rfl rfl | exact Val.fieldC rfl rfl rfl) (by simp only [St.put, List.set_cons_succ, List.set_cons_zero, List.getElem_toArray, List.getElem_cons_succ, List.getElem_cons_zero, Nat.zero_add, Nat.reduceAdd]; rfl) ?_
    refine TL.opK rfl fun K hK => ?_
    refine OpT.store (z := 1) rfl rfl rfl rfl rfl rfl (by simp [St.store1, St.storeAll, St.cellAt, St.isMem, St.root, St.wrote, St.kill, St.setRoot, TS.kill, TV.kill, C.kill, Rt.kill, hitR, hitP, shapeOf, setRow, setAt, rowAt, D.row, D.reRow, List.isPrefixOf]; rfl) ?_ -- None
    simp only [nrm, Nat.reduceBEq, Nat.reduceBNe, reduceIte]
    refine hK _ ?_
    clear hK K
    refine TL.nil ?_
    show TC _ _ _ _ _ _
    -- region 13
    refine TC.region ?_
    refine TL.vE (Val.move 1 rfl rfl) ?_
    refine TL.drawP (yes_none rfl) rfl rfl rfl rfl rfl (K := 1000001) rfl (by first | exact .inl rfl | exact .inr ⟨rfl, by decide, rfl⟩) (by first | assumption | omega) (by repeat first | exact .nil | refine SnapsD.cons .cur ?_ | refine SnapsD.cons (.ro _) ?_ | refine SnapsD.cons (.aggRo _) ?_ | refine SnapsD.cons (.ref _ _ rfl (by first | assumption | exact whole_map _ _ (fun w c hc => by simp only [D.row, List.mem_cons, List.not_mem_nil, or_false] at hc; subst hc; exact .v _)) (by decide)) ?_) (spec_l01Below_c hby hn 4 (by decide)) (fun x => ⟨_, rfl⟩) (fun x i' h' => by simp only [St.curC, cur3, refP, pinK, pinB]; simp only [nrm, Nat.reduceBEq, Nat.reduceBNe, reduceIte]; rfl) fun x32 ci32 ch32 hp32 hci32 => ?_
    refine TL.valE rfl (by first | exact Val.field rfl rfl rfl | exact Val.fieldC rfl rfl rfl) (by simp only [St.put, List.set_cons_succ, List.set_cons_zero, List.getElem_toArray, List.getElem_cons_succ, List.getElem_cons_zero, Nat.zero_add, Nat.reduceAdd]; rfl) ?_
    refine TL.opK rfl fun K hK => ?_
    refine OpT.store (z := 1) rfl rfl rfl rfl rfl rfl (by simp [St.store1, St.storeAll, St.cellAt, St.isMem, St.root, St.wrote, St.kill, St.setRoot, TS.kill, TV.kill, C.kill, Rt.kill, hitR, hitP, shapeOf, setRow, setAt, rowAt, D.row, D.reRow, List.isPrefixOf]; rfl) ?_ -- None
    simp only [nrm, Nat.reduceBEq, Nat.reduceBNe, reduceIte]
    refine hK _ ?_
    clear hK K
    refine TL.nil ?_
    show TC _ _ _ _ _ _
    refine TC.seq ?_
    -- region 54
    refine TC.region ?_
    refine TL.valE rfl (by first | exact Val.loadCAgg (n := 6) rfl rfl rfl rfl (Nat.le_of_ble_eq_true rfl) | exact Val.loadAgg (n := 6) rfl rfl rfl rfl (by simp [St.cellsAt, St.cellAt, St.root, valC]; rfl) rfl | exact Val.loadAgg (n := 6) rfl rfl rfl rfl rfl rfl) (by simp only [St.put, List.set_cons_succ, List.set_cons_zero, valC, dAct, rAct, D.row, List.take_succ_cons, List.take_zero, List.map_cons, List.map_nil]; rfl) ?_
    refine TL.opK rfl fun K hK => ?_
    refine OpT.storeAgg rfl rfl rfl rfl rfl rfl (by simp [St.store1, St.storeAll, St.cellAt, St.isMem, St.root, St.wrote, St.kill, St.setRoot, TS.kill, TV.kill, C.kill, Rt.kill, hitR, hitP, shapeOf, setRow, setAt, rowAt, D.row, D.reRow, List.isPrefixOf]; rfl) ?_ -- None
    simp only [nrm, Nat.reduceBEq, Nat.reduceBNe, reduceIte]
    refine hK _ ?_
    clear hK K
    refine TL.nil ?_
    show TC _ _ _ _ _ _
    refine TC.ret ?_
    exact ⟨.inr rfl, [_], [_], _, _, _, rfl, by decide, rfl, by simp [refV, refC, valC], rfl, rfl, by assumption, rdAct _ _ _ _ _ _ rfl⟩
  have hk27 := hb
  refine TC.seq ?_
  -- region 14
  refine TC.region ?_
  refine TL.vE (Val.eql rfl rfl rfl) ?_
  refine TL.vE (Val.assign 1 rfl rfl) ?_
  refine TL.nil ?_
  show TC _ _ _ _ _ _
  refine TC.cond rfl (fun hb => ?_) (fun hb => ?_)
  · have hk34 := hb
    refine TC.seq ?_
    -- region 15
    refine TC.region ?_
    refine TL.valE rfl (by first | exact Val.field rfl rfl rfl | exact Val.fieldC rfl rfl rfl) (by simp only [St.put, List.set_cons_succ, List.set_cons_zero, List.getElem_toArray, List.getElem_cons_succ, List.getElem_cons_zero, Nat.zero_add, Nat.reduceAdd]; rfl) ?_
    refine TL.opK rfl fun K hK => ?_
    refine OpT.store (z := 1) rfl rfl rfl rfl rfl rfl (by simp [St.store1, St.storeAll, St.cellAt, St.isMem, St.root, St.wrote, St.kill, St.setRoot, TS.kill, TV.kill, C.kill, Rt.kill, hitR, hitP, shapeOf, setRow, setAt, rowAt, D.row, D.reRow, List.isPrefixOf]; rfl) ?_ -- None
    simp only [nrm, Nat.reduceBEq, Nat.reduceBNe, reduceIte]
    refine hK _ ?_
    clear hK K
    refine TL.nil ?_
    show TC _ _ _ _ _ _
    -- region 16
    refine TC.region ?_
    refine TL.vE (Val.move 1 rfl rfl) ?_
    refine TL.drawP (yes_none rfl) rfl rfl rfl rfl rfl (K := 1000001) rfl (by first | exact .inl rfl | exact .inr ⟨rfl, by decide, rfl⟩) (by first | assumption | omega) (by repeat first | exact .nil | refine SnapsD.cons .cur ?_ | refine SnapsD.cons (.ro _) ?_ | refine SnapsD.cons (.aggRo _) ?_ | refine SnapsD.cons (.ref _ _ rfl (by first | assumption | exact whole_map _ _ (fun w c hc => by simp only [D.row, List.mem_cons, List.not_mem_nil, or_false] at hc; subst hc; exact .v _)) (by decide)) ?_) (spec_l01Below_c hby hn 100 (by decide)) (fun x => ⟨_, rfl⟩) (fun x i' h' => by simp only [St.curC, cur3, refP, pinK, pinB]; simp only [nrm, Nat.reduceBEq, Nat.reduceBNe, reduceIte]; rfl) fun x38 ci38 ch38 hp38 hci38 => ?_
    refine TL.valE rfl (by first | exact Val.field rfl rfl rfl | exact Val.fieldC rfl rfl rfl) (by simp only [St.put, List.set_cons_succ, List.set_cons_zero, List.getElem_toArray, List.getElem_cons_succ, List.getElem_cons_zero, Nat.zero_add, Nat.reduceAdd]; rfl) ?_
    refine TL.opK rfl fun K hK => ?_
    refine OpT.store (z := 1) rfl rfl rfl rfl rfl rfl (by simp [St.store1, St.storeAll, St.cellAt, St.isMem, St.root, St.wrote, St.kill, St.setRoot, TS.kill, TV.kill, C.kill, Rt.kill, hitR, hitP, shapeOf, setRow, setAt, rowAt, D.row, D.reRow, List.isPrefixOf]; rfl) ?_ -- None
    simp only [nrm, Nat.reduceBEq, Nat.reduceBNe, reduceIte]
    refine hK _ ?_
    clear hK K
    refine TL.nil ?_
    show TC _ _ _ _ _ _
    refine TC.seq ?_
    -- region 54
    refine TC.region ?_
    refine TL.valE rfl (by first | exact Val.loadCAgg (n := 6) rfl rfl rfl rfl (Nat.le_of_ble_eq_true rfl) | exact Val.loadAgg (n := 6) rfl rfl rfl rfl (by simp [St.cellsAt, St.cellAt, St.root, valC]; rfl) rfl | exact Val.loadAgg (n := 6) rfl rfl rfl rfl rfl rfl) (by simp only [St.put, List.set_cons_succ, List.set_cons_zero, valC, dAct, rAct, D.row, List.take_succ_cons, List.take_zero, List.map_cons, List.map_nil]; rfl) ?_
    refine TL.opK rfl fun K hK => ?_
    refine OpT.storeAgg rfl rfl rfl rfl rfl rfl (by simp [St.store1, St.storeAll, St.cellAt, St.isMem, St.root, St.wrote, St.kill, St.setRoot, TS.kill, TV.kill, C.kill, Rt.kill, hitR, hitP, shapeOf, setRow, setAt, rowAt, D.row, D.reRow, List.isPrefixOf]; rfl) ?_ -- None
    simp only [nrm, Nat.reduceBEq, Nat.reduceBNe, reduceIte]
    refine hK _ ?_
    clear hK K
    refine TL.nil ?_
    show TC _ _ _ _ _ _
    refine TC.ret ?_
    exact ⟨.inr rfl, [_], [_], _, _, _, rfl, by decide, rfl, by simp [refV, refC, valC], rfl, rfl, by assumption, rdAct _ _ _ _ _ _ rfl⟩
  have hk34 := hb
  refine TC.seq ?_
  refine TC.seq ?_
  -- region 17
  refine TC.region ?_
  refine TL.vE (Val.eql rfl rfl rfl) ?_
  refine TL.vE (Val.assign 1 rfl rfl) ?_
  refine TL.nil ?_
  show TC _ _ _ _ _ _
  refine TC.cond rfl (fun hb => ?_) (fun hb => ?_)
  · have hk40 := hb
    refine TC.skip ?_
    show TC _ _ _ _ _ _
    refine TC.cond rfl (fun hb => ?_) (fun hc => absurd (hc.symm.trans hk40) (by decide))
    -- region 19
    refine TC.region ?_
    refine TL.valE rfl (by first | exact Val.field rfl rfl rfl | exact Val.fieldC rfl rfl rfl) (by simp only [St.put, List.set_cons_succ, List.set_cons_zero, List.getElem_toArray, List.getElem_cons_succ, List.getElem_cons_zero, Nat.zero_add, Nat.reduceAdd]; rfl) ?_
    refine TL.opK rfl fun K hK => ?_
    refine OpT.store (z := 1) rfl rfl rfl rfl rfl rfl (by simp [St.store1, St.storeAll, St.cellAt, St.isMem, St.root, St.wrote, St.kill, St.setRoot, TS.kill, TV.kill, C.kill, Rt.kill, hitR, hitP, shapeOf, setRow, setAt, rowAt, D.row, D.reRow, List.isPrefixOf]; rfl) ?_ -- None
    simp only [nrm, Nat.reduceBEq, Nat.reduceBNe, reduceIte]
    refine hK _ ?_
    clear hK K
    refine TL.nil ?_
    show TC _ _ _ _ _ _
    refine TC.seq ?_
    -- region 54
    refine TC.region ?_
    refine TL.valE rfl (by first | exact Val.loadCAgg (n := 6) rfl rfl rfl rfl (Nat.le_of_ble_eq_true rfl) | exact Val.loadAgg (n := 6) rfl rfl rfl rfl (by simp [St.cellsAt, St.cellAt, St.root, valC]; rfl) rfl | exact Val.loadAgg (n := 6) rfl rfl rfl rfl rfl rfl) (by simp only [St.put, List.set_cons_succ, List.set_cons_zero, valC, dAct, rAct, D.row, List.take_succ_cons, List.take_zero, List.map_cons, List.map_nil]; rfl) ?_
    refine TL.opK rfl fun K hK => ?_
    refine OpT.storeAgg rfl rfl rfl rfl rfl rfl (by simp [St.store1, St.storeAll, St.cellAt, St.isMem, St.root, St.wrote, St.kill, St.setRoot, TS.kill, TV.kill, C.kill, Rt.kill, hitR, hitP, shapeOf, setRow, setAt, rowAt, D.row, D.reRow, List.isPrefixOf]; rfl) ?_ -- None
    simp only [nrm, Nat.reduceBEq, Nat.reduceBNe, reduceIte]
    refine hK _ ?_
    clear hK K
    refine TL.nil ?_
    show TC _ _ _ _ _ _
    refine TC.ret ?_
    exact ⟨.inr rfl, [_], [_], _, _, _, rfl, by decide, rfl, by simp [refV, refC, valC], rfl, rfl, by assumption, rdAct _ _ _ _ _ _ rfl⟩
  have hk40 := hb
  -- region 18
  refine TC.region ?_
  refine TL.vE (Val.eql rfl rfl rfl) ?_
  refine TL.vE (Val.assign 1 rfl rfl) ?_
  refine TL.nil ?_
  show TC _ _ _ _ _ _
  refine TC.cond rfl (fun hb => ?_) (fun hb => ?_)
  · have hk40 := hb
    -- region 19
    refine TC.region ?_
    refine TL.valE rfl (by first | exact Val.field rfl rfl rfl | exact Val.fieldC rfl rfl rfl) (by simp only [St.put, List.set_cons_succ, List.set_cons_zero, List.getElem_toArray, List.getElem_cons_succ, List.getElem_cons_zero, Nat.zero_add, Nat.reduceAdd]; rfl) ?_
    refine TL.opK rfl fun K hK => ?_
    refine OpT.store (z := 1) rfl rfl rfl rfl rfl rfl (by simp [St.store1, St.storeAll, St.cellAt, St.isMem, St.root, St.wrote, St.kill, St.setRoot, TS.kill, TV.kill, C.kill, Rt.kill, hitR, hitP, shapeOf, setRow, setAt, rowAt, D.row, D.reRow, List.isPrefixOf]; rfl) ?_ -- None
    simp only [nrm, Nat.reduceBEq, Nat.reduceBNe, reduceIte]
    refine hK _ ?_
    clear hK K
    refine TL.nil ?_
    show TC _ _ _ _ _ _
    refine TC.seq ?_
    -- region 54
    refine TC.region ?_
    refine TL.valE rfl (by first | exact Val.loadCAgg (n := 6) rfl rfl rfl rfl (Nat.le_of_ble_eq_true rfl) | exact Val.loadAgg (n := 6) rfl rfl rfl rfl (by simp [St.cellsAt, St.cellAt, St.root, valC]; rfl) rfl | exact Val.loadAgg (n := 6) rfl rfl rfl rfl rfl rfl) (by simp only [St.put, List.set_cons_succ, List.set_cons_zero, valC, dAct, rAct, D.row, List.take_succ_cons, List.take_zero, List.map_cons, List.map_nil]; rfl) ?_
    refine TL.opK rfl fun K hK => ?_
    refine OpT.storeAgg rfl rfl rfl rfl rfl rfl (by simp [St.store1, St.storeAll, St.cellAt, St.isMem, St.root, St.wrote, St.kill, St.setRoot, TS.kill, TV.kill, C.kill, Rt.kill, hitR, hitP, shapeOf, setRow, setAt, rowAt, D.row, D.reRow, List.isPrefixOf]; rfl) ?_ -- None
    simp only [nrm, Nat.reduceBEq, Nat.reduceBNe, reduceIte]
    refine hK _ ?_
    clear hK K
    refine TL.nil ?_
    show TC _ _ _ _ _ _
    refine TC.ret ?_
    exact ⟨.inr rfl, [_], [_], _, _, _, rfl, by decide, rfl, by simp [refV, refC, valC], rfl, rfl, by assumption, rdAct _ _ _ _ _ _ rfl⟩
  have hk40 := hb
  refine TC.seq ?_
  -- region 20
  refine TC.region ?_
  refine TL.vE (Val.eql rfl rfl rfl) ?_
  refine TL.vE (Val.assign 1 rfl rfl) ?_
  refine TL.nil ?_
  show TC _ _ _ _ _ _
  refine TC.cond rfl (fun hb => ?_) (fun hb => ?_)
  · have hk44 := hb
    refine TC.seq ?_
    -- region 21
    refine TC.region ?_
    refine TL.valE rfl (by first | exact Val.field rfl rfl rfl | exact Val.fieldC rfl rfl rfl) (by simp only [St.put, List.set_cons_succ, List.set_cons_zero, List.getElem_toArray, List.getElem_cons_succ, List.getElem_cons_zero, Nat.zero_add, Nat.reduceAdd]; rfl) ?_
    refine TL.opK rfl fun K hK => ?_
    refine OpT.store (z := 1) rfl rfl rfl rfl rfl rfl (by simp [St.store1, St.storeAll, St.cellAt, St.isMem, St.root, St.wrote, St.kill, St.setRoot, TS.kill, TV.kill, C.kill, Rt.kill, hitR, hitP, shapeOf, setRow, setAt, rowAt, D.row, D.reRow, List.isPrefixOf]; rfl) ?_ -- None
    simp only [nrm, Nat.reduceBEq, Nat.reduceBNe, reduceIte]
    refine hK _ ?_
    clear hK K
    refine TL.nil ?_
    show TC _ _ _ _ _ _
    -- region 22
    refine TC.region ?_
    refine TL.vE (Val.move 1 rfl rfl) ?_
    refine TL.drawP (yes_none rfl) rfl rfl rfl rfl rfl (K := 1000001) rfl (by first | exact .inl rfl | exact .inr ⟨rfl, by decide, rfl⟩) (by first | assumption | omega) (by repeat first | exact .nil | refine SnapsD.cons .cur ?_ | refine SnapsD.cons (.ro _) ?_ | refine SnapsD.cons (.aggRo _) ?_ | refine SnapsD.cons (.ref _ _ rfl (by first | assumption | exact whole_map _ _ (fun w c hc => by simp only [D.row, List.mem_cons, List.not_mem_nil, or_false] at hc; subst hc; exact .v _)) (by decide)) ?_) (spec_l01Below_c hby hn 8 (by decide)) (fun x => ⟨_, rfl⟩) (fun x i' h' => by simp only [St.curC, cur3, refP, pinK, pinB]; simp only [nrm, Nat.reduceBEq, Nat.reduceBNe, reduceIte]; rfl) fun x48 ci48 ch48 hp48 hci48 => ?_
    refine TL.valE rfl (by first | exact Val.field rfl rfl rfl | exact Val.fieldC rfl rfl rfl) (by simp only [St.put, List.set_cons_succ, List.set_cons_zero, List.getElem_toArray, List.getElem_cons_succ, List.getElem_cons_zero, Nat.zero_add, Nat.reduceAdd]; rfl) ?_
    refine TL.opK rfl fun K hK => ?_
    refine OpT.store (z := 1) rfl rfl rfl rfl rfl rfl (by simp [St.store1, St.storeAll, St.cellAt, St.isMem, St.root, St.wrote, St.kill, St.setRoot, TS.kill, TV.kill, C.kill, Rt.kill, hitR, hitP, shapeOf, setRow, setAt, rowAt, D.row, D.reRow, List.isPrefixOf]; rfl) ?_ -- None
    simp only [nrm, Nat.reduceBEq, Nat.reduceBNe, reduceIte]
    refine hK _ ?_
    clear hK K
    refine TL.nil ?_
    show TC _ _ _ _ _ _
    refine TC.seq ?_
    -- region 54
    refine TC.region ?_
    refine TL.valE rfl (by first | exact Val.loadCAgg (n := 6) rfl rfl rfl rfl (Nat.le_of_ble_eq_true rfl) | exact Val.loadAgg (n := 6) rfl rfl rfl rfl (by simp [St.cellsAt, St.cellAt, St.root, valC]; rfl) rfl | exact Val.loadAgg (n := 6) rfl rfl rfl rfl rfl rfl) (by simp only [St.put, List.set_cons_succ, List.set_cons_zero, valC, dAct, rAct, D.row, List.take_succ_cons, List.take_zero, List.map_cons, List.map_nil]; rfl) ?_
    refine TL.opK rfl fun K hK => ?_
    refine OpT.storeAgg rfl rfl rfl rfl rfl rfl (by simp [St.store1, St.storeAll, St.cellAt, St.isMem, St.root, St.wrote, St.kill, St.setRoot, TS.kill, TV.kill, C.kill, Rt.kill, hitR, hitP, shapeOf, setRow, setAt, rowAt, D.row, D.reRow, List.isPrefixOf]; rfl) ?_ -- None
    simp only [nrm, Nat.reduceBEq, Nat.reduceBNe, reduceIte]
    refine hK _ ?_
    clear hK K
    refine TL.nil ?_
    show TC _ _ _ _ _ _
    refine TC.ret ?_
    exact ⟨.inr rfl, [_], [_], _, _, _, rfl, by decide, rfl, by simp [refV, refC, valC], rfl, rfl, by assumption, rdAct _ _ _ _ _ _ rfl⟩
  have hk44 := hb
  refine TC.seq ?_
  -- region 23
  refine TC.region ?_
  refine TL.vE (Val.eql rfl rfl rfl) ?_
  refine TL.vE (Val.assign 1 rfl rfl) ?_
  refine TL.nil ?_
  show TC _ _ _ _ _ _
  refine TC.cond rfl (fun hb => ?_) (fun hb => ?_)
  · have hk50 := hb
    refine TC.seq ?_
    -- region 24
    refine TC.region ?_
    refine TL.valE rfl (by first | exact Val.field rfl rfl rfl | exact Val.fieldC rfl rfl rfl) (by simp only [St.put, List.set_cons_succ, List.set_cons_zero, List.getElem_toArray, List.getElem_cons_succ, List.getElem_cons_zero, Nat.zero_add, Nat.reduceAdd]; rfl) ?_
    refine TL.opK rfl fun K hK => ?_
    refine OpT.store (z := 1) rfl rfl rfl rfl rfl rfl (by simp [St.store1, St.storeAll, St.cellAt, St.isMem, St.root, St.wrote, St.kill, St.setRoot, TS.kill, TV.kill, C.kill, Rt.kill, hitR, hitP, shapeOf, setRow, setAt, rowAt, D.row, D.reRow, List.isPrefixOf]; rfl) ?_ -- None
    simp only [nrm, Nat.reduceBEq, Nat.reduceBNe, reduceIte]
    refine hK _ ?_
    clear hK K
    refine TL.nil ?_
    show TC _ _ _ _ _ _
    refine TC.seq ?_
    -- region 25
    refine TC.region ?_
    refine TL.vE (Val.move 1 rfl rfl) ?_
    refine TL.drawP (yes_none rfl) rfl rfl rfl rfl rfl (K := 1000001) rfl (by first | exact .inl rfl | exact .inr ⟨rfl, by decide, rfl⟩) (by first | assumption | omega) (by repeat first | exact .nil | refine SnapsD.cons .cur ?_ | refine SnapsD.cons (.ro _) ?_ | refine SnapsD.cons (.aggRo _) ?_ | refine SnapsD.cons (.ref _ _ rfl (by first | assumption | exact whole_map _ _ (fun w c hc => by simp only [D.row, List.mem_cons, List.not_mem_nil, or_false] at hc; subst hc; exact .v _)) (by decide)) ?_) (spec_l11Ctl_c hby hn) (fun x => ⟨_, rfl⟩) (fun x i' h' => by simp only [St.curC, cur3, refP, pinK, pinB]; simp only [nrm, Nat.reduceBEq, Nat.reduceBNe, reduceIte]; rfl) fun x54 ci54 ch54 hp54 hci54 => ?_
    refine TL.opK rfl fun K hK => ?_
    refine OpT.alloc rfl rfl rfl rfl rfl rfl ?_ -- 4
    simp only [nrm, Nat.reduceBEq, Nat.reduceBNe, reduceIte]
    refine hK _ ?_
    clear hK K
    refine TL.opK rfl fun K hK => ?_
    refine OpT.storeAgg rfl rfl rfl rfl rfl rfl (by simp [St.store1, St.storeAll, St.cellAt, St.isMem, St.root, St.wrote, St.kill, St.setRoot, TS.kill, TV.kill, C.kill, Rt.kill, hitR, hitP, shapeOf, setRow, setAt, rowAt, D.row, D.reRow, List.isPrefixOf]; rfl) ?_ -- None
    simp only [nrm, Nat.reduceBEq, Nat.reduceBNe, reduceIte]
    refine hK _ ?_
    clear hK K
    refine TL.nil ?_
    show TC _ _ _ _ _ _
    refine TC.seq ?_
    -- region 26
    refine TC.region ?_
    refine TL.valE rfl (by first | exact Val.field rfl rfl rfl | exact Val.fieldC rfl rfl rfl) (by simp only [St.put, List.set_cons_succ, List.set_cons_zero, List.getElem_toArray, List.getElem_cons_succ, List.getElem_cons_zero, Nat.zero_add, Nat.reduceAdd]; rfl) ?_
    refine TL.valE rfl (by first | exact Val.load rfl rfl rfl rfl rfl | exact Val.loadC rfl rfl rfl) (by simp only [nput, valC]; rfl) ?_
    refine TL.valE rfl (by first | exact Val.field rfl rfl rfl | exact Val.fieldC rfl rfl rfl) (by simp only [St.put, List.set_cons_succ, List.set_cons_zero, List.getElem_toArray, List.getElem_cons_succ, List.getElem_cons_zero, Nat.zero_add, Nat.reduceAdd]; rfl) ?_
    refine TL.opK rfl fun K hK => ?_
    refine OpT.store (z := 1) rfl rfl rfl rfl rfl rfl (by simp [St.store1, St.storeAll, St.cellAt, St.isMem, St.root, St.wrote, St.kill, St.setRoot, TS.kill, TV.kill, C.kill, Rt.kill, hitR, hitP, shapeOf, setRow, setAt, rowAt, D.row, D.reRow, List.isPrefixOf]; rfl) ?_ -- None
    simp only [nrm, Nat.reduceBEq, Nat.reduceBNe, reduceIte]
    refine hK _ ?_
    clear hK K
    refine TL.nil ?_
    show TC _ _ _ _ _ _
    refine TC.seq ?_
    -- region 27
    refine TC.region ?_
    refine TL.valE rfl (by first | exact Val.field rfl rfl rfl | exact Val.fieldC rfl rfl rfl) (by simp only [St.put, List.set_cons_succ, List.set_cons_zero, List.getElem_toArray, List.getElem_cons_succ, List.getElem_cons_zero, Nat.zero_add, Nat.reduceAdd]; rfl) ?_
    refine TL.valE rfl (by first | exact Val.load rfl rfl rfl rfl rfl | exact Val.loadC rfl rfl rfl) (by simp only [nput, valC]; rfl) ?_
    refine TL.valE rfl (by first | exact Val.field rfl rfl rfl | exact Val.fieldC rfl rfl rfl) (by simp only [St.put, List.set_cons_succ, List.set_cons_zero, List.getElem_toArray, List.getElem_cons_succ, List.getElem_cons_zero, Nat.zero_add, Nat.reduceAdd]; rfl) ?_
    refine TL.opK rfl fun K hK => ?_
    refine OpT.store (z := 1) rfl rfl rfl rfl rfl rfl (by simp [St.store1, St.storeAll, St.cellAt, St.isMem, St.root, St.wrote, St.kill, St.setRoot, TS.kill, TV.kill, C.kill, Rt.kill, hitR, hitP, shapeOf, setRow, setAt, rowAt, D.row, D.reRow, List.isPrefixOf]; rfl) ?_ -- None
    simp only [nrm, Nat.reduceBEq, Nat.reduceBNe, reduceIte]
    refine hK _ ?_
    clear hK K
    refine TL.nil ?_
    show TC _ _ _ _ _ _
    refine TC.seq ?_
    -- region 28
    refine TC.region ?_
    refine TL.valE rfl (by first | exact Val.field rfl rfl rfl | exact Val.fieldC rfl rfl rfl) (by simp only [St.put, List.set_cons_succ, List.set_cons_zero, List.getElem_toArray, List.getElem_cons_succ, List.getElem_cons_zero, Nat.zero_add, Nat.reduceAdd]; rfl) ?_
    refine TL.valE rfl (by first | exact Val.load rfl rfl rfl rfl rfl | exact Val.loadC rfl rfl rfl) (by simp only [nput, valC]; rfl) ?_
    refine TL.nil ?_
    show TC _ _ _ _ _ _
    refine TC.cond rfl (fun hb => ?_) (fun hb => ?_)
    · have hk62 := hb
      -- region 29
      refine TC.region ?_
      refine TL.valE rfl (by first | exact Val.field rfl rfl rfl | exact Val.fieldC rfl rfl rfl) (by simp only [St.put, List.set_cons_succ, List.set_cons_zero, List.getElem_toArray, List.getElem_cons_succ, List.getElem_cons_zero, Nat.zero_add, Nat.reduceAdd]; rfl) ?_
      refine TL.opK rfl fun K hK => ?_
      refine OpT.store (z := 1) rfl rfl rfl rfl rfl rfl (by simp [St.store1, St.storeAll, St.cellAt, St.isMem, St.root, St.wrote, St.kill, St.setRoot, TS.kill, TV.kill, C.kill, Rt.kill, hitR, hitP, shapeOf, setRow, setAt, rowAt, D.row, D.reRow, List.isPrefixOf]; rfl) ?_ -- None
      simp only [nrm, Nat.reduceBEq, Nat.reduceBNe, reduceIte]
      refine hK _ ?_
      clear hK K
      refine TL.nil ?_
      show TC _ _ _ _ _ _
      refine TC.seq ?_
      -- region 54
      refine TC.region ?_
      refine TL.valE rfl (by first | exact Val.loadCAgg (n := 6) rfl rfl rfl rfl (Nat.le_of_ble_eq_true rfl) | exact Val.loadAgg (n := 6) rfl rfl rfl rfl (by simp [St.cellsAt, St.cellAt, St.root, valC]; rfl) rfl | exact Val.loadAgg (n := 6) rfl rfl rfl rfl rfl rfl) (by simp only [St.put, List.set_cons_succ, List.set_cons_zero, valC, dAct, rAct, D.row, List.take_succ_cons, List.take_zero, List.map_cons, List.map_nil]; rfl) ?_
      refine TL.opK rfl fun K hK => ?_
      refine OpT.storeAgg rfl rfl rfl rfl rfl rfl (by simp [St.store1, St.storeAll, St.cellAt, St.isMem, St.root, St.wrote, St.kill, St.setRoot, TS.kill, TV.kill, C.kill, Rt.kill, hitR, hitP, shapeOf, setRow, setAt, rowAt, D.row, D.reRow, List.isPrefixOf]; rfl) ?_ -- None
      simp only [nrm, Nat.reduceBEq, Nat.reduceBNe, reduceIte]
      refine hK _ ?_
      clear hK K
      refine TL.nil ?_
      show TC _ _ _ _ _ _
      refine TC.ret ?_
      exact ⟨.inr rfl, [_], [_], _, _, _, rfl, by decide, rfl, by simp [refV, refC, valC], rfl, rfl, by assumption, rdAct _ _ _ _ _ _ rfl⟩
    have hk62 := hb
    refine TC.skip ?_
    show TC _ _ _ _ _ _
    refine TC.seq ?_
    -- region 54
    refine TC.region ?_
    refine TL.valE rfl (by first | exact Val.loadCAgg (n := 6) rfl rfl rfl rfl (Nat.le_of_ble_eq_true rfl) | exact Val.loadAgg (n := 6) rfl rfl rfl rfl (by simp [St.cellsAt, St.cellAt, St.root, valC]; rfl) rfl | exact Val.loadAgg (n := 6) rfl rfl rfl rfl rfl rfl) (by simp only [St.put, List.set_cons_succ, List.set_cons_zero, valC, dAct, rAct, D.row, List.take_succ_cons, List.take_zero, List.map_cons, List.map_nil]; rfl) ?_
    refine TL.opK rfl fun K hK => ?_
    refine OpT.storeAgg rfl rfl rfl rfl rfl rfl (by simp [St.store1, St.storeAll, St.cellAt, St.isMem, St.root, St.wrote, St.kill, St.setRoot, TS.kill, TV.kill, C.kill, Rt.kill, hitR, hitP, shapeOf, setRow, setAt, rowAt, D.row, D.reRow, List.isPrefixOf]; rfl) ?_ -- None
    simp only [nrm, Nat.reduceBEq, Nat.reduceBNe, reduceIte]
    refine hK _ ?_
    clear hK K
    refine TL.nil ?_
    show TC _ _ _ _ _ _
    refine TC.ret ?_
    exact ⟨.inr rfl, [_], [_], _, _, _, rfl, by decide, rfl, by simp [refV, refC, valC], rfl, rfl, by assumption, rdAct _ _ _ _ _ _ rfl⟩
  have hk50 := hb
  refine TC.seq ?_
  -- region 30
  refine TC.region ?_
  refine TL.vE (Val.eql rfl rfl rfl) ?_
  refine TL.vE (Val.assign 1 rfl rfl) ?_
  refine TL.nil ?_
  show TC _ _ _ _ _ _
  refine TC.cond rfl (fun hb => ?_) (fun hb => ?_)
  · have hk64 := hb
    refine TC.seq ?_
    -- region 31
    refine TC.region ?_
    refine TL.valE rfl (by first | exact Val.field rfl rfl rfl | exact Val.fieldC rfl rfl rfl) (by simp only [St.put, List.set_cons_succ, List.set_cons_zero, List.getElem_toArray, List.getElem_cons_succ, List.getElem_cons_zero, Nat.zero_add, Nat.reduceAdd]; rfl) ?_
    refine TL.opK rfl fun K hK => ?_
    refine OpT.store (z := 1) rfl rfl rfl rfl rfl rfl (by simp [St.store1, St.storeAll, St.cellAt, St.isMem, St.root, St.wrote, St.kill, St.setRoot, TS.kill, TV.kill, C.kill, Rt.kill, hitR, hitP, shapeOf, setRow, setAt, rowAt, D.row, D.reRow, List.isPrefixOf]; rfl) ?_ -- None
    simp only [nrm, Nat.reduceBEq, Nat.reduceBNe, reduceIte]
    refine hK _ ?_
    clear hK K
    refine TL.nil ?_
    show TC _ _ _ _ _ _
    refine TC.seq ?_
    -- region 32
    refine TC.region ?_
    refine TL.vE (Val.move 1 rfl rfl) ?_
    refine TL.drawP (yes_none rfl) rfl rfl rfl rfl rfl (K := 1000001) rfl (by first | exact .inl rfl | exact .inr ⟨rfl, by decide, rfl⟩) (by first | assumption | omega) (by repeat first | exact .nil | refine SnapsD.cons .cur ?_ | refine SnapsD.cons (.ro _) ?_ | refine SnapsD.cons (.aggRo _) ?_ | refine SnapsD.cons (.ref _ _ rfl (by first | assumption | exact whole_map _ _ (fun w c hc => by simp only [D.row, List.mem_cons, List.not_mem_nil, or_false] at hc; subst hc; exact .v _)) (by decide)) ?_) (spec_l01Below_c hby hn 8 (by decide)) (fun x => ⟨_, rfl⟩) (fun x i' h' => by simp only [St.curC, cur3, refP, pinK, pinB]; simp only [nrm, Nat.reduceBEq, Nat.reduceBNe, reduceIte]; rfl) fun x68 ci68 ch68 hp68 hci68 => ?_
    refine TL.valE rfl (by first | exact Val.field rfl rfl rfl | exact Val.fieldC rfl rfl rfl) (by simp only [St.put, List.set_cons_succ, List.set_cons_zero, List.getElem_toArray, List.getElem_cons_succ, List.getElem_cons_zero, Nat.zero_add, Nat.reduceAdd]; rfl) ?_
    refine TL.opK rfl fun K hK => ?_
    refine OpT.store (z := 1) rfl rfl rfl rfl rfl rfl (by simp [St.store1, St.storeAll, St.cellAt, St.isMem, St.root, St.wrote, St.kill, St.setRoot, TS.kill, TV.kill, C.kill, Rt.kill, hitR, hitP, shapeOf, setRow, setAt, rowAt, D.row, D.reRow, List.isPrefixOf]; rfl) ?_ -- None
    simp only [nrm, Nat.reduceBEq, Nat.reduceBNe, reduceIte]
    refine hK _ ?_
    clear hK K
    refine TL.nil ?_
    show TC _ _ _ _ _ _
    refine TC.seq ?_
    -- region 33
    refine TC.region ?_
    refine TL.vE (Val.move 1 rfl rfl) ?_
    refine TL.drawP (yes_none rfl) rfl rfl rfl rfl rfl (K := 1000001) rfl (by first | exact .inl rfl | exact .inr ⟨rfl, by decide, rfl⟩) (by first | assumption | omega) (by repeat first | exact .nil | refine SnapsD.cons .cur ?_ | refine SnapsD.cons (.ro _) ?_ | refine SnapsD.cons (.aggRo _) ?_ | refine SnapsD.cons (.ref _ _ rfl (by first | assumption | exact whole_map _ _ (fun w c hc => by simp only [D.row, List.mem_cons, List.not_mem_nil, or_false] at hc; subst hc; exact .v _)) (by decide)) ?_) (spec_l01Below_c hby hn 4 (by decide)) (fun x => ⟨_, rfl⟩) (fun x i' h' => by simp only [St.curC, cur3, refP, pinK, pinB]; simp only [nrm, Nat.reduceBEq, Nat.reduceBNe, reduceIte]; rfl) fun x71 ci71 ch71 hp71 hci71 => ?_
    refine TL.valE rfl (by first | exact Val.field rfl rfl rfl | exact Val.fieldC rfl rfl rfl) (by simp only [St.put, List.set_cons_succ, List.set_cons_zero, List.getElem_toArray, List.getElem_cons_succ, List.getElem_cons_zero, Nat.zero_add, Nat.reduceAdd]; rfl) ?_
    refine TL.opK rfl fun K hK => ?_
    refine OpT.store (z := 1) rfl rfl rfl rfl rfl rfl (by simp [St.store1, St.storeAll, St.cellAt, St.isMem, St.root, St.wrote, St.kill, St.setRoot, TS.kill, TV.kill, C.kill, Rt.kill, hitR, hitP, shapeOf, setRow, setAt, rowAt, D.row, D.reRow, List.isPrefixOf]; rfl) ?_ -- None
    simp only [nrm, Nat.reduceBEq, Nat.reduceBNe, reduceIte]
    refine hK _ ?_
    clear hK K
    refine TL.nil ?_
    show TC _ _ _ _ _ _
    -- region 34
    refine TC.region ?_
    refine TL.vE (Val.move 1 rfl rfl) ?_
    refine TL.drawP (yes_none rfl) rfl rfl rfl rfl rfl (K := 1000001) rfl (by first | exact .inl rfl | exact .inr ⟨rfl, by decide, rfl⟩) (by first | assumption | omega) (by repeat first | exact .nil | refine SnapsD.cons .cur ?_ | refine SnapsD.cons (.ro _) ?_ | refine SnapsD.cons (.aggRo _) ?_ | refine SnapsD.cons (.ref _ _ rfl (by first | assumption | exact whole_map _ _ (fun w c hc => by simp only [D.row, List.mem_cons, List.not_mem_nil, or_false] at hc; subst hc; exact .v _)) (by decide)) ?_) (spec_l01Below_c hby hn 100 (by decide)) (fun x => ⟨_, rfl⟩) (fun x i' h' => by simp only [St.curC, cur3, refP, pinK, pinB]; simp only [nrm, Nat.reduceBEq, Nat.reduceBNe, reduceIte]; rfl) fun x74 ci74 ch74 hp74 hci74 => ?_
    refine TL.valE rfl (by first | exact Val.field rfl rfl rfl | exact Val.fieldC rfl rfl rfl) (by simp only [St.put, List.set_cons_succ, List.set_cons_zero, List.getElem_toArray, List.getElem_cons_succ, List.getElem_cons_zero, Nat.zero_add, Nat.reduceAdd]; rfl) ?_
    refine TL.opK rfl fun K hK => ?_
    refine OpT.store (z := 1) rfl rfl rfl rfl rfl rfl (by simp [St.store1, St.storeAll, St.cellAt, St.isMem, St.root, St.wrote, St.kill, St.setRoot, TS.kill, TV.kill, C.kill, Rt.kill, hitR, hitP, shapeOf, setRow, setAt, rowAt, D.row, D.reRow, List.isPrefixOf]; rfl) ?_ -- None
    simp only [nrm, Nat.reduceBEq, Nat.reduceBNe, reduceIte]
    refine hK _ ?_
    clear hK K
    refine TL.nil ?_
    show TC _ _ _ _ _ _
    refine TC.seq ?_
    -- region 54
    refine TC.region ?_
    refine TL.valE rfl (by first | exact Val.loadCAgg (n := 6) rfl rfl rfl rfl (Nat.le_of_ble_eq_true rfl) | exact Val.loadAgg (n := 6) rfl rfl rfl rfl (by simp [St.cellsAt, St.cellAt, St.root, valC]; rfl) rfl | exact Val.loadAgg (n := 6) rfl rfl rfl rfl rfl rfl) (by simp only [St.put, List.set_cons_succ, List.set_cons_zero, valC, dAct, rAct, D.row, List.take_succ_cons, List.take_zero, List.map_cons, List.map_nil]; rfl) ?_
    refine TL.opK rfl fun K hK => ?_
    refine OpT.storeAgg rfl rfl rfl rfl rfl rfl (by simp [St.store1, St.storeAll, St.cellAt, St.isMem, St.root, St.wrote, St.kill, St.setRoot, TS.kill, TV.kill, C.kill, Rt.kill, hitR, hitP, shapeOf, setRow, setAt, rowAt, D.row, D.reRow, List.isPrefixOf]; rfl) ?_ -- None
    simp only [nrm, Nat.reduceBEq, Nat.reduceBNe, reduceIte]
    refine hK _ ?_
    clear hK K
    refine TL.nil ?_
    show TC _ _ _ _ _ _
    refine TC.ret ?_
    exact ⟨.inr rfl, [_], [_], _, _, _, rfl, by decide, rfl, by simp [refV, refC, valC], rfl, rfl, by assumption, rdAct _ _ _ _ _ _ rfl⟩
  have hk64 := hb
  refine TC.seq ?_
  -- region 35
  refine TC.region ?_
  refine TL.vE (Val.eql rfl rfl rfl) ?_
  refine TL.vE (Val.assign 1 rfl rfl) ?_
  refine TL.nil ?_
  show TC _ _ _ _ _ _
  refine TC.cond rfl (fun hb => ?_) (fun hb => ?_)
  · have hk76 := hb
    refine TC.seq ?_
    -- region 36
    refine TC.region ?_
    refine TL.valE rfl (by first | exact Val.field rfl rfl rfl | exact Val.fieldC rfl rfl rfl) (by simp only [St.put, List.set_cons_succ, List.set_cons_zero, List.getElem_toArray, List.getElem_cons_succ, List.getElem_cons_zero, Nat.zero_add, Nat.reduceAdd]; rfl) ?_
    refine TL.opK rfl fun K hK => ?_
    refine OpT.store (z := 1) rfl rfl rfl rfl rfl rfl (by simp [St.store1, St.storeAll, St.cellAt, St.isMem, St.root, St.wrote, St.kill, St.setRoot, TS.kill, TV.kill, C.kill, Rt.kill, hitR, hitP, shapeOf, setRow, setAt, rowAt, D.row, D.reRow, List.isPrefixOf]; rfl) ?_ -- None
    simp only [nrm, Nat.reduceBEq, Nat.reduceBNe, reduceIte]
    refine hK _ ?_
    clear hK K
    refine TL.nil ?_
    show TC _ _ _ _ _ _
    -- region 37
    refine TC.region ?_
    refine TL.vE (Val.move 1 rfl rfl) ?_
    refine TL.drawP (yes_none rfl) rfl rfl rfl rfl rfl (K := 1000001) rfl (by first | exact .inl rfl | exact .inr ⟨rfl, by decide, rfl⟩) (by first | assumption | omega) (by repeat first | exact .nil | refine SnapsD.cons .cur ?_ | refine SnapsD.cons (.ro _) ?_ | refine SnapsD.cons (.aggRo _) ?_ | refine SnapsD.cons (.ref _ _ rfl (by first | assumption | exact whole_map _ _ (fun w c hc => by simp only [D.row, List.mem_cons, List.not_mem_nil, or_false] at hc; subst hc; exact .v _)) (by decide)) ?_) (spec_l01Below_c hby hn 8 (by decide)) (fun x => ⟨_, rfl⟩) (fun x i' h' => by simp only [St.curC, cur3, refP, pinK, pinB]; simp only [nrm, Nat.reduceBEq, Nat.reduceBNe, reduceIte]; rfl) fun x80 ci80 ch80 hp80 hci80 => ?_
    refine TL.valE rfl (by first | exact Val.field rfl rfl rfl | exact Val.fieldC rfl rfl rfl) (by simp only [St.put, List.set_cons_succ, List.set_cons_zero, List.getElem_toArray, List.getElem_cons_succ, List.getElem_cons_zero, Nat.zero_add, Nat.reduceAdd]; rfl) ?_
    refine TL.opK rfl fun K hK => ?_
    refine OpT.store (z := 1) rfl rfl rfl rfl rfl rfl (by simp [St.store1, St.storeAll, St.cellAt, St.isMem, St.root, St.wrote, St.kill, St.setRoot, TS.kill, TV.kill, C.kill, Rt.kill, hitR, hitP, shapeOf, setRow, setAt, rowAt, D.row, D.reRow, List.isPrefixOf]; rfl) ?_ -- None
    simp only [nrm, Nat.reduceBEq, Nat.reduceBNe, reduceIte]
    refine hK _ ?_
    clear hK K
    refine TL.nil ?_
    show TC _ _ _ _ _ _
    refine TC.seq ?_
    -- region 54
    refine TC.region ?_
    refine TL.valE rfl (by first | exact Val.loadCAgg (n := 6) rfl rfl rfl rfl (Nat.le_of_ble_eq_true rfl) | exact Val.loadAgg (n := 6) rfl rfl rfl rfl (by simp [St.cellsAt, St.cellAt, St.root, valC]; rfl) rfl | exact Val.loadAgg (n := 6) rfl rfl rfl rfl rfl rfl) (by simp only [St.put, List.set_cons_succ, List.set_cons_zero, valC, dAct, rAct, D.row, List.take_succ_cons, List.take_zero, List.map_cons, List.map_nil]; rfl) ?_
    refine TL.opK rfl fun K hK => ?_
    refine OpT.storeAgg rfl rfl rfl rfl rfl rfl (by simp [St.store1, St.storeAll, St.cellAt, St.isMem, St.root, St.wrote, St.kill, St.setRoot, TS.kill, TV.kill, C.kill, Rt.kill, hitR, hitP, shapeOf, setRow, setAt, rowAt, D.row, D.reRow, List.isPrefixOf]; rfl) ?_ -- None
    simp only [nrm, Nat.reduceBEq, Nat.reduceBNe, reduceIte]
    refine hK _ ?_
    clear hK K
    refine TL.nil ?_
    show TC _ _ _ _ _ _
    refine TC.ret ?_
    exact ⟨.inr rfl, [_], [_], _, _, _, rfl, by decide, rfl, by simp [refV, refC, valC], rfl, rfl, by assumption, rdAct _ _ _ _ _ _ rfl⟩
  have hk76 := hb
  refine TC.seq ?_
  -- region 38
  refine TC.region ?_
  refine TL.vE (Val.eql rfl rfl rfl) ?_
  refine TL.vE (Val.assign 1 rfl rfl) ?_
  refine TL.nil ?_
  show TC _ _ _ _ _ _
  refine TC.cond rfl (fun hb => ?_) (fun hb => ?_)
  · have hk82 := hb
    -- region 39
    refine TC.region ?_
    refine TL.valE rfl (by first | exact Val.field rfl rfl rfl | exact Val.fieldC rfl rfl rfl) (by simp only [St.put, List.set_cons_succ, List.set_cons_zero, List.getElem_toArray, List.getElem_cons_succ, List.getElem_cons_zero, Nat.zero_add, Nat.reduceAdd]; rfl) ?_
    refine TL.opK rfl fun K hK => ?_
    refine OpT.store (z := 1) rfl rfl rfl rfl rfl rfl (by simp [St.store1, St.storeAll, St.cellAt, St.isMem, St.root, St.wrote, St.kill, St.setRoot, TS.kill, TV.kill, C.kill, Rt.kill, hitR, hitP, shapeOf, setRow, setAt, rowAt, D.row, D.reRow, List.isPrefixOf]; rfl) ?_ -- None
    simp only [nrm, Nat.reduceBEq, Nat.reduceBNe, reduceIte]
    refine hK _ ?_
    clear hK K
    refine TL.nil ?_
    show TC _ _ _ _ _ _
    refine TC.seq ?_
    -- region 54
    refine TC.region ?_
    refine TL.valE rfl (by first | exact Val.loadCAgg (n := 6) rfl rfl rfl rfl (Nat.le_of_ble_eq_true rfl) | exact Val.loadAgg (n := 6) rfl rfl rfl rfl (by simp [St.cellsAt, St.cellAt, St.root, valC]; rfl) rfl | exact Val.loadAgg (n := 6) rfl rfl rfl rfl rfl rfl) (by simp only [St.put, List.set_cons_succ, List.set_cons_zero, valC, dAct, rAct, D.row, List.take_succ_cons, List.take_zero, List.map_cons, List.map_nil]; rfl) ?_
    refine TL.opK rfl fun K hK => ?_
    refine OpT.storeAgg rfl rfl rfl rfl rfl rfl (by simp [St.store1, St.storeAll, St.cellAt, St.isMem, St.root, St.wrote, St.kill, St.setRoot, TS.kill, TV.kill, C.kill, Rt.kill, hitR, hitP, shapeOf, setRow, setAt, rowAt, D.row, D.reRow, List.isPrefixOf]; rfl) ?_ -- None
    simp only [nrm, Nat.reduceBEq, Nat.reduceBNe, reduceIte]
    refine hK _ ?_
    clear hK K
    refine TL.nil ?_
    show TC _ _ _ _ _ _
    refine TC.ret ?_
    exact ⟨.inr rfl, [_], [_], _, _, _, rfl, by decide, rfl, by simp [refV, refC, valC], rfl, rfl, by assumption, rdAct _ _ _ _ _ _ rfl⟩
  have hk82 := hb
  refine TC.seq ?_
  -- region 40
  refine TC.region ?_
  refine TL.vE (Val.eql rfl rfl rfl) ?_
  refine TL.vE (Val.assign 1 rfl rfl) ?_
  refine TL.nil ?_
  show TC _ _ _ _ _ _
  refine TC.cond rfl (fun hb => ?_) (fun hb => ?_)
  · have hk85 := hb
    refine TC.seq ?_
    -- region 41
    refine TC.region ?_
    refine TL.valE rfl (by first | exact Val.field rfl rfl rfl | exact Val.fieldC rfl rfl rfl) (by simp only [St.put, List.set_cons_succ, List.set_cons_zero, List.getElem_toArray, List.getElem_cons_succ, List.getElem_cons_zero, Nat.zero_add, Nat.reduceAdd]; rfl) ?_
    refine TL.opK rfl fun K hK => ?_
    refine OpT.store (z := 1) rfl rfl rfl rfl rfl rfl (by simp [St.store1, St.storeAll, St.cellAt, St.isMem, St.root, St.wrote, St.kill, St.setRoot, TS.kill, TV.kill, C.kill, Rt.kill, hitR, hitP, shapeOf, setRow, setAt, rowAt, D.row, D.reRow, List.isPrefixOf]; rfl) ?_ -- None
    simp only [nrm, Nat.reduceBEq, Nat.reduceBNe, reduceIte]
    refine hK _ ?_
    clear hK K
    refine TL.nil ?_
    show TC _ _ _ _ _ _
    refine TC.seq ?_
    -- region 42
    refine TC.region ?_
    refine TL.vE (Val.move 1 rfl rfl) ?_
    refine TL.drawP (yes_none rfl) rfl rfl rfl rfl rfl (K := 1000001) rfl (by first | exact .inl rfl | exact .inr ⟨rfl, by decide, rfl⟩) (by first | assumption | omega) (by repeat first | exact .nil | refine SnapsD.cons .cur ?_ | refine SnapsD.cons (.ro _) ?_ | refine SnapsD.cons (.aggRo _) ?_ | refine SnapsD.cons (.ref _ _ rfl (by first | assumption | exact whole_map _ _ (fun w c hc => by simp only [D.row, List.mem_cons, List.not_mem_nil, or_false] at hc; subst hc; exact .v _)) (by decide)) ?_) (spec_l01Below_c hby hn 16 (by decide)) (fun x => ⟨_, rfl⟩) (fun x i' h' => by simp only [St.curC, cur3, refP, pinK, pinB]; simp only [nrm, Nat.reduceBEq, Nat.reduceBNe, reduceIte]; rfl) fun x89 ci89 ch89 hp89 hci89 => ?_
    refine TL.valE rfl (by first | exact Val.field rfl rfl rfl | exact Val.fieldC rfl rfl rfl) (by simp only [St.put, List.set_cons_succ, List.set_cons_zero, List.getElem_toArray, List.getElem_cons_succ, List.getElem_cons_zero, Nat.zero_add, Nat.reduceAdd]; rfl) ?_
    refine TL.opK rfl fun K hK => ?_
    refine OpT.store (z := 1) rfl rfl rfl rfl rfl rfl (by simp [St.store1, St.storeAll, St.cellAt, St.isMem, St.root, St.wrote, St.kill, St.setRoot, TS.kill, TV.kill, C.kill, Rt.kill, hitR, hitP, shapeOf, setRow, setAt, rowAt, D.row, D.reRow, List.isPrefixOf]; rfl) ?_ -- None
    simp only [nrm, Nat.reduceBEq, Nat.reduceBNe, reduceIte]
    refine hK _ ?_
    clear hK K
    refine TL.nil ?_
    show TC _ _ _ _ _ _
    -- region 43
    refine TC.region ?_
    refine TL.vE (Val.move 1 rfl rfl) ?_
    refine TL.drawP (yes_none rfl) rfl rfl rfl rfl rfl (K := 1000001) rfl (by first | exact .inl rfl | exact .inr ⟨rfl, by decide, rfl⟩) (by first | assumption | omega) (by repeat first | exact .nil | refine SnapsD.cons .cur ?_ | refine SnapsD.cons (.ro _) ?_ | refine SnapsD.cons (.aggRo _) ?_ | refine SnapsD.cons (.ref _ _ rfl (by first | assumption | exact whole_map _ _ (fun w c hc => by simp only [D.row, List.mem_cons, List.not_mem_nil, or_false] at hc; subst hc; exact .v _)) (by decide)) ?_) (spec_l01Below_c hby hn 100 (by decide)) (fun x => ⟨_, rfl⟩) (fun x i' h' => by simp only [St.curC, cur3, refP, pinK, pinB]; simp only [nrm, Nat.reduceBEq, Nat.reduceBNe, reduceIte]; rfl) fun x92 ci92 ch92 hp92 hci92 => ?_
    refine TL.valE rfl (by first | exact Val.field rfl rfl rfl | exact Val.fieldC rfl rfl rfl) (by simp only [St.put, List.set_cons_succ, List.set_cons_zero, List.getElem_toArray, List.getElem_cons_succ, List.getElem_cons_zero, Nat.zero_add, Nat.reduceAdd]; rfl) ?_
    refine TL.opK rfl fun K hK => ?_
    refine OpT.store (z := 1) rfl rfl rfl rfl rfl rfl (by simp [St.store1, St.storeAll, St.cellAt, St.isMem, St.root, St.wrote, St.kill, St.setRoot, TS.kill, TV.kill, C.kill, Rt.kill, hitR, hitP, shapeOf, setRow, setAt, rowAt, D.row, D.reRow, List.isPrefixOf]; rfl) ?_ -- None
    simp only [nrm, Nat.reduceBEq, Nat.reduceBNe, reduceIte]
    refine hK _ ?_
    clear hK K
    refine TL.nil ?_
    show TC _ _ _ _ _ _
    refine TC.seq ?_
    -- region 54
    refine TC.region ?_
    refine TL.valE rfl (by first | exact Val.loadCAgg (n := 6) rfl rfl rfl rfl (Nat.le_of_ble_eq_true rfl) | exact Val.loadAgg (n := 6) rfl rfl rfl rfl (by simp [St.cellsAt, St.cellAt, St.root, valC]; rfl) rfl | exact Val.loadAgg (n := 6) rfl rfl rfl rfl rfl rfl) (by simp only [St.put, List.set_cons_succ, List.set_cons_zero, valC, dAct, rAct, D.row, List.take_succ_cons, List.take_zero, List.map_cons, List.map_nil]; rfl) ?_
    refine TL.opK rfl fun K hK => ?_
    refine OpT.storeAgg rfl rfl rfl rfl rfl rfl (by simp [St.store1, St.storeAll, St.cellAt, St.isMem, St.root, St.wrote, St.kill, St.setRoot, TS.kill, TV.kill, C.kill, Rt.kill, hitR, hitP, shapeOf, setRow, setAt, rowAt, D.row, D.reRow, List.isPrefixOf]; rfl) ?_ -- None
    simp only [nrm, Nat.reduceBEq, Nat.reduceBNe, reduceIte]
    refine hK _ ?_
    clear hK K
    refine TL.nil ?_
    show TC _ _ _ _ _ _
    refine TC.ret ?_
    exact ⟨.inr rfl, [_], [_], _, _, _, rfl, by decide, rfl, by simp [refV, refC, valC], rfl, rfl, by assumption, rdAct _ _ _ _ _ _ rfl⟩
  have hk85 := hb
  refine TC.seq ?_
  -- region 44
  refine TC.region ?_
  refine TL.vE (Val.eql rfl rfl rfl) ?_
  refine TL.vE (Val.assign 1 rfl rfl) ?_
  refine TL.nil ?_
  show TC _ _ _ _ _ _
  refine TC.cond rfl (fun hb => ?_) (fun hb => ?_)
  · have hk94 := hb
    refine TC.seq ?_
    -- region 45
    refine TC.region ?_
    refine TL.valE rfl (by first | exact Val.field rfl rfl rfl | exact Val.fieldC rfl rfl rfl) (by simp only [St.put, List.set_cons_succ, List.set_cons_zero, List.getElem_toArray, List.getElem_cons_succ, List.getElem_cons_zero, Nat.zero_add, Nat.reduceAdd]; rfl) ?_
    refine TL.opK rfl fun K hK => ?_
    refine OpT.store (z := 1) rfl rfl rfl rfl rfl rfl (by simp [St.store1, St.storeAll, St.cellAt, St.isMem, St.root, St.wrote, St.kill, St.setRoot, TS.kill, TV.kill, C.kill, Rt.kill, hitR, hitP, shapeOf, setRow, setAt, rowAt, D.row, D.reRow, List.isPrefixOf]; rfl) ?_ -- None
    simp only [nrm, Nat.reduceBEq, Nat.reduceBNe, reduceIte]
    refine hK _ ?_
    clear hK K
    refine TL.nil ?_
    show TC _ _ _ _ _ _
    -- region 46
    refine TC.region ?_
    refine TL.vE (Val.move 1 rfl rfl) ?_
    refine TL.drawP (yes_none rfl) rfl rfl rfl rfl rfl (K := 1000001) rfl (by first | exact .inl rfl | exact .inr ⟨rfl, by decide, rfl⟩) (by first | assumption | omega) (by repeat first | exact .nil | refine SnapsD.cons .cur ?_ | refine SnapsD.cons (.ro _) ?_ | refine SnapsD.cons (.aggRo _) ?_ | refine SnapsD.cons (.ref _ _ rfl (by first | assumption | exact whole_map _ _ (fun w c hc => by simp only [D.row, List.mem_cons, List.not_mem_nil, or_false] at hc; subst hc; exact .v _)) (by decide)) ?_) (spec_l01Below_c hby hn 16 (by decide)) (fun x => ⟨_, rfl⟩) (fun x i' h' => by simp only [St.curC, cur3, refP, pinK, pinB]; simp only [nrm, Nat.reduceBEq, Nat.reduceBNe, reduceIte]; rfl) fun x98 ci98 ch98 hp98 hci98 => ?_
    refine TL.valE rfl (by first | exact Val.field rfl rfl rfl | exact Val.fieldC rfl rfl rfl) (by simp only [St.put, List.set_cons_succ, List.set_cons_zero, List.getElem_toArray, List.getElem_cons_succ, List.getElem_cons_zero, Nat.zero_add, Nat.reduceAdd]; rfl) ?_
    refine TL.opK rfl fun K hK => ?_
    refine OpT.store (z := 1) rfl rfl rfl rfl rfl rfl (by simp [St.store1, St.storeAll, St.cellAt, St.isMem, St.root, St.wrote, St.kill, St.setRoot, TS.kill, TV.kill, C.kill, Rt.kill, hitR, hitP, shapeOf, setRow, setAt, rowAt, D.row, D.reRow, List.isPrefixOf]; rfl) ?_ -- None
    simp only [nrm, Nat.reduceBEq, Nat.reduceBNe, reduceIte]
    refine hK _ ?_
    clear hK K
    refine TL.nil ?_
    show TC _ _ _ _ _ _
    refine TC.seq ?_
    -- region 54
    refine TC.region ?_
    refine TL.valE rfl (by first | exact Val.loadCAgg (n := 6) rfl rfl rfl rfl (Nat.le_of_ble_eq_true rfl) | exact Val.loadAgg (n := 6) rfl rfl rfl rfl (by simp [St.cellsAt, St.cellAt, St.root, valC]; rfl) rfl | exact Val.loadAgg (n := 6) rfl rfl rfl rfl rfl rfl) (by simp only [St.put, List.set_cons_succ, List.set_cons_zero, valC, dAct, rAct, D.row, List.take_succ_cons, List.take_zero, List.map_cons, List.map_nil]; rfl) ?_
    refine TL.opK rfl fun K hK => ?_
    refine OpT.storeAgg rfl rfl rfl rfl rfl rfl (by simp [St.store1, St.storeAll, St.cellAt, St.isMem, St.root, St.wrote, St.kill, St.setRoot, TS.kill, TV.kill, C.kill, Rt.kill, hitR, hitP, shapeOf, setRow, setAt, rowAt, D.row, D.reRow, List.isPrefixOf]; rfl) ?_ -- None
    simp only [nrm, Nat.reduceBEq, Nat.reduceBNe, reduceIte]
    refine hK _ ?_
    clear hK K
    refine TL.nil ?_
    show TC _ _ _ _ _ _
    refine TC.ret ?_
    exact ⟨.inr rfl, [_], [_], _, _, _, rfl, by decide, rfl, by simp [refV, refC, valC], rfl, rfl, by assumption, rdAct _ _ _ _ _ _ rfl⟩
  have hk94 := hb
  refine TC.seq ?_
  refine TC.seq ?_
  -- region 47
  refine TC.region ?_
  refine TL.vE (Val.eql rfl rfl rfl) ?_
  refine TL.vE (Val.assign 1 rfl rfl) ?_
  refine TL.nil ?_
  show TC _ _ _ _ _ _
  refine TC.cond rfl (fun hb => ?_) (fun hb => ?_)
  · have hk100 := hb
    refine TC.skip ?_
    show TC _ _ _ _ _ _
    refine TC.cond rfl (fun hb => ?_) (fun hc => absurd (hc.symm.trans hk100) (by decide))
    refine TC.seq ?_
    -- region 49
    refine TC.region ?_
    refine TL.vE (Val.move 1 rfl rfl) ?_
    refine TL.opK rfl fun K hK => ?_
    refine OpT.buildP rfl rfl (xs := [(Go.Operand.const (Go.Value.int Go.IntKind.i64 13)), (Go.Operand.const (Go.Value.int Go.IntKind.i64 13)), (Go.Operand.const (Go.Value.int Go.IntKind.i64 14)), (Go.Operand.const (Go.Value.int Go.IntKind.i64 15))]) rfl rfl rfl rfl (sz := 1) rfl rfl rfl (by decide) (by decide) ?_ -- 104
    simp only [nrm, Nat.reduceBEq, Nat.reduceBNe, reduceIte]
    refine hK _ ?_
    clear hK K
    refine TL.drawP (yes_none rfl) rfl rfl rfl rfl rfl (K := 1000001) rfl (by first | exact .inl rfl | exact .inr ⟨rfl, by decide, rfl⟩) (by first | assumption | omega) (by repeat first | exact .nil | refine SnapsD.cons .cur ?_ | refine SnapsD.cons (.ro _) ?_ | refine SnapsD.cons (.aggRo _) ?_ | refine SnapsD.cons (.ref _ _ rfl (by first | assumption | exact whole_map _ _ (fun w c hc => by simp only [D.row, List.mem_cons, List.not_mem_nil, or_false] at hc; subst hc; exact .v _)) (by decide)) ?_) (spec_l01PickInt_c hby hn [13, 13, 14, 15] (by decide) (by decide)) (fun x => ⟨_, rfl⟩) (fun x i' h' => by simp only [St.curC, cur3, refP, pinK, pinB]; simp only [nrm, Nat.reduceBEq, Nat.reduceBNe, reduceIte]; rfl) fun x105 ci105 ch105 hp105 hci105 => ?_
    refine TL.valE rfl (by first | exact Val.field rfl rfl rfl | exact Val.fieldC rfl rfl rfl) (by simp only [St.put, List.set_cons_succ, List.set_cons_zero, List.getElem_toArray, List.getElem_cons_succ, List.getElem_cons_zero, Nat.zero_add, Nat.reduceAdd]; rfl) ?_
    refine TL.opK rfl fun K hK => ?_
    refine OpT.store (z := 1) rfl rfl rfl rfl rfl rfl (by simp [St.store1, St.storeAll, St.cellAt, St.isMem, St.root, St.wrote, St.kill, St.setRoot, TS.kill, TV.kill, C.kill, Rt.kill, hitR, hitP, shapeOf, setRow, setAt, rowAt, D.row, D.reRow, List.isPrefixOf]; rfl) ?_ -- None
    simp only [nrm, Nat.reduceBEq, Nat.reduceBNe, reduceIte]
    refine hK _ ?_
    clear hK K
    refine TL.nil ?_
    show TC _ _ _ _ _ _
    -- region 50
    refine TC.region ?_
    refine TL.vE (Val.move 1 rfl rfl) ?_
    refine TL.drawP (yes_none rfl) rfl rfl rfl rfl rfl (K := 1000001) rfl (by first | exact .inl rfl | exact .inr ⟨rfl, by decide, rfl⟩) (by first | assumption | omega) (by repeat first | exact .nil | refine SnapsD.cons .cur ?_ | refine SnapsD.cons (.ro _) ?_ | refine SnapsD.cons (.aggRo _) ?_ | refine SnapsD.cons (.ref _ _ rfl (by first | assumption | exact whole_map _ _ (fun w c hc => by simp only [D.row, List.mem_cons, List.not_mem_nil, or_false] at hc; subst hc; exact .v _)) (by decide)) ?_) (spec_l01Below_c hby hn 8 (by decide)) (fun x => ⟨_, rfl⟩) (fun x i' h' => by simp only [St.curC, cur3, refP, pinK, pinB]; simp only [nrm, Nat.reduceBEq, Nat.reduceBNe, reduceIte]; rfl) fun x108 ci108 ch108 hp108 hci108 => ?_
    refine TL.valE rfl (by first | exact Val.field rfl rfl rfl | exact Val.fieldC rfl rfl rfl) (by simp only [St.put, List.set_cons_succ, List.set_cons_zero, List.getElem_toArray, List.getElem_cons_succ, List.getElem_cons_zero, Nat.zero_add, Nat.reduceAdd]; rfl) ?_
    refine TL.opK rfl fun K hK => ?_
    refine OpT.store (z := 1) rfl rfl rfl rfl rfl rfl (by simp [St.store1, St.storeAll, St.cellAt, St.isMem, St.root, St.wrote, St.kill, St.setRoot, TS.kill, TV.kill, C.kill, Rt.kill, hitR, hitP, shapeOf, setRow, setAt, rowAt, D.row, D.reRow, List.isPrefixOf]; rfl) ?_ -- None
    simp only [nrm, Nat.reduceBEq, Nat.reduceBNe, reduceIte]
    refine hK _ ?_
    clear hK K
    refine TL.nil ?_
    show TC _ _ _ _ _ _
    refine TC.seq ?_
    -- region 54
    refine TC.region ?_
    refine TL.valE rfl (by first | exact Val.loadCAgg (n := 6) rfl rfl rfl rfl (Nat.le_of_ble_eq_true rfl) | exact Val.loadAgg (n := 6) rfl rfl rfl rfl (by simp [St.cellsAt, St.cellAt, St.root, valC]; rfl) rfl | exact Val.loadAgg (n := 6) rfl rfl rfl rfl rfl rfl) (by simp only [St.put, List.set_cons_succ, List.set_cons_zero, valC, dAct, rAct, D.row, List.take_succ_cons, List.take_zero, List.map_cons, List.map_nil]; rfl) ?_
    refine TL.opK rfl fun K hK => ?_
    refine OpT.storeAgg rfl rfl rfl rfl rfl rfl (by simp [St.store1, St.storeAll, St.cellAt, St.isMem, St.root, St.wrote, St.kill, St.setRoot, TS.kill, TV.kill, C.kill, Rt.kill, hitR, hitP, shapeOf, setRow, setAt, rowAt, D.row, D.reRow, List.isPrefixOf]; rfl) ?_ -- None
    simp only [nrm, Nat.reduceBEq, Nat.reduceBNe, reduceIte]
    refine hK _ ?_
    clear hK K
    refine TL.nil ?_
    show TC _ _ _ _ _ _
    refine TC.ret ?_
    exact ⟨.inr rfl, [_], [_], _, _, _, rfl, by decide, rfl, by simp [refV, refC, valC], rfl, rfl, by assumption, rdAct _ _ _ _ _ _ rfl⟩
  have hk100 := hb
  -- region 48
  refine TC.region ?_
  refine TL.vE (Val.eql rfl rfl rfl) ?_
  refine TL.vE (Val.assign 1 rfl rfl) ?_
  refine TL.nil ?_
  show TC _ _ _ _ _ _
  refine TC.cond rfl (fun hb => ?_) (fun hb => ?_)
  · have hk100 := hb
    refine TC.seq ?_
    -- region 49
    refine TC.region ?_
    refine TL.vE (Val.move 1 rfl rfl) ?_
    refine TL.opK rfl fun K hK => ?_
    refine OpT.buildP rfl rfl (xs := [(Go.Operand.const (Go.Value.int Go.IntKind.i64 13)), (Go.Operand.const (Go.Value.int Go.IntKind.i64 13)), (Go.Operand.const (Go.Value.int Go.IntKind.i64 14)), (Go.Operand.const (Go.Value.int Go.IntKind.i64 15))]) rfl rfl rfl rfl (sz := 1) rfl rfl rfl (by decide) (by decide) ?_ -- 104
    simp only [nrm, Nat.reduceBEq, Nat.reduceBNe, reduceIte]
    refine hK _ ?_
    clear hK K
    refine TL.drawP (yes_none rfl) rfl rfl rfl rfl rfl (K := 1000001) rfl (by first | exact .inl rfl | exact .inr ⟨rfl, by decide, rfl⟩) (by first | assumption | omega) (by repeat first | exact .nil | refine SnapsD.cons .cur ?_ | refine SnapsD.cons (.ro _) ?_ | refine SnapsD.cons (.aggRo _) ?_ | refine SnapsD.cons (.ref _ _ rfl (by first | assumption | exact whole_map _ _ (fun w c hc => by simp only [D.row, List.mem_cons, List.not_mem_nil, or_false] at hc; subst hc; exact .v _)) (by decide)) ?_) (spec_l01PickInt_c hby hn [13, 13, 14, 15] (by decide) (by decide)) (fun x => ⟨_, rfl⟩) (fun x i' h' => by simp only [St.curC, cur3, refP, pinK, pinB]; simp only [nrm, Nat.reduceBEq, Nat.reduceBNe, reduceIte]; rfl) fun x105 ci105 ch105 hp105 hci105 => ?_
    refine TL.valE rfl (by first | exact Val.field rfl rfl rfl | exact Val.fieldC rfl rfl rfl) (by simp only [St.put, List.set_cons_succ, List.set_cons_zero, List.getElem_toArray, List.getElem_cons_succ, List.getElem_cons_zero, Nat.zero_add, Nat.reduceAdd]; rfl) ?_
    refine TL.opK rfl fun K hK => ?_
    refine OpT.store (z := 1) rfl rfl rfl rfl rfl rfl (by simp [St.store1, St.storeAll, St.cellAt, St.isMem, St.root, St.wrote, St.kill, St.setRoot, TS.kill, TV.kill, C.kill, Rt.kill, hitR, hitP, shapeOf, setRow, setAt, rowAt, D.row, D.reRow, List.isPrefixOf]; rfl) ?_ -- None
    simp only [nrm, Nat.reduceBEq, Nat.reduceBNe, reduceIte]
    refine hK _ ?_
    clear hK K
    refine TL.nil ?_
    show TC _ _ _ _ _ _
    -- region 50
    refine TC.region ?_
    refine TL.vE (Val.move 1 rfl rfl) ?_
    refine TL.drawP (yes_none rfl) rfl rfl rfl rfl rfl (K := 1000001) rfl (by first | exact .inl rfl | exact .inr ⟨rfl, by decide, rfl⟩) (by first | assumption | omega) (by repeat first | exact .nil | refine SnapsD.cons .cur ?_ | refine SnapsD.cons (.ro _) ?_ | refine SnapsD.cons (.aggRo _) ?_ | refine SnapsD.cons (.ref _ _ rfl (by first | assumption | exact whole_map _ _ (fun w c hc => by simp only [D.row, List.mem_cons, List.not_mem_nil, or_false] at hc; subst hc; exact .v _)) (by decide)) ?_) (spec_l01Below_c hby hn 8 (by decide)) (fun x => ⟨_, rfl⟩) (fun x i' h' => by simp only [St.curC, cur3, refP, pinK, pinB]; simp only [nrm, Nat.reduceBEq, Nat.reduceBNe, reduceIte]; rfl) fun x108 ci108 ch108 hp108 hci108 => ?_
    refine TL.valE rfl (by first | exact Val.field rfl rfl rfl | exact Val.fieldC rfl rfl rfl) (by simp only [St.put, List.set_cons_succ, List.set_cons_zero, List.getElem_toArray, List.getElem_cons_succ, List.getElem_cons_zero, Nat.zero_add, Nat.reduceAdd]; rfl) ?_
    refine TL.opK rfl fun K hK => ?_
    refine OpT.store (z := 1) rfl rfl rfl rfl rfl rfl (by simp [St.store1, St.storeAll, St.cellAt, St.isMem, St.root, St.wrote, St.kill, St.setRoot, TS.kill, TV.kill, C.kill, Rt.kill, hitR, hitP, shapeOf, setRow, setAt, rowAt, D.row, D.reRow, List.isPrefixOf]; rfl) ?_ -- None
    simp only [nrm, Nat.reduceBEq, Nat.reduceBNe, reduceIte]
    refine hK _ ?_
    clear hK K
    refine TL.nil ?_
    show TC _ _ _ _ _ _
    refine TC.seq ?_
    -- region 54
    refine TC.region ?_
    refine TL.valE rfl (by first | exact Val.loadCAgg (n := 6) rfl rfl rfl rfl (Nat.le_of_ble_eq_true rfl) | exact Val.loadAgg (n := 6) rfl rfl rfl rfl (by simp [St.cellsAt, St.cellAt, St.root, valC]; rfl) rfl | exact Val.loadAgg (n := 6) rfl rfl rfl rfl rfl rfl) (by simp only [St.put, List.set_cons_succ, List.set_cons_zero, valC, dAct, rAct, D.row, List.take_succ_cons, List.take_zero, List.map_cons, List.map_nil]; rfl) ?_
    refine TL.opK rfl fun K hK => ?_
    refine OpT.storeAgg rfl rfl rfl rfl rfl rfl (by simp [St.store1, St.storeAll, St.cellAt, St.isMem, St.root, St.wrote, St.kill, St.setRoot, TS.kill, TV.kill, C.kill, Rt.kill, hitR, hitP, shapeOf, setRow, setAt, rowAt, D.row, D.reRow, List.isPrefixOf]; rfl) ?_ -- None
    simp only [nrm, Nat.reduceBEq, Nat.reduceBNe, reduceIte]
    refine hK _ ?_
    clear hK K
    refine TL.nil ?_
    show TC _ _ _ _ _ _
    refine TC.ret ?_
    exact ⟨.inr rfl, [_], [_], _, _, _, rfl, by decide, rfl, by simp [refV, refC, valC], rfl, rfl, by assumption, rdAct _ _ _ _ _ _ rfl⟩
  have hk100 := hb
  refine TC.seq ?_
  -- region 51
  refine TC.region ?_
  refine TL.vE (Val.eql rfl rfl rfl) ?_
  refine TL.vE (Val.assign 1 rfl rfl) ?_
  refine TL.nil ?_
  show TC _ _ _ _ _ _
  refine TC.cond rfl (fun hb => ?_) (fun hb => ?_)
  · have hk110 := hb
    refine TC.seq ?_
    -- region 52
    refine TC.region ?_
    refine TL.vE (Val.move 1 rfl rfl) ?_
    refine TL.opK rfl fun K hK => ?_
    refine OpT.buildP rfl rfl (xs := [(Go.Operand.const (Go.Value.int Go.IntKind.i64 16)), (Go.Operand.const (Go.Value.int Go.IntKind.i64 17))]) rfl rfl rfl rfl (sz := 1) rfl rfl rfl (by decide) (by decide) ?_ -- 113
    simp only [nrm, Nat.reduceBEq, Nat.reduceBNe, reduceIte]
    refine hK _ ?_
    clear hK K
    refine TL.drawP (yes_none rfl) rfl rfl rfl rfl rfl (K := 1000001) rfl (by first | exact .inl rfl | exact .inr ⟨rfl, by decide, rfl⟩) (by first | assumption | omega) (by repeat first | exact .nil | refine SnapsD.cons .cur ?_ | refine SnapsD.cons (.ro _) ?_ | refine SnapsD.cons (.aggRo _) ?_ | refine SnapsD.cons (.ref _ _ rfl (by first | assumption | exact whole_map _ _ (fun w c hc => by simp only [D.row, List.mem_cons, List.not_mem_nil, or_false] at hc; subst hc; exact .v _)) (by decide)) ?_) (spec_l01PickInt_c hby hn [16, 17] (by decide) (by decide)) (fun x => ⟨_, rfl⟩) (fun x i' h' => by simp only [St.curC, cur3, refP, pinK, pinB]; simp only [nrm, Nat.reduceBEq, Nat.reduceBNe, reduceIte]; rfl) fun x114 ci114 ch114 hp114 hci114 => ?_
    refine TL.valE rfl (by first | exact Val.field rfl rfl rfl | exact Val.fieldC rfl rfl rfl) (by simp only [St.put, List.set_cons_succ, List.set_cons_zero, List.getElem_toArray, List.getElem_cons_succ, List.getElem_cons_zero, Nat.zero_add, Nat.reduceAdd]; rfl) ?_
    refine TL.opK rfl fun K hK => ?_
    refine OpT.store (z := 1) rfl rfl rfl rfl rfl rfl (by simp [St.store1, St.storeAll, St.cellAt, St.isMem, St.root, St.wrote, St.kill, St.setRoot, TS.kill, TV.kill, C.kill, Rt.kill, hitR, hitP, shapeOf, setRow, setAt, rowAt, D.row, D.reRow, List.isPrefixOf]; rfl) ?_ -- None
    simp only [nrm, Nat.reduceBEq, Nat.reduceBNe, reduceIte]
    refine hK _ ?_
    clear hK K
    refine TL.nil ?_
    show TC _ _ _ _ _ _
    -- region 53
    refine TC.region ?_
    refine TL.vE (Val.move 1 rfl rfl) ?_
    refine TL.drawP (yes_none rfl) rfl rfl rfl rfl rfl (K := 1000001) rfl (by first | exact .inl rfl | exact .inr ⟨rfl, by decide, rfl⟩) (by first | assumption | omega) (by repeat first | exact .nil | refine SnapsD.cons .cur ?_ | refine SnapsD.cons (.ro _) ?_ | refine SnapsD.cons (.aggRo _) ?_ | refine SnapsD.cons (.ref _ _ rfl (by first | assumption | exact whole_map _ _ (fun w c hc => by simp only [D.row, List.mem_cons, List.not_mem_nil, or_false] at hc; subst hc; exact .v _)) (by decide)) ?_) (spec_l01Below_c hby hn 4 (by decide)) (fun x => ⟨_, rfl⟩) (fun x i' h' => by simp only [St.curC, cur3, refP, pinK, pinB]; simp only [nrm, Nat.reduceBEq, Nat.reduceBNe, reduceIte]; rfl) fun x117 ci117 ch117 hp117 hci117 => ?_
    refine TL.valE rfl (by first | exact Val.field rfl rfl rfl | exact Val.fieldC rfl rfl rfl) (by simp only [St.put, List.set_cons_succ, List.set_cons_zero, List.getElem_toArray, List.getElem_cons_succ, List.getElem_cons_zero, Nat.zero_add, Nat.reduceAdd]; rfl) ?_
    refine TL.opK rfl fun K hK => ?_
    refine OpT.store (z := 1) rfl rfl rfl rfl rfl rfl (by simp [St.store1, St.storeAll, St.cellAt, St.isMem, St.root, St.wrote, St.kill, St.setRoot, TS.kill, TV.kill, C.kill, Rt.kill, hitR, hitP, shapeOf, setRow, setAt, rowAt, D.row, D.reRow, List.isPrefixOf]; rfl) ?_ -- None
    simp only [nrm, Nat.reduceBEq, Nat.reduceBNe, reduceIte]
    refine hK _ ?_
    clear hK K
    refine TL.nil ?_
    show TC _ _ _ _ _ _
    refine TC.seq ?_
    -- region 54
    refine TC.region ?_
    refine TL.valE rfl (by first | exact Val.loadCAgg (n := 6) rfl rfl rfl rfl (Nat.le_of_ble_eq_true rfl) | exact Val.loadAgg (n := 6) rfl rfl rfl rfl (by simp [St.cellsAt, St.cellAt, St.root, valC]; rfl) rfl | exact Val.loadAgg (n := 6) rfl rfl rfl rfl rfl rfl) (by simp only [St.put, List.set_cons_succ, List.set_cons_zero, valC, dAct, rAct, D.row, List.take_succ_cons, List.take_zero, List.map_cons, List.map_nil]; rfl) ?_
    refine TL.opK rfl fun K hK => ?_
    refine OpT.storeAgg rfl rfl rfl rfl rfl rfl (by simp [St.store1, St.storeAll, St.cellAt, St.isMem, St.root, St.wrote, St.kill, St.setRoot, TS.kill, TV.kill, C.kill, Rt.kill, hitR, hitP, shapeOf, setRow, setAt, rowAt, D.row, D.reRow, List.isPrefixOf]; rfl) ?_ -- None
    simp only [nrm, Nat.reduceBEq, Nat.reduceBNe, reduceIte]
    refine hK _ ?_
    clear hK K
    refine TL.nil ?_
    show TC _ _ _ _ _ _
    refine TC.ret ?_
    exact ⟨.inr rfl, [_], [_], _, _, _, rfl, by decide, rfl, by simp [refV, refC, valC], rfl, rfl, by assumption, rdAct _ _ _ _ _ _ rfl⟩
  have hk110 := hb
  -- region 3
  refine TC.region ?_
  refine TL.valE rfl (by first | exact Val.field rfl rfl rfl | exact Val.fieldC rfl rfl rfl) (by simp only [St.put, List.set_cons_succ, List.set_cons_zero, List.getElem_toArray, List.getElem_cons_succ, List.getElem_cons_zero, Nat.zero_add, Nat.reduceAdd]; rfl) ?_
  refine TL.opK rfl fun K hK => ?_
  refine OpT.store (z := 1) rfl rfl rfl rfl rfl rfl (by simp [St.store1, St.storeAll, St.cellAt, St.isMem, St.root, St.wrote, St.kill, St.setRoot, TS.kill, TV.kill, C.kill, Rt.kill, hitR, hitP, shapeOf, setRow, setAt, rowAt, D.row, D.reRow, List.isPrefixOf]; rfl) ?_ -- None
  simp only [nrm, Nat.reduceBEq, Nat.reduceBNe, reduceIte]
  refine hK _ ?_
  clear hK K
  refine TL.nil ?_
  show TC _ _ _ _ _ _
  refine TC.seq ?_
  -- region 54
  refine TC.region ?_
  refine TL.valE rfl (by first | exact Val.loadCAgg (n := 6) rfl rfl rfl rfl (Nat.le_of_ble_eq_true rfl) | exact Val.loadAgg (n := 6) rfl rfl rfl rfl (by simp [St.cellsAt, St.cellAt, St.root, valC]; rfl) rfl | exact Val.loadAgg (n := 6) rfl rfl rfl rfl rfl rfl) (by simp only [St.put, List.set_cons_succ, List.set_cons_zero, valC, dAct, rAct, D.row, List.take_succ_cons, List.take_zero, List.map_cons, List.map_nil]; rfl) ?_
  refine TL.opK rfl fun K hK => ?_
  refine OpT.storeAgg rfl rfl rfl rfl rfl rfl (by simp [St.store1, St.storeAll, St.cellAt, St.isMem, St.root, St.wrote, St.kill, St.setRoot, TS.kill, TV.kill, C.kill, Rt.kill, hitR, hitP, shapeOf, setRow, setAt, rowAt, D.row, D.reRow, List.isPrefixOf]; rfl) ?_ -- None
  simp only [nrm, Nat.reduceBEq, Nat.reduceBNe, reduceIte]
  refine hK _ ?_
  clear hK K
  refine TL.nil ?_
  show TC _ _ _ _ _ _
  refine TC.ret ?_
  exact ⟨.inr rfl, [_], [_], _, _, _, rfl, by decide, rfl, by simp [refV, refC, valC], rfl, rfl, by assumption, rdAct _ _ _ _ _ _ rfl⟩

-- loop.example/g00975/spec.l28Any: params ['*spec.l01Cur'] results ['impl.Act = loop.example/g00975/impl.Act'] ('arr', [('app', 'Go.ResultVar.cell', ['2', '27'])])
theorem spec_l28Any_c {ds : List D} (hby : isBytes ds) (hn : ds.length ≤ 1048576)  : FunC Tryd.prog 114 ds [.one (.ptr ⟨pinB, [], 0⟩)] (RDr (fun x : VAct => A (rAct x)) (fun _ => True)) := by
  refine FunC.of Tryd.func114 rfl (by simp [Tryd.ntmps114]) fun w g0 ci0 ch0 hci0 => ?_
  simp only [Tryd.ntmps114, List.length_cons, List.length_nil, Nat.reduceAdd, Nat.reduceSub, List.replicate, List.cons_append, List.nil_append, stC, cur3, refP, pinB, pinK]
  refine TC.seq ?_
  -- region 0
  refine TC.region ?_
  refine TL.opK rfl fun K hK => ?_
  refine OpT.alloc rfl rfl rfl rfl rfl rfl ?_ -- 2
  simp only [nrm, Nat.reduceBEq, Nat.reduceBNe, reduceIte]
  refine hK _ ?_
  clear hK K
  refine TL.nil ?_
  show TC _ _ _ _ _ _
  refine TC.seq ?_
  -- region 1
  refine TC.region ?_
  refine TL.vE (Val.move 1 rfl rfl) ?_
  refine TL.drawP (yes_none rfl) rfl rfl rfl rfl rfl (K := 1000001) rfl (by first | exact .inl rfl | exact .inr ⟨rfl, by decide, rfl⟩) (by first | assumption | omega) (by repeat first | exact .nil | refine SnapsD.cons .cur ?_ | refine SnapsD.cons (.ro _) ?_ | refine SnapsD.cons (.aggRo _) ?_ | refine SnapsD.cons (.ref _ _ rfl (by first | assumption | exact whole_map _ _ (fun w c hc => by simp only [D.row, List.mem_cons, List.not_mem_nil, or_false] at hc; subst hc; exact .v _)) (by decide)) ?_) (spec_l28Act_c hby hn) (fun x => ⟨_, rfl⟩) (fun x i' h' => by simp only [St.curC, cur3, refP, pinK, pinB]; simp only [nrm, Nat.reduceBEq, Nat.reduceBNe, reduceIte]; rfl) fun x5 ci5 ch5 hp5 hci5 => ?_
  refine TL.opK rfl fun K hK => ?_
  refine OpT.alloc rfl rfl rfl rfl rfl rfl ?_ -- 3
  simp only [nrm, Nat.reduceBEq, Nat.reduceBNe, reduceIte]
  refine hK _ ?_
  clear hK K
  refine TL.opK rfl fun K hK => ?_
  refine OpT.storeAgg rfl rfl rfl rfl rfl rfl (by simp [St.store1, St.storeAll, St.cellAt, St.isMem, St.root, St.wrote, St.kill, St.setRoot, TS.kill, TV.kill, C.kill, Rt.kill, hitR, hitP, shapeOf, setRow, setAt, rowAt, D.row, D.reRow, List.isPrefixOf]; rfl) ?_ -- None
  simp only [nrm, Nat.reduceBEq, Nat.reduceBNe, reduceIte]
  refine hK _ ?_
  clear hK K
  refine TL.nil ?_
  show TC _ _ _ _ _ _
  refine TC.seq ?_
  refine TC.seq ?_
  -- region 2
  refine TC.region ?_
  refine TL.vE (Val.move 1 rfl rfl) ?_
  refine TL.drawP (yes_none rfl) rfl rfl rfl rfl rfl (K := 1000001) rfl (by first | exact .inl rfl | exact .inr ⟨rfl, by decide, rfl⟩) (by first | assumption | omega) (by repeat first | exact .nil | refine SnapsD.cons .cur ?_ | refine SnapsD.cons (.ro _) ?_ | refine SnapsD.cons (.aggRo _) ?_ | refine SnapsD.cons (.ref _ _ rfl (by first | assumption | exact whole_map _ _ (fun w c hc => by simp only [D.row, List.mem_cons, List.not_mem_nil, or_false] at hc; subst hc; exact .v _)) (by decide)) ?_) (spec_l01Below_c hby hn 10 (by decide)) (fun x => ⟨_, rfl⟩) (fun x i' h' => by simp only [St.curC, cur3, refP, pinK, pinB]; simp only [nrm, Nat.reduceBEq, Nat.reduceBNe, reduceIte]; rfl) fun x7 ci7 ch7 hp7 hci7 => ?_
  refine TL.nil ?_
  show TC _ _ _ _ _ _
  refine TC.block ?_
  refine TC.seq ?_
  -- region 3
  refine TC.region ?_
  refine TL.vE (Val.eql rfl rfl rfl) ?_
  refine TL.vE (Val.assign 1 rfl rfl) ?_
  refine TL.nil ?_
  show TC _ _ _ _ _ _
  refine TC.cond rfl (fun hb => ?_) (fun hb => ?_)
  · have hk8 := hb
    -- region 4
    refine TC.region ?_
    refine TL.vE (Val.move 1 rfl rfl) ?_
    refine TL.drawP (yes_none rfl) rfl rfl rfl rfl rfl (K := 1000001) rfl (by first | exact .inl rfl | exact .inr ⟨rfl, by decide, rfl⟩) (by first | assumption | omega) (by repeat first | exact .nil | refine SnapsD.cons .cur ?_ | refine SnapsD.cons (.ro _) ?_ | refine SnapsD.cons (.aggRo _) ?_ | refine SnapsD.cons (.ref _ _ rfl (by first | assumption | exact whole_map _ _ (fun w c hc => by simp only [D.row, List.mem_cons, List.not_mem_nil, or_false] at hc; subst hc; exact .v _)) (by decide)) ?_) (spec_l01Below_c hby hn 20 (by decide)) (fun x => ⟨_, rfl⟩) (fun x i' h' => by simp only [St.curC, cur3, refP, pinK, pinB]; simp only [nrm, Nat.reduceBEq, Nat.reduceBNe, reduceIte]; rfl) fun x11 ci11 ch11 hp11 hci11 => ?_
    refine TL.vE (Val.sub rfl rfl rfl (by first | omega | (simp only [List.length_map]; omega)) (by first | omega | (simp only [List.length_map]; omega))) ?_
    refine TL.valE rfl (by first | exact Val.field rfl rfl rfl | exact Val.fieldC rfl rfl rfl) (by simp only [St.put, List.set_cons_succ, List.set_cons_zero, List.getElem_toArray, List.getElem_cons_succ, List.getElem_cons_zero, Nat.zero_add, Nat.reduceAdd]; rfl) ?_
    refine TL.opK rfl fun K hK => ?_
    refine OpT.store (z := 1) rfl rfl rfl rfl rfl rfl (by simp [St.store1, St.storeAll, St.cellAt, St.isMem, St.root, St.wrote, St.kill, St.setRoot, TS.kill, TV.kill, C.kill, Rt.kill, hitR, hitP, shapeOf, setRow, setAt, rowAt, D.row, D.reRow, List.isPrefixOf]; rfl) ?_ -- None
    simp only [nrm, Nat.reduceBEq, Nat.reduceBNe, reduceIte]
    refine hK _ ?_
    clear hK K
    refine TL.nil ?_
    show TC _ _ _ _ _ _
    refine TC.seq ?_
    -- region 11
    refine TC.region ?_
    refine TL.valE rfl (by first | exact Val.loadCAgg (n := 6) rfl rfl rfl rfl (Nat.le_of_ble_eq_true rfl) | exact Val.loadAgg (n := 6) rfl rfl rfl rfl (by simp [St.cellsAt, St.cellAt, St.root, valC]; rfl) rfl | exact Val.loadAgg (n := 6) rfl rfl rfl rfl rfl rfl) (by simp only [St.put, List.set_cons_succ, List.set_cons_zero, valC, dAct, rAct, D.row, List.take_succ_cons, List.take_zero, List.map_cons, List.map_nil]; rfl) ?_
    refine TL.opK rfl fun K hK => ?_
    refine OpT.storeAgg rfl rfl rfl rfl rfl rfl (by simp [St.store1, St.storeAll, St.cellAt, St.isMem, St.root, St.wrote, St.kill, St.setRoot, TS.kill, TV.kill, C.kill, Rt.kill, hitR, hitP, shapeOf, setRow, setAt, rowAt, D.row, D.reRow, List.isPrefixOf]; rfl) ?_ -- None
    simp only [nrm, Nat.reduceBEq, Nat.reduceBNe, reduceIte]
    refine hK _ ?_
    clear hK K
    refine TL.nil ?_
    show TC _ _ _ _ _ _
    refine TC.ret ?_
    exact ⟨.inr rfl, [_], [_], _, _, _, rfl, by decide, rfl, by simp [refV, refC, valC], rfl, rfl, by assumption, rdAct _ _ _ _ _ _ rfl⟩
  have hk8 := hb
  refine TC.seq ?_
  -- region 5
  refine TC.region ?_
  refine TL.vE (Val.eql rfl rfl rfl) ?_
  refine TL.vE (Val.assign 1 rfl rfl) ?_
  refine TL.nil ?_
  show TC _ _ _ _ _ _
  refine TC.cond rfl (fun hb => ?_) (fun hb => ?_)
  · have hk14 := hb
    -- region 6
    refine TC.region ?_
    refine TL.vE (Val.move 1 rfl rfl) ?_
    refine TL.drawP (yes_none rfl) rfl rfl rfl rfl rfl (K := 1000001) rfl (by first | exact .inl rfl | exact .inr ⟨rfl, by decide, rfl⟩) (by first | assumption | omega) (by repeat first | exact .nil | refine SnapsD.cons .cur ?_ | refine SnapsD.cons (.ro _) ?_ | refine SnapsD.cons (.aggRo _) ?_ | refine SnapsD.cons (.ref _ _ rfl (by first | assumption | exact whole_map _ _ (fun w c hc => by simp only [D.row, List.mem_cons, List.not_mem_nil, or_false] at hc; subst hc; exact .v _)) (by decide)) ?_) (spec_l21At_c hby hn) (fun x => ⟨_, rfl⟩) (fun x i' h' => by simp only [St.curC, cur3, refP, pinK, pinB]; simp only [nrm, Nat.reduceBEq, Nat.reduceBNe, reduceIte]; rfl) fun x17 ci17 ch17 hp17 hci17 => ?_
    refine TL.valE rfl (by first | exact Val.field rfl rfl rfl | exact Val.fieldC rfl rfl rfl) (by simp only [St.put, List.set_cons_succ, List.set_cons_zero, List.getElem_toArray, List.getElem_cons_succ, List.getElem_cons_zero, Nat.zero_add, Nat.reduceAdd]; rfl) ?_
    refine TL.opK rfl fun K hK => ?_
    refine OpT.store (z := 1) rfl rfl rfl rfl rfl rfl (by simp [St.store1, St.storeAll, St.cellAt, St.isMem, St.root, St.wrote, St.kill, St.setRoot, TS.kill, TV.kill, C.kill, Rt.kill, hitR, hitP, shapeOf, setRow, setAt, rowAt, D.row, D.reRow, List.isPrefixOf]; rfl) ?_ -- None
    simp only [nrm, Nat.reduceBEq, Nat.reduceBNe, reduceIte]
    refine hK _ ?_
    clear hK K
    refine TL.nil ?_
    show TC _ _ _ _ _ _
    refine TC.seq ?_
    -- region 11
    refine TC.region ?_
    refine TL.valE rfl (by first | exact Val.loadCAgg (n := 6) rfl rfl rfl rfl (Nat.le_of_ble_eq_true rfl) | exact Val.loadAgg (n := 6) rfl rfl rfl rfl (by simp [St.cellsAt, St.cellAt, St.root, valC]; rfl) rfl | exact Val.loadAgg (n := 6) rfl rfl rfl rfl rfl rfl) (by simp only [St.put, List.set_cons_succ, List.set_cons_zero, valC, dAct, rAct, D.row, List.take_succ_cons, List.take_zero, List.map_cons, List.map_nil]; rfl) ?_
    refine TL.opK rfl fun K hK => ?_
    refine OpT.storeAgg rfl rfl rfl rfl rfl rfl (by simp [St.store1, St.storeAll, St.cellAt, St.isMem, St.root, St.wrote, St.kill, St.setRoot, TS.kill, TV.kill, C.kill, Rt.kill, hitR, hitP, shapeOf, setRow, setAt, rowAt, D.row, D.reRow, List.isPrefixOf]; rfl) ?_ -- None
    simp only [nrm, Nat.reduceBEq, Nat.reduceBNe, reduceIte]
    refine hK _ ?_
    clear hK K
    refine TL.nil ?_
    show TC _ _ _ _ _ _
    refine TC.ret ?_
    exact ⟨.inr rfl, [_], [_], _, _, _, rfl, by decide, rfl, by simp [refV, refC, valC], rfl, rfl, by assumption, rdAct _ _ _ _ _ _ rfl⟩
  have hk14 := hb
  refine TC.seq ?_
  -- region 7
  refine TC.region ?_
  refine TL.vE (Val.eql rfl rfl rfl) ?_
  refine TL.vE (Val.assign 1 rfl rfl) ?_
  refine TL.nil ?_
  show TC _ _ _ _ _ _
  refine TC.cond rfl (fun hb => ?_) (fun hb => ?_)
  · have hk19 := hb
    -- region 8
    refine TC.region ?_
    refine TL.vE (Val.move 1 rfl rfl) ?_
    refine TL.opK rfl fun K hK => ?_
    refine OpT.buildP rfl rfl (xs := [(Go.Operand.const (Go.Value.int Go.IntKind.i64 (-1))), (Go.Operand.const (Go.Value.int Go.IntKind.i64 4)), (Go.Operand.const (Go.Value.int Go.IntKind.i64 8)), (Go.Operand.const (Go.Value.int Go.IntKind.i64 16)), (Go.Operand.const (Go.Value.int Go.IntKind.i64 100)), (Go.Operand.const (Go.Value.int Go.IntKind.i64 9223372036854775807))]) rfl rfl rfl rfl (sz := 1) rfl rfl rfl (by decide) (by decide) ?_ -- 22
    simp only [nrm, Nat.reduceBEq, Nat.reduceBNe, reduceIte]
    refine hK _ ?_
    clear hK K
    refine TL.drawP (yes_none rfl) rfl rfl rfl rfl rfl (K := 1000001) rfl (by first | exact .inl rfl | exact .inr ⟨rfl, by decide, rfl⟩) (by first | assumption | omega) (by repeat first | exact .nil | refine SnapsD.cons .cur ?_ | refine SnapsD.cons (.ro _) ?_ | refine SnapsD.cons (.aggRo _) ?_ | refine SnapsD.cons (.ref _ _ rfl (by first | assumption | exact whole_map _ _ (fun w c hc => by simp only [D.row, List.mem_cons, List.not_mem_nil, or_false] at hc; subst hc; exact .v _)) (by decide)) ?_) (spec_l01PickInt_c hby hn [-1, 4, 8, 16, 100, 9223372036854775807] (by decide) (by decide)) (fun x => ⟨_, rfl⟩) (fun x i' h' => by simp only [St.curC, cur3, refP, pinK, pinB]; simp only [nrm, Nat.reduceBEq, Nat.reduceBNe, reduceIte]; rfl) fun x23 ci23 ch23 hp23 hci23 => ?_
    refine TL.valE rfl (by first | exact Val.field rfl rfl rfl | exact Val.fieldC rfl rfl rfl) (by simp only [St.put, List.set_cons_succ, List.set_cons_zero, List.getElem_toArray, List.getElem_cons_succ, List.getElem_cons_zero, Nat.zero_add, Nat.reduceAdd]; rfl) ?_
    refine TL.opK rfl fun K hK => ?_
    refine OpT.store (z := 1) rfl rfl rfl rfl rfl rfl (by simp [St.store1, St.storeAll, St.cellAt, St.isMem, St.root, St.wrote, St.kill, St.setRoot, TS.kill, TV.kill, C.kill, Rt.kill, hitR, hitP, shapeOf, setRow, setAt, rowAt, D.row, D.reRow, List.isPrefixOf]; rfl) ?_ -- None
    simp only [nrm, Nat.reduceBEq, Nat.reduceBNe, reduceIte]
    refine hK _ ?_
    clear hK K
    refine TL.nil ?_
    show TC _ _ _ _ _ _
    refine TC.seq ?_
    -- region 11
    refine TC.region ?_
    refine TL.valE rfl (by first | exact Val.loadCAgg (n := 6) rfl rfl rfl rfl (Nat.le_of_ble_eq_true rfl) | exact Val.loadAgg (n := 6) rfl rfl rfl rfl (by simp [St.cellsAt, St.cellAt, St.root, valC]; rfl) rfl | exact Val.loadAgg (n := 6) rfl rfl rfl rfl rfl rfl) (by simp only [St.put, List.set_cons_succ, List.set_cons_zero, valC, dAct, rAct, D.row, List.take_succ_cons, List.take_zero, List.map_cons, List.map_nil]; rfl) ?_
    refine TL.opK rfl fun K hK => ?_
    refine OpT.storeAgg rfl rfl rfl rfl rfl rfl (by simp [St.store1, St.storeAll, St.cellAt, St.isMem, St.root, St.wrote, St.kill, St.setRoot, TS.kill, TV.kill, C.kill, Rt.kill, hitR, hitP, shapeOf, setRow, setAt, rowAt, D.row, D.reRow, List.isPrefixOf]; rfl) ?_ -- None
    simp only [nrm, Nat.reduceBEq, Nat.reduceBNe, reduceIte]
    refine hK _ ?_
    clear hK K
    refine TL.nil ?_
    show TC _ _ _ _ _ _
    refine TC.ret ?_
    exact ⟨.inr rfl, [_], [_], _, _, _, rfl, by decide, rfl, by simp [refV, refC, valC], rfl, rfl, by assumption, rdAct _ _ _ _ _ _ rfl⟩
  have hk19 := hb
  refine TC.seq ?_
  -- region 9
  refine TC.region ?_
  refine TL.vE (Val.eql rfl rfl rfl) ?_
  refine TL.vE (Val.assign 1 rfl rfl) ?_
  refine TL.nil ?_
  show TC _ _ _ _ _ _
  refine TC.cond rfl (fun hb => ?_) (fun hb => ?_)
  · have hk25 := hb
    -- region 10
    refine TC.region ?_
    refine TL.vE (Val.move 1 rfl rfl) ?_
    refine TL.opK rfl fun K hK => ?_
    refine OpT.buildP rfl rfl (xs := [(Go.Operand.const (Go.Value.int Go.IntKind.i64 (-1))), (Go.Operand.const (Go.Value.int Go.IntKind.i64 0)), (Go.Operand.const (Go.Value.int Go.IntKind.i64 1)), (Go.Operand.const (Go.Value.int Go.IntKind.i64 4))]) rfl rfl rfl rfl (sz := 1) rfl rfl rfl (by decide) (by decide) ?_ -- 28
    simp only [nrm, Nat.reduceBEq, Nat.reduceBNe, reduceIte]
    refine hK _ ?_
    clear hK K
    refine TL.drawP (yes_none rfl) rfl rfl rfl rfl rfl (K := 1000001) rfl (by first | exact .inl rfl | exact .inr ⟨rfl, by decide, rfl⟩) (by first | assumption | omega) (by repeat first | exact .nil | refine SnapsD.cons .cur ?_ | refine SnapsD.cons (.ro _) ?_ | refine SnapsD.cons (.aggRo _) ?_ | refine SnapsD.cons (.ref _ _ rfl (by first | assumption | exact whole_map _ _ (fun w c hc => by simp only [D.row, List.mem_cons, List.not_mem_nil, or_false] at hc; subst hc; exact .v _)) (by decide)) ?_) (spec_l01PickInt_c hby hn [-1, 0, 1, 4] (by decide) (by decide)) (fun x => ⟨_, rfl⟩) (fun x i' h' => by simp only [St.curC, cur3, refP, pinK, pinB]; simp only [nrm, Nat.reduceBEq, Nat.reduceBNe, reduceIte]; rfl) fun x29 ci29 ch29 hp29 hci29 => ?_
    refine TL.valE rfl (by first | exact Val.field rfl rfl rfl | exact Val.fieldC rfl rfl rfl) (by simp only [St.put, List.set_cons_succ, List.set_cons_zero, List.getElem_toArray, List.getElem_cons_succ, List.getElem_cons_zero, Nat.zero_add, Nat.reduceAdd]; rfl) ?_
    refine TL.opK rfl fun K hK => ?_
    refine OpT.store (z := 1) rfl rfl rfl rfl rfl rfl (by simp [St.store1, St.storeAll, St.cellAt, St.isMem, St.root, St.wrote, St.kill, St.setRoot, TS.kill, TV.kill, C.kill, Rt.kill, hitR, hitP, shapeOf, setRow, setAt, rowAt, D.row, D.reRow, List.isPrefixOf]; rfl) ?_ -- None
    simp only [nrm, Nat.reduceBEq, Nat.reduceBNe, reduceIte]
    refine hK _ ?_
    clear hK K
    refine TL.nil ?_
    show TC _ _ _ _ _ _
    refine TC.seq ?_
    -- region 11
    refine TC.region ?_
    refine TL.valE rfl (by first | exact Val.loadCAgg (n := 6) rfl rfl rfl rfl (Nat.le_of_ble_eq_true rfl) | exact Val.loadAgg (n := 6) rfl rfl rfl rfl (by simp [St.cellsAt, St.cellAt, St.root, valC]; rfl) rfl | exact Val.loadAgg (n := 6) rfl rfl rfl rfl rfl rfl) (by simp only [St.put, List.set_cons_succ, List.set_cons_zero, valC, dAct, rAct, D.row, List.take_succ_cons, List.take_zero, List.map_cons, List.map_nil]; rfl) ?_
    refine TL.opK rfl fun K hK => ?_
    refine OpT.storeAgg rfl rfl rfl rfl rfl rfl (by simp [St.store1, St.storeAll, St.cellAt, St.isMem, St.root, St.wrote, St.kill, St.setRoot, TS.kill, TV.kill, C.kill, Rt.kill, hitR, hitP, shapeOf, setRow, setAt, rowAt, D.row, D.reRow, List.isPrefixOf]; rfl) ?_ -- None
    simp only [nrm, Nat.reduceBEq, Nat.reduceBNe, reduceIte]
    refine hK _ ?_
    clear hK K
    refine TL.nil ?_
    show TC _ _ _ _ _ _
    refine TC.ret ?_
    exact ⟨.inr rfl, [_], [_], _, _, _, rfl, by decide, rfl, by simp [refV, refC, valC], rfl, rfl, by assumption, rdAct _ _ _ _ _ _ rfl⟩
  have hk25 := hb
  refine TC.skip ?_
  show TC _ _ _ _ _ _
  refine TC.seq ?_
  -- region 11
  refine TC.region ?_
  refine TL.valE rfl (by first | exact Val.loadCAgg (n := 6) rfl rfl rfl rfl (Nat.le_of_ble_eq_true rfl) | exact Val.loadAgg (n := 6) rfl rfl rfl rfl (by simp [St.cellsAt, St.cellAt, St.root, valC]; rfl) rfl | exact Val.loadAgg (n := 6) rfl rfl rfl rfl rfl rfl) (by simp only [St.put, List.set_cons_succ, List.set_cons_zero, valC, dAct, rAct, D.row, List.take_succ_cons, List.take_zero, List.map_cons, List.map_nil]; rfl) ?_
  refine TL.opK rfl fun K hK => ?_
  refine OpT.storeAgg rfl rfl rfl rfl rfl rfl (by simp [St.store1, St.storeAll, St.cellAt, St.isMem, St.root, St.wrote, St.kill, St.setRoot, TS.kill, TV.kill, C.kill, Rt.kill, hitR, hitP, shapeOf, setRow, setAt, rowAt, D.row, D.reRow, List.isPrefixOf]; rfl) ?_ -- None
  simp only [nrm, Nat.reduceBEq, Nat.reduceBNe, reduceIte]
  refine hK _ ?_
  clear hK K
  refine TL.nil ?_
  show TC _ _ _ _ _ _
  refine TC.ret ?_
  exact ⟨.inr rfl, [_], [_], _, _, _, rfl, by decide, rfl, by simp [refV, refC, valC], rfl, rfl, by assumption, rdAct _ _ _ _ _ _ rfl⟩
end Go.Proofs.YtdlpmcjpbcbbjaaDoor.T

