/- The lifted walk, part zb: strings and numbers. No condition. -/
import Derived.Test.YtdlpmcjpbcbbjaaDoorTy
namespace Go.Proofs.YtdlpmcjpbcbbjaaDoor.T
open Go
set_option linter.unusedVariables false
set_option linter.unusedSimpArgs false

theorem wrap_u8 {n : Int} (h1 : 0 ≤ n) (h2 : n < 256) : IntKind.u8.wrap n = n := by
  simp only [IntKind.wrap, IntKind.signed, IntKind.bits, Bool.false_and, Bool.false_eq_true, if_false]
  omega

theorem lit_size (l : Array UInt8) : (ByteArray.mk l).size = l.size := rfl
theorem strOfNums_size (ns : List Int) : (strOfNums ns).size = ns.length := by simp [strOfNums, ByteArray.size]

abbrev S (s : ByteArray) : TS := V (.string s)

/-- Ways that meet again, in one state. -/
theorem TC.joinTo {P : Program} {w0 : World} {g0 : Gh} {x : Code} {st : St} {Q : Exit → St → Prop} (st1 : St) (h1 : TC P w0 g0 x st (fun e st' => e = .normal ∧ Can st' st1)) (h2 : ∀ st', Can st' st1 → Q .normal st') : TC P w0 g0 x st Q :=
  h1.mono fun e st' ⟨he, h⟩ => he ▸ h2 st' h

section
variable {P : Program} {w0 : World} {g0 : Gh} {st : St} {o : Oper} {ty ty' : TypeId} {x y z : Operand}

theorem Val.addS {a b : ByteArray} (ho : o.op = .binOp .add ty x y ty') (hx : T.opd 0 st x = some (S a)) (hy : T.opd 0 st y = some (S b)) (hl : a.size + b.size ≤ 9223372036854775807) : Val P w0 g0 o st (S (a ++ b)) :=
  Val.bin ho hx hy rfl (fun w => by
    have hm : IntKind.i64.max = 9223372036854775807 := by decide
    have : ¬ (((a.size + b.size : Nat) : Int) > IntKind.i64.max) := by rw [hm]; omega
    rw [binOp_string_add]
    simp only [Op.stringOp, if_neg this]
    rfl) rfl

theorem Val.rem {k : IntKind} {a b : Int} (ho : o.op = .binOp .rem ty x y ty') (hx : T.opd 0 st x = some (V (.int k a))) (hy : T.opd 0 st y = some (V (.int k b))) (hb : b ≠ 0) : Val P w0 g0 o st (V (.int k (a.tmod b))) :=
  Val.bin ho hx hy rfl (fun w => by rw [binOp_rem]; simp [Op.intDiv, hb]) rfl
theorem Val.quo {a b : Int} (ho : o.op = .binOp .quo ty x y ty') (hx : T.opd 0 st x = some (I a)) (hy : T.opd 0 st y = some (I b)) (hb : b ≠ 0) (h1 : -9223372036854775808 ≤ a.tdiv b) (h2 : a.tdiv b ≤ 9223372036854775807) : Val P w0 g0 o st (I (a.tdiv b)) :=
  Val.bin ho hx hy rfl (fun w => by rw [binOp_quo]; simp [Op.intDiv, hb, wrap_i64 h1 h2]) rfl
theorem Val.mul {a b : Int} (ho : o.op = .binOp .mul ty x y ty') (hx : T.opd 0 st x = some (I a)) (hy : T.opd 0 st y = some (I b)) (h1 : -9223372036854775808 ≤ a * b) (h2 : a * b ≤ 9223372036854775807) : Val P w0 g0 o st (I (a * b)) :=
  Val.bin ho hx hy rfl (fun w => by rw [binOp_mul]; simp only [Op.intArith]; rw [wrap_i64 h1 h2]; rfl) rfl
theorem Val.neg {a : Int} (ho : o.op = .unOp .neg ty x) (hx : T.opd 0 st x = some (I a)) (h1 : -9223372036854775807 ≤ a) (h2 : a ≤ 9223372036854775807) : Val P w0 g0 o st (I (-a)) :=
  fun s w g hR => ⟨.int .i64 (-a), fun w' _ => by
    have h : IntKind.i64.wrap (-a) = -a := wrap_i64 (by omega) (by omega)
    simp [execOp, ho, hR.val hx, Op.unary, Op.intArith, h], V_mk rfl⟩

/-- An int as a number of another kind. -/
theorem Val.conv {src dst : TypeId} {k k' : IntKind} {a b : Int} (ho : o.op = .convert src dst x) (hx : T.opd 0 st x = some (V (.int k a))) (hs : (P.underlying src).isSome = true) (hk : P.intKind dst = k')
    (hd : P.underlying dst = some (.int (P.intKind dst))) (hb : k'.wrap a = b) : Val P w0 g0 o st (V (.int k' b)) :=
  fun s w g hR => ⟨.int k' b, fun w' _ => by simp [execOp, ho, hR.val hx, run_convert_int (P := P) w' src dst k a hs hd, hk, hb], V_mk rfl⟩

/-- A part of a string. -/
theorem Val.sliceS {s : ByteArray} {lo hi : Operand} {i j : Int} (ho : o.op = .slice ty x (some lo) (some hi) none) (hx : T.opd 0 st x = some (S s)) (hu : P.underlying ty = some .string) (hlo : T.opd 0 st lo = some (I i)) (hhi : T.opd 0 st hi = some (I j))
    (h0 : 0 ≤ i) (h1 : i ≤ j) (h2 : j ≤ s.size) : Val P w0 g0 o st (S (s.extract i.toNat j.toNat)) :=
  fun a w g hR => ⟨.string (s.extract i.toNat j.toNat), fun w' _ => by
    obtain ⟨m, rfl⟩ := Int.eq_ofNat_of_zero_le h0
    obtain ⟨n, rfl⟩ := Int.eq_ofNat_of_zero_le (show 0 ≤ j by omega)
    have h3 : (n : Int) ≤ s.size := h2
    have h4 : m ≤ n := by omega
    have h5 : n ≤ s.size := by omega
    simp [execOp, ho, hR.val hx, hR.val hlo, hR.val hhi, Instr.sliceAt, Instr.slice, run_underlying hu, Instr.sliceBounds, Instr.sliceBound, asIntOf, h3, h4, h5], V_mk rfl⟩

/-- A string's byte. -/
theorem Val.indexS {s : ByteArray} {i : Int} {b : UInt8} (ho : o.op = .index ty x y) (hx : T.opd 0 st x = some (S s)) (hy : T.opd 0 st y = some (I i)) (hu : P.underlying ty = some .string) (h0 : 0 ≤ i) (hb : s[i.toNat]? = some b) :
    Val P w0 g0 o st (V (.int .u8 b.toNat)) :=
  fun a w g hR => ⟨.int .u8 b.toNat, fun w' _ => by
    simp [execOp, ho, hR.val hx, hR.val hy, Instr.index, run_underlying hu, asIntOf, h0, hb], V_mk rfl⟩
end
end Go.Proofs.YtdlpmcjpbcbbjaaDoor.T
