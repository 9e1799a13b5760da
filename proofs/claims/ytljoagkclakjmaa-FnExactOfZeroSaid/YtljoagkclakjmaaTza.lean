/- The lifted walk, part za: the rules of calls that write what they are handed; lists that turn from the front. No condition. -/
import Derived.Test.YtljoagkclakjmaaTz
namespace Go.Proofs.Ytljoagkclakjmaa.T
open Go
set_option linter.unusedVariables false
set_option linter.unusedSimpArgs false

/-- The handed cells behind the call, and a result that hangs on no memory. -/
abbrev RP2 (rows : List D) (t : TS) : List D → Res → Prop := fun rs r => rs = rows ∧ r = ⟨[], fun _ => t⟩

section
variable {P : Program} {w0 : World} {g0 : Gh} {st : St}

theorem CanHand.list {srcs : List (Nat × Nat)} {row : List D} {kd : Nat} (hc : contents st srcs = some row) (hn : srcs.Nodup := by decide) (hk : (srcs.all fun s => s.1 != kd) = true := by decide) (hkd : kd < 1000000 := by decide) :
    CanHand st ⟨false, row⟩ srcs none kd := ⟨hn, hc, hkd, fun s hs => by simpa using List.all_eq_true.1 hk s hs, by simp⟩

theorem contents_box {kb : Nat} {m : Bool} : ∀ {row0 : List D} (row : List D) (q0 : Nat), st.root kb = some ⟨m, row0.map C.own⟩ → (∀ (q : Nat) d, row[q]? = some d → row0[q0 + q]? = some d) → contents st ((List.range' q0 row.length).map fun q => (kb, q)) = some row
  | row0, [], q0, h, hh => rfl
  | row0, d :: row, q0, h, hh => by
    have h1 : st.cellAt ⟨kb, [], q0⟩ = some (.own d) := by
      have := hh 0 d rfl
      simp only [St.cellAt, h, List.getElem?_map]
      rw [show q0 + 0 = q0 from rfl] at this
      rw [this]
      rfl
    have h2 := contents_box (row0 := row0) row (q0 + 1) h fun q d' hq => by
      have := hh (q + 1) d' (by simpa using hq)
      rw [show q0 + 1 + q = q0 + (q + 1) by omega]
      exact this
    simp only [List.length_cons, List.range'_succ, List.map_cons, contents, h1, h2]

theorem CanHand.bx {kb : Nat} {row : List D} {kd : Nat} (hr : st.root kb = some ⟨true, row.map C.own⟩) (hk : kb ≠ kd := by decide) (hkd : kd < 1000000 := by decide) :
    CanHand st ⟨true, row⟩ (boxSrc kb row.length) (some kb) kd := by
  refine ⟨?_, ?_, hkd, fun s hs => ?_, ?_⟩
  · unfold boxSrc List.Nodup
    rw [List.pairwise_map]
    exact List.nodup_range.imp fun hne e => hne (by simpa using e)
  · have := contents_box (row0 := row) row 0 hr (fun q d hq => by simpa using hq)
    rw [← List.range_eq_range'] at this
    exact this
  · unfold boxSrc at hs
    obtain ⟨q, _, rfl⟩ := List.mem_map.1 hs
    exact hk
  · exact ⟨kb, _, rfl, hr, rfl, rfl, by simp, hk⟩

theorem TL.call2 {ops : Array Oper} {o : Oper} {rest : List Oper} {st' : St} {Q : St → Prop} (hg : yes ops st o) {f : FuncId} {cx : Operand} {args : List Operand} {tys : Array TypeId} {fn : Func}
    (ho : o.op = .call { callee := .value cx, args := args.toArray, argTypes := tys }) (hcx : T.opd 0 st cx = some (.fn f [])) (hf : P.funcs[f]? = some fn) (hb : fn.body.isNone = false)
    (hn : (fn.name == "runtime.NumGoroutine") = false) {ts ts' : List TS} (hx : opds st args = some ts) {h : Hand} {rows : List D} {t : TS} {x : Value} (hc : Fun2 P f h ts' (RP2 rows t)) {srcs : List (Nat × Nat)} {bx : Option Nat}
    (hC : CanHand st h srcs bx 999999) (hs : GivesAll st srcs bx h.k ts ts') (hp : freeS t = some x)
    (hpt : (st.handed srcs h.mem rows 999999).put o.dst t = st') (hq : TL P w0 g0 ops rest st' Q) : TL P w0 g0 ops (o :: rest) st Q := fun a w g hR Q' hQ => wpList_step fun K hK => by
  rw [if_pos (yes_of hg hR)]
  have h1 := hR.opds hx
  have h2 := hs.get
  have hcall := hc w (g.hand w.heap.size srcs bx h.k) (args.map a.eval).toArray 999999 (by decide) (hR.handed hC) (by simp [h1.1, h2.1]) (fun i t' u hi hu => by
    obtain ⟨t, h3, h4⟩ := h2.2 i t' hi
    exact hR.giveS hC h4 (h1.2 i t u h3 (by simpa using hu)))
  unfold Oper.wp
  rw [run_enter hR ho hcx hf hb hn w]
  refine hcall.mono fun e w' ⟨v, row', r, g', he, ⟨hr1, hr2⟩, hG⟩ => ?_
  subst he
  subst hr1
  have h5 := hG.val
  rw [hr2] at h5
  have h6 := (freeS_inv hp).1 h5
  subst h6
  obtain ⟨g2, hR2, _, _⟩ := hR.called2 hC hG
  exact hK _ _ (hq _ _ _ (hpt ▸ hR2.put ((freeS_inv hp).2 rfl) o.dst) Q' hQ)
end

/- LISTS THAT TURN FROM THE FRONT -/
def mix {α : Type} (a b : List α) (k : Nat) : List α := a.take k ++ b.drop k
section
variable {α : Type} {a b : List α} {k : Nat}
theorem mix_zero : mix a b 0 = b := by simp [mix]
theorem mix_len (h : a.length = b.length) : (mix a b k).length = b.length := by simp [mix]; omega
theorem mix_get (h : a.length = b.length) : (mix a b k)[k]? = b[k]? := by
  unfold mix
  rcases Nat.lt_or_ge k b.length with hk | hk
  · rw [List.getElem?_append_right (by simp; omega), List.getElem?_drop]
    congr 1
    simp
    omega
  · rw [List.getElem?_append_right (by simp; omega), List.getElem?_drop, List.getElem?_eq_none (by simp; omega), List.getElem?_eq_none hk]
theorem mix_set {x : α} (h : a.length = b.length) (hx : a[k]? = some x) : (mix a b k).set k x = mix a b (k + 1) := by
  have hk := (List.getElem?_eq_some_iff.1 hx).1
  unfold mix
  rw [List.set_append_right _ _ (by simp; omega)]
  have h1 : k - (a.take k).length = 0 := by simp; omega
  rw [h1, List.drop_eq_getElem_cons (by omega), List.set_cons_zero, List.take_add_one, hx]
  simp
theorem mix_all (h : a.length = b.length) (hk : b.length ≤ k) : mix a b k = a := by
  unfold mix
  rw [List.take_of_length_le (by omega), List.drop_eq_nil_of_le hk, List.append_nil]
end
end Go.Proofs.Ytljoagkclakjmaa.T
