/- The lifted walk, part r: strings out of bytes; a string's bytes. No condition. -/
import Derived.Test.YtdlpmcjpbcbbjaaDoorTq
import Derived.Laws.BytesArg
namespace Go.Proofs.YtdlpmcjpbcbbjaaDoor.T
open Go
set_option linter.unusedVariables false
set_option linter.unusedSimpArgs false

section
variable {P : Program} {w0 : World} {g0 : Gh} {st : St} {a : Act} {w w' : World} {g g' : Gh}
variable {o : Oper} {Q : St → Prop} {x y : Operand} {t t2 e e2 : TypeId}

theorem Rel.src (hR : Rel w0 g0 st a w g) {tv : TS} {sz : Nat} {ns : List D} (h2 : listOf st tv = some (sz, ns)) (hpl : ∀ d ∈ ns, isPlain d) {v : Value} (hv : RepS w g tv v) :
    SrcOk w v sz ns.length (ns.flatMap plainRow) := by
  unfold listOf at h2
  split at h2
  · simp only [Option.some.injEq, Prod.mk.injEq] at h2
    obtain ⟨rfl, rfl⟩ := h2
    cases hv with
    | one _ _ h1 =>
      cases h1 with
      | c _ _ h1 => exact (ro_list_cells h1 hpl).1
  · split at h2
    · rename_i hc
      simp only [Option.some.injEq, Prod.mk.injEq] at h2
      obtain ⟨rfl, rfl⟩ := h2
      have h4 := (hR.cellAt hc).1 _ rfl
      cases hv with
      | one _ _ h1 =>
        cases h1 with
        | c _ _ h1 =>
          have h3 := h1.1
          rw [h3]
          exact (ow_list_cells h4 hpl).1
    · cases h2
  · cases h2

/-- A list of bytes. -/
abbrev bytesD (ns : List Int) : List D := ns.map fun n => D.v (.int .u8 n)

theorem bytesD_flat : ∀ ns : List Int, (bytesD ns).flatMap plainRow = ns.map (Value.int .u8)
  | [] => rfl
  | n :: ns => by
    have := bytesD_flat ns
    simp only [bytesD, List.map_cons, List.flatMap_cons] at this ⊢
    rw [this]
    rfl

theorem bytesD_plain (ns : List Int) : ∀ d ∈ bytesD ns, isPlain d := fun d hd => by
  obtain ⟨n, _, rfl⟩ := List.mem_map.1 hd
  intro c hc
  simp only [D.row, List.mem_singleton] at hc
  exact ⟨_, hc⟩

theorem Val.bytesStr (ho : o.op = .convert t t2 x) {tv : TS} {ns : List Int} (hx : T.opd 1 st x = some tv) (hl : listOf st tv = some (1, bytesD ns))
    (ht : P.underlying t = some (.slice e)) (he : P.underlying e = some (.int .u8)) (ht2 : P.underlying t2 = some .string) : Val P w0 g0 o st (V (.string (strOfNums ns))) := fun a w g hR => by
  have hs := hR.src hl (bytesD_plain ns) (hR.opd hx)
  rw [bytesD_flat] at hs
  refine ⟨.string (strOfNums ns), fun w' hw => ?_, V_mk rfl⟩
  obtain ⟨hlen, h | ⟨b, off, c, hv, hc⟩⟩ := hs
  · obtain ⟨ad, cc, hv, hn⟩ := h
    have : ns = [] := by
      cases ns with
      | nil => rfl
      | cons => simp [bytesD] at hn
    subst this
    cases ad with
    | none =>
      simp only [execOp, ho, hv, Sem.run_bind, run_convert_bytes_string w' t t2 e none 0 cc ht he ht2, Conv.bytesToString, Sem.run_pure, Result.andThen_ok]
      rfl
    | some A =>
      have hrun := run_bytesToString (P := P) w' A 0 cc [] (run_loadCells (P := P) w' A 0 (fun _ => undef) (fun j hj => absurd hj (Nat.not_lt_zero j)))
      simp only [execOp, ho, hv, Sem.run_bind, run_convert_bytes_string w' t t2 e (some A) 0 cc ht he ht2, hrun, Sem.run_pure, Result.andThen_ok]
      rfl
  · simp only [bytesD, List.length_map] at hv
    have hcells := run_loadCells (P := P) w' ⟨b, off, none⟩ ns.length (fun j => (ns.map (Value.int .u8)).getD j undef) (fun j hj => by
      rw [Addr.add_lit]
      refine hw.cell (hc j _ ?_)
      rw [List.getD_eq_getElem?_getD, List.getElem?_map, List.getElem?_eq_getElem hj]
      rfl)
    have hlist : (List.range ns.length).map (fun j => (ns.map (Value.int .u8)).getD j undef) = ns.map (Value.int .u8) := by
      apply List.ext_getElem?
      intro i
      rw [List.getElem?_map]
      rcases Nat.lt_or_ge i ns.length with h | h
      · rw [List.getElem?_range h, List.getElem?_map, List.getElem?_eq_getElem h]
        simp [h]
      · rw [List.getElem?_eq_none (by simpa using h), List.getElem?_eq_none (by simpa using h)]
        rfl
    have hrun := run_bytesToString (P := P) w' ⟨b, off, none⟩ ns.length c ns (by rw [hcells, hlist])
    simp only [execOp, ho, hv, Sem.run_bind, run_convert_bytes_string w' t t2 e _ _ c ht he ht2, hrun, Sem.run_pure, Result.andThen_ok]
    rw [foldl_push_bytes]
    congr 4
    simp [strOfNums]

end
end Go.Proofs.YtdlpmcjpbcbbjaaDoor.T
