
import Derived.Test.YteelmdpahpggkaaGreatNvp
namespace Go.Proofs.YteelmdpahpggkaaGreat.T
open Go
set_option linter.unusedVariables false
set_option linter.unusedSimpArgs false
set_option maxRecDepth 100000
set_option maxHeartbeats 8000000
def lessTo (x : VMon) (p : Int) (k : Nat) : List VKept := (lessKept x p).take k ++ x.Tables.drop k
theorem lessKept_len {x : VMon} {p : Int} (h : x.Tables.length = x.Guests.length) : (lessKept x p).length = x.Guests.length := by simp [lessKept, h]
theorem lessKept_at {x : VMon} {p : Int} {k : Nat} {t : VKept} {g : VGuest} (ht : x.Tables[k]? = some t) (hg : x.Guests[k]? = some g) : (lessKept x p)[k]? = some (forgetUses t g.Live p) := by
 unfold lessKept
 rw [List.getElem?_zipWith, ht, hg]
theorem lessTo_zero {x : VMon} {p : Int} : lessTo x p 0 = x.Tables := by simp [lessTo]
theorem lessTo_len {x : VMon} {p : Int} {k : Nat} (h : x.Tables.length = x.Guests.length) (hk : k ≤ x.Guests.length) : (lessTo x p k).length = x.Guests.length := by
 simp only [lessTo, List.length_append, List.length_take, lessKept_len h, List.length_drop]
 omega
theorem lessTo_get {x : VMon} {p : Int} {k : Nat} {t : VKept} (h : x.Tables.length = x.Guests.length) (ht : x.Tables[k]? = some t) : (lessTo x p k)[k]? = some t := by
 have hk := (List.getElem?_eq_some_iff.1 ht).1
 unfold lessTo
 rw [List.getElem?_append_right (by rw [List.length_take, lessKept_len h]; omega), List.length_take, lessKept_len h, Nat.min_eq_left (by omega), Nat.sub_self, List.getElem?_drop]
 exact ht
theorem lessTo_step {x : VMon} {p : Int} {k : Nat} {t : VKept} {g : VGuest} (h : x.Tables.length = x.Guests.length) (ht : x.Tables[k]? = some t) (hg : x.Guests[k]? = some g) : lessTo x p (k + 1) = (lessTo x p k).set k (forgetUses t g.Live p) := by
 have hk := (List.getElem?_eq_some_iff.1 ht).1
 have hl : ((lessKept x p).take k).length = k := by rw [List.length_take, lessKept_len h]; omega
 unfold lessTo
 rw [List.take_add_one, lessKept_at ht hg, List.set_append_right _ _ (by omega), hl, Nat.sub_self, List.drop_eq_getElem_cons hk, List.set_cons_zero, List.append_assoc]
 rfl
theorem lessTo_end {x : VMon} {p : Int} {k : Nat} (h : x.Tables.length = x.Guests.length) (hk : k = x.Guests.length) : lessTo x p k = lessKept x p := by
 subst hk
 unfold lessTo
 rw [List.take_of_length_le (by rw [lessKept_len h]; omega), List.drop_eq_nil_of_le (by omega), List.append_nil]
def monK (x : VMon) (p : Int) (k : Nat) : VMon := { x with Tables := lessTo x p k }
theorem monK_zero {x : VMon} {p : Int} : monK x p 0 = x := by unfold monK; rw [lessTo_zero]
theorem set_same {α : Type} {xs : List α} {m : Nat} {x : α} (h : xs[m]? = some x) : xs.set m x = xs := by
 apply List.ext_getElem?
 intro j
 rw [List.getElem?_set]
 split
 ·rename_i e
  subst e
  rw [h]
  split
  ·rfl
  ·rename_i hl
   exact absurd (List.getElem?_eq_some_iff.1 h).1 hl
 ·rfl
theorem set_at {α : Type} {xs : List α} {m : Nat} {x y : α} (h : xs[m]? = some x) : (xs.set m y)[m]? = some y := by
 have := (List.getElem?_eq_some_iff.1 h).1
 rw [List.getElem?_set, if_pos rfl, if_pos this]
def spoilt (h : VHost) (m : Nat) (x : VMon) (p : Int) (s : VSlot) : VHost :=
 {h with Mons := h.Mons.set m { x with Tables := lessKept x p }, Buffer := if s.Page = -1 then h.Buffer else flushHost h.Buffer s.Page, IoBuffer := if s.Page = -1 then h.IoBuffer else flushHost h.IoBuffer s.Page }
theorem monK_next {h : VHost} {m : Nat} {x : VMon} {p : Int} {k : Nat} {t : VKept} {g : VGuest} (hxt : x.Tables.length = x.Guests.length) (ht : x.Tables[k]? = some t) (hg : x.Guests[k]? = some g) :
  (h.Mons.set m (monK x p (k + 1))).map dMon = ((h.Mons.set m (monK x p k)).map dMon).set m (.st [.sl 2 ((monK x p k).Outer.map dSlot), .sl 1 ((monK x p k).Out.map dIntS), .sl 1 ((monK x p k).Dirty.map dBool), .sl 15 ((monK x p k).Guests.map dGuest), .sl 1 ((monK x p k).Outs.map dInt),
   .v (.int .i64 (monK x p k).Pending), .v (.int .i64 (monK x p k).Traps), .sl 2 (((monK x p k).Tables.map dKept).set k (.st [.sl 1 ((forgetUses t g.Live p).Known.map dBool), .sl 2 ((forgetUses t g.Live p).Slots.map dSlot)])), .v (.int .i64 (monK x p k).Own)]) := by
 rw [List.map_set, List.map_set, List.set_set]
 congr 1
 unfold monK
 rw [lessTo_step hxt ht hg]
 show D.st _ = D.st _
 simp only [rMon, List.map_set]
theorem spoilt_1 {h : VHost} {m : Nat} {x : VMon} {p : Int} {s : VSlot} {k : Nat} (hxt : x.Tables.length = x.Guests.length) (hk : k = x.Guests.length) (hs : s.Page = -1) :
  rHost (spoilt h m x p s) = [.sl 1 (h.Memory.map dIntS), .sl 9 ((h.Mons.set m (monK x p k)).map dMon), .sl 4 (h.Buffer.map dEntry), .sl 4 (h.IoBuffer.map dEntry)] := by
 unfold spoilt monK
 rw [lessTo_end hxt hk, if_pos hs, if_pos hs]
theorem spoilt_2 {h : VHost} {m : Nat} {x : VMon} {p : Int} {s : VSlot} {k : Nat} (hxt : x.Tables.length = x.Guests.length) (hk : k = x.Guests.length) (hs : ¬ s.Page = -1) :
  rHost (spoilt h m x p s) = [.sl 1 (h.Memory.map dIntS), .sl 9 ((h.Mons.set m (monK x p k)).map dMon), .sl 4 ((flushHost h.Buffer s.Page).map dEntry), .sl 4 ((flushHost h.IoBuffer s.Page).map dEntry)] := by
 unfold spoilt monK
 rw [lessTo_end hxt hk, if_neg hs, if_neg hs]
theorem impl_invalidate_f (h : VHost) (m : Nat) (x : VMon) (p : Int) (s : VSlot) (hx : h.Mons[m]? = some x) (hxt : x.Tables.length = x.Guests.length) [Q (SmHost h)] : Fun2K Tryz.prog 228 (rHost h) 1 [.one (.ptr ⟨1000001, [], 0⟩), I m, I p, A (rSlot s)] (RP2 (rHost (spoilt h m x p s)) (.tup [])) := by
 refine Fun2K.w 71 Tryz.func228 rfl fun w g0 _ => ?_
 have qx : Q (SmMon x) := ⟨ElS.h x (List.mem_of_getElem? hx)⟩
 have hml := (List.getElem?_eq_some_iff.1 hx).1
 have hgl := (inferInstance : LenX x.Guests 1048576).h
 first | refine ixm (by assumption) ?_ | refine bnd ?_ | refine bndi ?_ | refine ixkq (fun y15 hy15 qy15 ly15 => ?_) | refine ixiq (fun y15 hy15 qy15 ly15 => ?_)
 first | refine ixs ?_ | refine ixo (by assumption) ?_ | refine ixoq (fun z1 hz1 qz1 lz1 => ?_) | skip
 first | refine ixs ?_ | refine ixo (by assumption) ?_ | refine ixoq (fun z2 hz2 qz2 lz2 => ?_) | skip
 refine len ?_
 refine loopA [0, 2, 7, 8, 20] [] [1000001] (fun (k : Nat) => [.set 21 (I k)]) (fun (k : Nat) => [(1000001, ⟨true, [.own (.sl 1 (h.Memory.map dIntS)), .own (.sl 9 (((h.Mons.set m (monK x p k)).map dMon))), .own (.sl 4 (h.Buffer.map dEntry)), .own (.sl 4 (h.IoBuffer.map dEntry))]⟩)]) (fun (k : Nat) => k ≤ x.Guests.length) (fun (k : Nat) => x.Guests.length - k) (0) (Nat.zero_le _) ?_
 refine ⟨(hda (by repeat' first | exact rfl | refine And.intro ?_ ?_ | exact True.intro | (refine eqS ?_; rw [monK_zero, set_same hx]; done))), fun k hyp N1 hN1 => ?_⟩
 have hyp : k ≤ x.Guests.length := hyp
 have hm := set_at (y := monK x p k) hx
 have htl : (monK x p k).Tables.length = x.Guests.length := lessTo_len (p := p) hxt hyp
 have hgk : (monK x p k).Guests.length = x.Guests.length := rfl
 refine cnd (fun hb => ?_) (fun hb => ?_)
 ·obtain ⟨t, ht⟩ : ∃ t, x.Tables[k]? = some t := ⟨_, List.getElem?_eq_getElem (by omega)⟩
  obtain ⟨g, hg⟩ : ∃ g, x.Guests[k]? = some g := ⟨_, List.getElem?_eq_getElem (by omega)⟩
  have htk : (monK x p k).Tables[k]? = some t := lessTo_get hxt ht
  have hgk2 : (monK x p k).Guests[k]? = some g := hg
  have qt : Q (SmKept t) := ⟨ElS.h t (List.mem_of_getElem? ht)⟩
  have qg : Q (SmGuest g) := ⟨ElS.h g (List.mem_of_getElem? hg)⟩
  refine regU [23] [(0, 0), (1, 0), (2, 0), (3, 0), (4, 0), (5, 0), (6, 0), (7, 0), (8, 0), (9, 0), (10, 0), (11, 0), (12, 0), (13, 0), (14, 0), (15, 0), (16, 0), (17, 0), (18, 0), (19, 0), (20, 0), (21, 1), (22, 0), (23, 1)] ?_
  first | refine ixs ?_ | refine ixo (by assumption) ?_ | refine ixoq (fun z3 hz3 qz3 lz3 => ?_) | skip
  first | refine ixs ?_ | refine ixo (by assumption) ?_ | refine ixoq (fun z4 hz4 qz4 lz4 => ?_) | skip
  first | refine ixs ?_ | refine ixo (by assumption) ?_ | refine ixoq (fun z5 hz5 qz5 lz5 => ?_) | skip
  first | refine ixm (by assumption) ?_ | refine bnd ?_ | refine bndi ?_ | refine ixkq (fun y34 hy34 qy34 ly34 => ?_) | refine ixiq (fun y34 hy34 qy34 ly34 => ?_)
  first | refine ixs ?_ | refine ixo (by assumption) ?_ | refine ixoq (fun z6 hz6 qz6 lz6 => ?_) | skip
  first | refine ixs ?_ | refine ixo (by assumption) ?_ | refine ixoq (fun z7 hz7 qz7 lz7 => ?_) | skip
  first | refine ixs ?_ | refine ixo (by assumption) ?_ | refine ixoq (fun z8 hz8 qz8 lz8 => ?_) | skip
  first | refine ixs ?_ | refine ixo (by assumption) ?_ | refine ixoq (fun z9 hz9 qz9 lz9 => ?_) | skip
  first | refine ixm (by assumption) ?_ | refine bnd ?_ | refine bndi ?_ | refine ixkq (fun y41 hy41 qy41 ly41 => ?_) | refine ixiq (fun y41 hy41 qy41 ly41 => ?_)
  first | refine ixs ?_ | refine ixo (by assumption) ?_ | refine ixoq (fun z10 hz10 qz10 lz10 => ?_) | skip
  first | refine ixs ?_ | refine ixo (by assumption) ?_ | refine ixoq (fun z11 hz11 qz11 lz11 => ?_) | skip
  refine callG (impl_ForgetUses_f t g.Live p).k ?_ (by repeat first | exact rfl | refine WholeW.mk (by first | exact WD.w | assumption) ?_ | refine ixo (by assumption) ?_)
  first | refine ixs ?_ | refine ixo (by assumption) ?_ | refine ixoq (fun z12 hz12 qz12 lz12 => ?_) | skip
  first | refine ixm (by assumption) ?_ | refine bnd ?_ | refine bndi ?_ | refine ixkq (fun y46 hy46 qy46 ly46 => ?_) | refine ixiq (fun y46 hy46 qy46 ly46 => ?_)
  first | refine ixs ?_ | refine ixo (by assumption) ?_ | refine ixoq (fun z13 hz13 qz13 lz13 => ?_) | skip
  first | refine ixs ?_ | refine ixo (by assumption) ?_ | refine ixoq (fun z14 hz14 qz14 lz14 => ?_) | skip
  refine rng ?_
  refine hN1 _ _ _ ?_
  refine nxa (k + 1) (by omega) (by repeat' first | exact rfl | refine And.intro ?_ ?_ | exact True.intro | (refine eqS ?_; rw [monK_next hxt ht hg]; done))
 ·refine hN1 _ _ _ ?_
  refine cnd (fun hb2 => ?_) (fun hb2 => ?_)
  ·refine regU [10] [(0, 0), (1, 0), (2, 0), (3, 0), (4, 0), (5, 0), (6, 0), (7, 1), (8, 0), (9, 0), (10, 1)] ?_
   refine callL (impl_FlushHost_f _ s.Page).k ?_
   refine regU [10] [(0, 0), (1, 0), (2, 0), (3, 0), (4, 0), (5, 0), (6, 0), (7, 1), (8, 0), (9, 0), (10, 1)] ?_
   refine callL (impl_FlushHost_f _ s.Page).k ?_
   exact ⟨by first | (rw [spoilt_1 (k := k) hxt (by omega) (by omega)]; done) | (rw [spoilt_2 (k := k) hxt (by omega) (by omega)]; done), rfl⟩
  ·exact ⟨by first | (rw [spoilt_1 (k := k) hxt (by omega) (by omega)]; done) | (rw [spoilt_2 (k := k) hxt (by omega) (by omega)]; done), rfl⟩
end Go.Proofs.YteelmdpahpggkaaGreat.T

namespace Go.Proofs.YteelmdpahpggkaaGreat.T
open Go
set_option linter.unusedVariables false
set_option linter.unusedSimpArgs false
set_option maxRecDepth 100000
set_option maxHeartbeats 8000000
theorem impl_invalidate_r {row : List D} {s : VSlot} (h : VHost) (m : Nat) (x : VMon) (p : Int) (hr : row = rHost h) (hx : h.Mons[m]? = some x) (hxt : x.Tables.length = x.Guests.length) (q : SmHost h) :
  Fun2 Tryz.prog 228 ⟨true, row⟩ [.one (.ptr ⟨1000001, [], 0⟩), I m, I p, A (rSlot s)] (RP2 (rHost (spoilt h m x p s)) (.tup [])) := by
 subst hr
 have : Q (SmHost h) := ⟨q⟩
 exact (impl_invalidate_f h m x p s hx hxt).two
theorem sm_page1 {m : List (List Int)} (h : SmIntSS m) (n : Int) : SmIntS (pageAt m n) := by
 unfold pageAt at?
 split
 ·cases hx : m[n.toNat]? with
  | none => simp [SmIntS]
  | some x => exact h.2 x (List.mem_of_getElem? hx)
 ·simp [SmIntS]
def monSent (h : VHost) (x : VMon) (p : Nat) (z : VSlot) : VMon := { x with Out := x.Out.set p (pageAt h.Memory z.Page), Outer := x.Outer.set p noSlot }
def hostSent (h : VHost) (m : Nat) (x : VMon) (p : Nat) (z : VSlot) : VHost := { h with Mons := h.Mons.set m (monSent h x p z) }
abbrev sentRow (h : VHost) (m : Nat) (x : VMon) (p : Nat) (z : VSlot) : List D := [.sl 1 (h.Memory.map dIntS), .sl 9 (((h.Mons.map dMon).set m (.st [.sl 2 (x.Outer.map dSlot), .sl 1 ((x.Out.map dIntS).set p (.sl 1 ((pageAt h.Memory z.Page).map dInt))), .sl 1 (x.Dirty.map dBool), .sl 15 (x.Guests.map dGuest), .sl 1 (x.Outs.map dInt), .v (.int .i64 x.Pending), .v (.int .i64 x.Traps), .sl 2 (x.Tables.map dKept), .v (.int .i64 x.Own)])).set m (.st [.sl 2 ((x.Outer.map dSlot).set p (.st [.v (.int .i64 noSlot.Page), .v (.int .i64 noSlot.Rights)])), .sl 1 ((x.Out.map dIntS).set p (.sl 1 ((pageAt h.Memory z.Page).map dInt))), .sl 1 (x.Dirty.map dBool), .sl 15 (x.Guests.map dGuest), .sl 1 (x.Outs.map dInt), .v (.int .i64 x.Pending), .v (.int .i64 x.Traps), .sl 2 (x.Tables.map dKept), .v (.int .i64 x.Own)])), .sl 4 (h.Buffer.map dEntry), .sl 4 (h.IoBuffer.map dEntry)]
theorem sentRow_eq (h : VHost) (m : Nat) (x : VMon) (p : Nat) (z : VSlot) : sentRow h m x p z = rHost (hostSent h m x p z) := by
 have e : dMon (monSent h x p z) = .st [.sl 2 ((x.Outer.map dSlot).set p (dSlot noSlot)), .sl 1 ((x.Out.map dIntS).set p (.sl 1 ((pageAt h.Memory z.Page).map dInt))), .sl 1 (x.Dirty.map dBool), .sl 15 (x.Guests.map dGuest), .sl 1 (x.Outs.map dInt), .v (.int .i64 x.Pending), .v (.int .i64 x.Traps), .sl 2 (x.Tables.map dKept), .v (.int .i64 x.Own)] := by
  show D.st [.sl 2 ((x.Outer.set p noSlot).map dSlot), .sl 1 ((x.Out.set p (pageAt h.Memory z.Page)).map dIntS), _, _, _, _, _, _, _] = _
  rw [List.map_set, List.map_set]
  rfl
 unfold sentRow hostSent
 rw [List.set_set]
 show _ = [_, D.sl 9 ((h.Mons.set m (monSent h x p z)).map dMon), _, _]
 rw [List.map_set, e]
theorem sm_monSent {h : VHost} {x : VMon} {p : Nat} {z : VSlot} (hh : SmHost h) (hx : SmMon x) : SmMon (monSent h x p z) := by
 refine ⟨by show (x.Outer.set _ _).length ≤ _; rw [List.length_set]; exact hx.1, ⟨by show (x.Out.set _ _).length ≤ _; rw [List.length_set]; exact hx.2.1.1, fun y hy => ?_⟩, hx.2.2⟩
 rcases List.mem_or_eq_of_mem_set hy with hy | rfl
 ·exact hx.2.1.2 y hy
 ·exact sm_page1 hh.1 _
theorem sm_hostSent {h : VHost} {m : Nat} {x : VMon} {p : Nat} {z : VSlot} (hh : SmHost h) (hx : SmMon x) : SmHost (hostSent h m x p z) := by
 refine ⟨hh.1, ⟨by show (h.Mons.set _ _).length ≤ _; rw [List.length_set]; exact hh.2.1.1, fun y hy => ?_⟩, hh.2.2⟩
 rcases List.mem_or_eq_of_mem_set hy with hy | rfl
 ·exact hh.2.1.2 y hy
 ·exact sm_monSent hh hx
theorem impl_send_f (h : VHost) (m : Nat) (x : VMon) (p : Nat) (z : VSlot) (hx : h.Mons[m]? = some x) (hxt : x.Tables.length = x.Guests.length) (hz : x.Outer[p]? = some z) (hol : x.Out.length = 8) (hol2 : x.Outer.length = 8) [Q (SmHost h)] : Fun2 Tryz.prog 226 (⟨true, rHost h⟩) [.one (.ptr ⟨1000001, [], 0⟩), I m, I p] (RP2 (rHost (spoilt (hostSent h m x p z) m (monSent h x p z) p z)) (.tup [])) := by
 refine Fun2.w 46 Tryz.func226 fun w g0 _ => ?_
 have qx : Q (SmMon x) := ⟨ElS.h x (List.mem_of_getElem? hx)⟩
 have hml := (List.getElem?_eq_some_iff.1 hx).1
 have hpl := (List.getElem?_eq_some_iff.1 hz).1
 have hml2 : m < (h.Mons.map dMon).length := by rw [List.length_map]; exact hml
 have hpl2 : p < (x.Outer.map dSlot).length := by rw [List.length_map]; exact hpl
 obtain ⟨y, hy⟩ : ∃ y, x.Out[p]? = some y := ⟨_, List.getElem?_eq_getElem (by omega)⟩
 first | refine ixm (by assumption) ?_ | refine bnd ?_ | refine bndi ?_ | refine ixkq (fun y13 hy13 qy13 ly13 => ?_) | refine ixiq (fun y13 hy13 qy13 ly13 => ?_)
 first | refine ixs ?_ | refine ixo (by assumption) ?_ | refine ixoq (fun z1 hz1 qz1 lz1 => ?_) | skip
 first | refine ixs ?_ | refine ixo (by assumption) ?_ | refine ixoq (fun z2 hz2 qz2 lz2 => ?_) | skip
 first | refine ixm (by assumption) ?_ | refine bnd ?_ | refine bndi ?_ | refine ixkq (fun y19 hy19 qy19 ly19 => ?_) | refine ixiq (fun y19 hy19 qy19 ly19 => ?_)
 first | refine ixs ?_ | refine ixo (by assumption) ?_ | refine ixoq (fun z3 hz3 qz3 lz3 => ?_) | skip
 first | refine ixs ?_ | refine ixo (by assumption) ?_ | refine ixoq (fun z4 hz4 qz4 lz4 => ?_) | skip
 refine regU [13] [(0, 0), (1, 0), (2, 0), (3, 0), (4, 0), (5, 0), (6, 0), (7, 0), (8, 0), (9, 0), (10, 0), (11, 1), (12, 0), (13, 1)] ?_
 first | refine ixs ?_ | refine ixo (by assumption) ?_ | refine ixoq (fun z5 hz5 qz5 lz5 => ?_) | skip
 refine callL (impl_PageAt_f _ _).k ?_
 first | refine ixs ?_ | refine ixo (by assumption) ?_ | refine ixoq (fun z6 hz6 qz6 lz6 => ?_) | skip
 first | refine ixm (by assumption) ?_ | refine bnd ?_ | refine bndi ?_ | refine ixkq (fun y33 hy33 qy33 ly33 => ?_) | refine ixiq (fun y33 hy33 qy33 ly33 => ?_)
 first | refine ixs ?_ | refine ixo (by assumption) ?_ | refine ixoq (fun z7 hz7 qz7 lz7 => ?_) | skip
 first | refine ixs ?_ | refine ixo (by assumption) ?_ | refine ixoq (fun z8 hz8 qz8 lz8 => ?_) | skip
 refine regU [7] [(0, 0), (1, 0), (2, 0), (3, 0), (4, 0), (5, 1), (6, 0), (7, 1)] ?_
 first | refine ixs ?_ | refine ixo (by assumption) ?_ | refine ixoq (fun z9 hz9 qz9 lz9 => ?_) | skip
 refine callP (impl_NoSlot_f).k ?_
 first | refine ixs ?_ | refine ixo (by assumption) ?_ | refine ixoq (fun z10 hz10 qz10 lz10 => ?_) | skip
 first | refine ixm (by assumption) ?_ | refine bnd ?_ | refine bndi ?_ | refine ixkq (fun y40 hy40 qy40 ly40 => ?_) | refine ixiq (fun y40 hy40 qy40 ly40 => ?_)
 first | refine ixs ?_ | refine ixo (by assumption) ?_ | refine ixoq (fun z11 hz11 qz11 lz11 => ?_) | skip
 first | refine ixs ?_ | refine ixo (by assumption) ?_ | refine ixoq (fun z12 hz12 qz12 lz12 => ?_) | skip
 refine callX 1000001 (impl_invalidate_r (row := sentRow h m x p z) (hostSent h m x p z) m (monSent h x p z) p (sentRow_eq h m x p z) (set_at hx) hxt (sm_hostSent (by assumption : Q (SmHost h)).h qx.h)) ?_
 exact ⟨rfl, rfl⟩
end Go.Proofs.YteelmdpahpggkaaGreat.T

