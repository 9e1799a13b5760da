
import Derived.Test.YtcmoifejjodgcaaNvp
namespace Go.Proofs.Ytcmoifejjodgcaa.T
open Go
set_option linter.unusedVariables false
set_option linter.unusedSimpArgs false
set_option maxRecDepth 100000
set_option maxHeartbeats 8000000
def lessTo (x : VMon) (p : Int) (k : Nat) : List VKept := (lessKept x p).take k ++ x.Tables.drop k
theorem lessKept_len {x : VMon} {p : Int} (h : x.Tables.length = x.Guests.length) : (lessKept x p).length = x.Guests.length := by simp [lessKept, h]
theorem lessKept_at {x : VMon} {p : Int} {k : Nat} {t : VKept} {g : VGuest} (ht : x.Tables[k]? = some t) (hg : x.Guests[k]? = some g) : (lessKept x p)[k]? = some (forgetUses t g.Live p) := by
 unfold lessKept
 rw [List.getElem?_zipWith, ht, hg]
theorem lessTo_zero {x : VMon} {p : Int} : lessTo x p 0 = x.Tables := by simp [lessTo]
theorem lessTo_len {x : VMon} {p : Int} {k : Nat} (h : x.Tables.length = x.Guests.length) (hk : k ≤ x.Guests.length) : (lessTo x p k).length = x.Guests.length := by
 simp only [lessTo, List.length_append, List.length_take, lessKept_len h, List.length_drop]
 omega
theorem lessTo_get {x : VMon} {p : Int} {k : Nat} {t : VKept} (h : x.Tables.length = x.Guests.length) (ht : x.Tables[k]? = some t) : (lessTo x p k)[k]? = some t := by
 have hk := (List.getElem?_eq_some_iff.1 ht).1
 unfold lessTo
 rw [List.getElem?_append_right (by rw [List.length_take, lessKept_len h]; omega), List.length_take, lessKept_len h, Nat.min_eq_left (by omega), Nat.sub_self, List.getElem?_drop]
 exact ht
theorem lessTo_step {x : VMon} {p : Int} {k : Nat} {t : VKept} {g : VGuest} (h : x.Tables.length = x.Guests.length) (ht : x.Tables[k]? = some t) (hg : x.Guests[k]? = some g) : lessTo x p (k + 1) = (lessTo x p k).set k (forgetUses t g.Live p) := by
 have hk := (List.getElem?_eq_some_iff.1 ht).1
 have hl : ((lessKept x p).take k).length = k := by rw [List.length_take, lessKept_len h]; omega
 unfold lessTo
 rw [List.take_add_one, lessKept_at ht hg, List.set_append_right _ _ (by omega), hl, Nat.sub_self, List.drop_eq_getElem_cons hk, List.set_cons_zero, List.append_assoc]
 rfl
theorem lessTo_end {x : VMon} {p : Int} {k : Nat} (h : x.Tables.length = x.Guests.length) (hk : k = x.Guests.length) : lessTo x p k = lessKept x p := by
 subst hk
 unfold lessTo
 rw [List.take_of_length_le (by rw [lessKept_len h]; omega), List.drop_eq_nil_of_le (by omega), List.append_nil]
def monK (x : VMon) (p : Int) (k : Nat) : VMon := { x with Tables := lessTo x p k }
theorem monK_zero {x : VMon} {p : Int} : monK x p 0 = x := by unfold monK; rw [lessTo_zero]
theorem set_same {α : Type} {xs : List α} {m : Nat} {x : α} (h : xs[m]? = some x) : xs.set m x = xs := by
 apply List.ext_getElem?
 intro j
 rw [List.getElem?_set]
 split
 ·rename_i e
  subst e
  rw [h]
  split
  ·rfl
  ·rename_i hl
   exact absurd (List.getElem?_eq_some_iff.1 h).1 hl
 ·rfl
theorem set_at {α : Type} {xs : List α} {m : Nat} {x y : α} (h : xs[m]? = some x) : (xs.set m y)[m]? = some y := by
 have := (List.getElem?_eq_some_iff.1 h).1
 rw [List.getElem?_set, if_pos rfl, if_pos this]
def spoilt (h : VHost) (m : Nat) (x : VMon) (p : Int) (s : VSlot) : VHost :=
 {h with Mons := h.Mons.set m { x with Tables := lessKept x p }, Buffer := if s.Page = -1 then h.Buffer else flushHost h.Buffer s.Page, IoBuffer := if s.Page = -1 then h.IoBuffer else flushHost h.IoBuffer s.Page }
theorem monK_next {h : VHost} {m : Nat} {x : VMon} {p : Int} {k : Nat} {t : VKept} {g : VGuest} (hxt : x.Tables.length = x.Guests.length) (ht : x.Tables[k]? = some t) (hg : x.Guests[k]? = some g) :
  (h.Mons.set m (monK x p (k + 1))).map dMon = ((h.Mons.set m (monK x p k)).map dMon).set m (.st [.sl 2 ((monK x p k).Outer.map dSlot), .sl 1 ((monK x p k).Out.map dIntS), .sl 1 ((monK x p k).Dirty.map dBool), .sl 15 ((monK x p k).Guests.map dGuest), .sl 1 ((monK x p k).Outs.map dInt),
   .v (.int .i64 (monK x p k).Pending), .v (.int .i64 (monK x p k).Traps), .sl 2 (((monK x p k).Tables.map dKept).set k (.st [.sl 1 ((forgetUses t g.Live p).Known.map dBool), .sl 2 ((forgetUses t g.Live p).Slots.map dSlot)])), .v (.int .i64 (monK x p k).Own)]) := by
 rw [List.map_set, List.map_set, List.set_set]
 congr 1
 unfold monK
 rw [lessTo_step hxt ht hg]
 show D.st _ = D.st _
 simp only [rMon, List.map_set]
theorem spoilt_1 {h : VHost} {m : Nat} {x : VMon} {p : Int} {s : VSlot} {k : Nat} (hxt : x.Tables.length = x.Guests.length) (hk : k = x.Guests.length) (hs : s.Page = -1) :
  rHost (spoilt h m x p s) = [.sl 1 (h.Memory.map dIntS), .sl 9 ((h.Mons.set m (monK x p k)).map dMon), .sl 4 (h.Buffer.map dEntry), .sl 4 (h.IoBuffer.map dEntry)] := by
 unfold spoilt monK
 rw [lessTo_end hxt hk, if_pos hs, if_pos hs]
theorem spoilt_2 {h : VHost} {m : Nat} {x : VMon} {p : Int} {s : VSlot} {k : Nat} (hxt : x.Tables.length = x.Guests.length) (hk : k = x.Guests.length) (hs : ¬ s.Page = -1) :
  rHost (spoilt h m x p s) = [.sl 1 (h.Memory.map dIntS), .sl 9 ((h.Mons.set m (monK x p k)).map dMon), .sl 4 ((flushHost h.Buffer s.Page).map dEntry), .sl 4 ((flushHost h.IoBuffer s.Page).map dEntry)] := by
 unfold spoilt monK
 rw [lessTo_end hxt hk, if_neg hs, if_neg hs]
theorem impl_invalidate_f (h : VHost) (m : Nat) (x : VMon) (p : Int) (s : VSlot) (hx : h.Mons[m]? = some x) (hxt : x.Tables.length = x.Guests.length) [Q (SmHost h)] : Fun2K Try.prog 43 (rHost h) 1 [.one (.ptr ⟨1000001, [], 0⟩), I m, I p, A (rSlot s)] (RP2 (rHost (spoilt h m x p s)) (.tup [])) := by
 refine Fun2K.w 71 Try.func43 rfl fun w g0 _ => ?_
 have qx : Q (SmMon x) := ⟨ElS.h x (List.mem_of_getElem? hx)⟩
 have hml := (List.getElem?_eq_some_iff.1 hx).1
 have hgl := (inferInstance : LenX x.Guests 1048576).h
 first | refine ixm (by assumption) ?_ | refine bnd ?_ | refine bndi ?_ | refine ixkq (fun y15 hy15 qy15 ly15 => ?_) | refine ixiq (fun y15 hy15 qy15 ly15 => ?_)
 first | refine ixs ?_ | refine ixo (by assumption) ?_ | refine ixoq (fun z1 hz1 qz1 lz1 => ?_) | skip
 first | refine ixs ?_ | refine ixo (by assumption) ?_ | refine ixoq (fun z2 hz2 qz2 lz2 => ?_) | skip
 refine len ?_
 refine loopA [0, 2, 7, 8, 20] [] [1000001] (fun (k : Nat) => [.set 21 (I k)]) (fun (k : Nat) => [(1000001, ⟨true, [.own (.sl 1 (h.Memory.map dIntS)), .own (.sl 9 (((h.Mons.set m (monK x p k)).map dMon))), .own (.sl 4 (h.Buffer.map dEntry)), .own (.sl 4 (h.IoBuffer.map dEntry))]⟩)]) (fun (k : Nat) => k ≤ x.Guests.length) (fun (k : Nat) => x.Guests.length - k) (0) (Nat.zero_le _) ?_
 refine ⟨(hda (by repeat' first | exact rfl | refine And.intro ?_ ?_ | exact True.intro | (refine eqS ?_; rw [monK_zero, set_same hx]; done))), fun k hyp N1 hN1 => ?_⟩
 have hyp : k ≤ x.Guests.length := hyp
 have hm := set_at (y := monK x p k) hx
 have htl : (monK x p k).Tables.length = x.Guests.length := lessTo_len (p := p) hxt hyp
 have hgk : (monK x p k).Guests.length = x.Guests.length := rfl
 refine cnd (fun hb => ?_) (fun hb => ?_)
 ·obtain ⟨t, ht⟩ : ∃ t, x.Tables[k]? = some t := ⟨_, List.getElem?_eq_getElem (by omega)⟩
  obtain ⟨g, hg⟩ : ∃ g, x.Guests[k]? = some g := ⟨_, List.getElem?_eq_getElem (by omega)⟩
  have htk : (monK x p k).Tables[k]? = some t := lessTo_get hxt ht
  have hgk2 : (monK x p k).Guests[k]? = some g := hg
  have qt : Q (SmKept t) := ⟨ElS.h t (List.mem_of_getElem? ht)⟩
  have qg : Q (SmGuest g) := ⟨ElS.h g (List.mem_of_getElem? hg)⟩
  refine regU [23] [(0, 0), (1, 0), (2, 0), (3, 0), (4, 0), (5, 0), (6, 0), (7, 0), (8, 0), (9, 0), (10, 0), (11, 0), (12, 0), (13, 0), (14, 0), (15, 0), (16, 0), (17, 0), (18, 0), (19, 0), (20, 0), (21, 1), (22, 0), (23, 1)] ?_
  first | refine ixs ?_ | refine ixo (by assumption) ?_ | refine ixoq (fun z3 hz3 qz3 lz3 => ?_) | skip
  first | refine ixs ?_ | refine ixo (by assumption) ?_ | refine ixoq (fun z4 hz4 qz4 lz4 => ?_) | skip
  first | refine ixs ?_ | refine ixo (by assumption) ?_ | refine ixoq (fun z5 hz5 qz5 lz5 => ?_) | skip
  first | refine ixm (by assumption) ?_ | refine bnd ?_ | refine bndi ?_ | refine ixkq (fun y34 hy34 qy34 ly34 => ?_) | refine ixiq (fun y34 hy34 qy34 ly34 => ?_)
  first | refine ixs ?_ | refine ixo (by assumption) ?_ | refine ixoq (fun z6 hz6 qz6 lz6 => ?_) | skip
  first | refine ixs ?_ | refine ixo (by assumption) ?_ | refine ixoq (fun z7 hz7 qz7 lz7 => ?_) | skip
  first | refine ixs ?_ | refine ixo (by assumption) ?_ | refine ixoq (fun z8 hz8 qz8 lz8 => ?_) | skip
  first | refine ixs ?_ | refine ixo (by assumption) ?_ | refine ixoq (fun z9 hz9 qz9 lz9 => ?_) | skip
  first | refine ixm (by assumption) ?_ | refine bnd ?_ | refine bndi ?_ | refine ixkq (fun y41 hy41 qy41 ly41 => ?_) | refine ixiq (fun y41 hy41 qy41 ly41 => ?_)
  first | refine ixs ?_ | refine ixo (by assumption) ?_ | refine ixoq (fun z10 hz10 qz10 lz10 => ?_) | skip
  first | refine ixs ?_ | refine ixo (by assumption) ?_ | refine ixoq (fun z11 hz11 qz11 lz11 => ?_) | skip
  refine callG (impl_ForgetUses_f t g.Live p).k ?_ (by repeat first | exact rfl | refine WholeW.mk (by first | exact WD.w | assumption) ?_ | refine ixo (by assumption) ?_)
  first | refine ixs ?_ | refine ixo (by assumption) ?_ | refine ixoq (fun z12 hz12 qz12 lz12 => ?_) | skip
  first | refine ixm (by assumption) ?_ | refine bnd ?_ | refine bndi ?_ | refine ixkq (fun y46 hy46 qy46 ly46 => ?_) | refine ixiq (fun y46 hy46 qy46 ly46 => ?_)
  first | refine ixs ?_ | refine ixo (by assumption) ?_ | refine ixoq (fun z13 hz13 qz13 lz13 => ?_) | skip
  first | refine ixs ?_ | refine ixo (by assumption) ?_ | refine ixoq (fun z14 hz14 qz14 lz14 => ?_) | skip
  refine rng ?_
  refine hN1 _ _ _ ?_
  refine nxa (k + 1) (by omega) (by repeat' first | exact rfl | refine And.intro ?_ ?_ | exact True.intro | (refine eqS ?_; rw [monK_next hxt ht hg]; done))
 ·refine hN1 _ _ _ ?_
  refine cnd (fun hb2 => ?_) (fun hb2 => ?_)
  ·refine regU [10] [(0, 0), (1, 0), (2, 0), (3, 0), (4, 0), (5, 0), (6, 0), (7, 1), (8, 0), (9, 0), (10, 1)] ?_
   refine callL (impl_FlushHost_f _ s.Page).k ?_
   refine regU [10] [(0, 0), (1, 0), (2, 0), (3, 0), (4, 0), (5, 0), (6, 0), (7, 1), (8, 0), (9, 0), (10, 1)] ?_
   refine callL (impl_FlushHost_f _ s.Page).k ?_
   exact ⟨by first | (rw [spoilt_1 (k := k) hxt (by omega) (by omega)]; done) | (rw [spoilt_2 (k := k) hxt (by omega) (by omega)]; done), rfl⟩
  ·exact ⟨by first | (rw [spoilt_1 (k := k) hxt (by omega) (by omega)]; done) | (rw [spoilt_2 (k := k) hxt (by omega) (by omega)]; done), rfl⟩
end Go.Proofs.Ytcmoifejjodgcaa.T

namespace Go.Proofs.Ytcmoifejjodgcaa.T
open Go
set_option linter.unusedVariables false
set_option linter.unusedSimpArgs false
set_option maxRecDepth 100000
set_option maxHeartbeats 8000000
theorem impl_invalidate_r {row : List D} {s : VSlot} (h : VHost) (m : Nat) (x : VMon) (p : Int) (hr : row = rHost h) (hx : h.Mons[m]? = some x) (hxt : x.Tables.length = x.Guests.length) (q : SmHost h) :
  Fun2 Try.prog 43 ⟨true, row⟩ [.one (.ptr ⟨1000001, [], 0⟩), I m, I p, A (rSlot s)] (RP2 (rHost (spoilt h m x p s)) (.tup [])) := by
 subst hr
 have : Q (SmHost h) := ⟨q⟩
 exact (impl_invalidate_f h m x p s hx hxt).two
theorem sm_page1 {m : List (List Int)} (h : SmIntSS m) (n : Int) : SmIntS (pageAt m n) := by
 unfold pageAt at?
 split
 ·cases hx : m[n.toNat]? with
  | none => simp [SmIntS]
  | some x => exact h.2 x (List.mem_of_getElem? hx)
 ·simp [SmIntS]
def monSent (h : VHost) (x : VMon) (p : Nat) (z : VSlot) : VMon := { x with Out := x.Out.set p (pageAt h.Memory z.Page), Outer := x.Outer.set p noSlot }
def hostSent (h : VHost) (m : Nat) (x : VMon) (p : Nat) (z : VSlot) : VHost := { h with Mons := h.Mons.set m (monSent h x p z) }
abbrev sentRow (h : VHost) (m : Nat) (x : VMon) (p : Nat) (z : VSlot) : List D := [.sl 1 (h.Memory.map dIntS), .sl 9 (((h.Mons.map dMon).set m (.st [.sl 2 (x.Outer.map dSlot), .sl 1 ((x.Out.map dIntS).set p (.sl 1 ((pageAt h.Memory z.Page).map dInt))), .sl 1 (x.Dirty.map dBool), .sl 15 (x.Guests.map dGuest), .sl 1 (x.Outs.map dInt), .v (.int .i64 x.Pending), .v (.int .i64 x.Traps), .sl 2 (x.Tables.map dKept), .v (.int .i64 x.Own)])).set m (.st [.sl 2 ((x.Outer.map dSlot).set p (.st [.v (.int .i64 noSlot.Page), .v (.int .i64 noSlot.Rights)])), .sl 1 ((x.Out.map dIntS).set p (.sl 1 ((pageAt h.Memory z.Page).map dInt))), .sl 1 (x.Dirty.map dBool), .sl 15 (x.Guests.map dGuest), .sl 1 (x.Outs.map dInt), .v (.int .i64 x.Pending), .v (.int .i64 x.Traps), .sl 2 (x.Tables.map dKept), .v (.int .i64 x.Own)])), .sl 4 (h.Buffer.map dEntry), .sl 4 (h.IoBuffer.map dEntry)]
theorem sentRow_eq (h : VHost) (m : Nat) (x : VMon) (p : Nat) (z : VSlot) : sentRow h m x p z = rHost (hostSent h m x p z) := by
 have e : dMon (monSent h x p z) = .st [.sl 2 ((x.Outer.map dSlot).set p (dSlot noSlot)), .sl 1 ((x.Out.map dIntS).set p (.sl 1 ((pageAt h.Memory z.Page).map dInt))), .sl 1 (x.Dirty.map dBool), .sl 15 (x.Guests.map dGuest), .sl 1 (x.Outs.map dInt), .v (.int .i64 x.Pending), .v (.int .i64 x.Traps), .sl 2 (x.Tables.map dKept), .v (.int .i64 x.Own)] := by
  show D.st [.sl 2 ((x.Outer.set p noSlot).map dSlot), .sl 1 ((x.Out.set p (pageAt h.Memory z.Page)).map dIntS), _, _, _, _, _, _, _] = _
  rw [List.map_set, List.map_set]
  rfl
 unfold sentRow hostSent
 rw [List.set_set]
 show _ = [_, D.sl 9 ((h.Mons.set m (monSent h x p z)).map dMon), _, _]
 rw [List.map_set, e]
theorem sm_monSent {h : VHost} {x : VMon} {p : Nat} {z : VSlot} (hh : SmHost h) (hx : SmMon x) : SmMon (monSent h x p z) := by
 refine ⟨by show (x.Outer.set _ _).length ≤ _; rw [List.length_set]; exact hx.1, ⟨by show (x.Out.set _ _).length ≤ _; rw [List.length_set]; exact hx.2.1.1, fun y hy => ?_⟩, hx.2.2⟩
 rcases List.mem_or_eq_of_mem_set hy with hy | rfl
 ·exact hx.2.1.2 y hy
 ·exact sm_page1 hh.1 _
theorem sm_hostSent {h : VHost} {m : Nat} {x : VMon} {p : Nat} {z : VSlot} (hh : SmHost h) (hx : SmMon x) : SmHost (hostSent h m x p z) := by
 refine ⟨hh.1, ⟨by show (h.Mons.set _ _).length ≤ _; rw [List.length_set]; exact hh.2.1.1, fun y hy => ?_⟩, hh.2.2⟩
 rcases List.mem_or_eq_of_mem_set hy with hy | rfl
 ·exact hh.2.1.2 y hy
 ·exact sm_monSent hh hx
theorem impl_send_f (h : VHost) (m : Nat) (x : VMon) (p : Nat) (z : VSlot) (hx : h.Mons[m]? = some x) (hxt : x.Tables.length = x.Guests.length) (hz : x.Outer[p]? = some z) (hol : x.Out.length = 8) (hol2 : x.Outer.length = 8) [Q (SmHost h)] : Fun2 Try.prog 83 (⟨true, rHost h⟩) [.one (.ptr ⟨1000001, [], 0⟩), I m, I p] (RP2 (rHost (spoilt (hostSent h m x p z) m (monSent h x p z) p z)) (.tup [])) := by
 refine Fun2.w 46 Try.func83 fun w g0 _ => ?_
 have qx : Q (SmMon x) := ⟨ElS.h x (List.mem_of_getElem? hx)⟩
 have hml := (List.getElem?_eq_some_iff.1 hx).1
 have hpl := (List.getElem?_eq_some_iff.1 hz).1
 have hml2 : m < (h.Mons.map dMon).length := by rw [List.length_map]; exact hml
 have hpl2 : p < (x.Outer.map dSlot).length := by rw [List.length_map]; exact hpl
 obtain ⟨y, hy⟩ : ∃ y, x.Out[p]? = some y := ⟨_, List.getElem?_eq_getElem (by omega)⟩
 first | refine ixm (by assumption) ?_ | refine bnd ?_ | refine bndi ?_ | refine ixkq (fun y13 hy13 qy13 ly13 => ?_) | refine ixiq (fun y13 hy13 qy13 ly13 => ?_)
 first | refine ixs ?_ | refine ixo (by assumption) ?_ | refine ixoq (fun z1 hz1 qz1 lz1 => ?_) | skip
 first | refine ixs ?_ | refine ixo (by assumption) ?_ | refine ixoq (fun z2 hz2 qz2 lz2 => ?_) | skip
 first | refine ixm (by assumption) ?_ | refine bnd ?_ | refine bndi ?_ | refine ixkq (fun y19 hy19 qy19 ly19 => ?_) | refine ixiq (fun y19 hy19 qy19 ly19 => ?_)
 first | refine ixs ?_ | refine ixo (by assumption) ?_ | refine ixoq (fun z3 hz3 qz3 lz3 => ?_) | skip
 first | refine ixs ?_ | refine ixo (by assumption) ?_ | refine ixoq (fun z4 hz4 qz4 lz4 => ?_) | skip
 refine regU [13] [(0, 0), (1, 0), (2, 0), (3, 0), (4, 0), (5, 0), (6, 0), (7, 0), (8, 0), (9, 0), (10, 0), (11, 1), (12, 0), (13, 1)] ?_
 first | refine ixs ?_ | refine ixo (by assumption) ?_ | refine ixoq (fun z5 hz5 qz5 lz5 => ?_) | skip
 refine callL (impl_PageAt_f _ _).k ?_
 first | refine ixs ?_ | refine ixo (by assumption) ?_ | refine ixoq (fun z6 hz6 qz6 lz6 => ?_) | skip
 first | refine ixm (by assumption) ?_ | refine bnd ?_ | refine bndi ?_ | refine ixkq (fun y33 hy33 qy33 ly33 => ?_) | refine ixiq (fun y33 hy33 qy33 ly33 => ?_)
 first | refine ixs ?_ | refine ixo (by assumption) ?_ | refine ixoq (fun z7 hz7 qz7 lz7 => ?_) | skip
 first | refine ixs ?_ | refine ixo (by assumption) ?_ | refine ixoq (fun z8 hz8 qz8 lz8 => ?_) | skip
 refine regU [7] [(0, 0), (1, 0), (2, 0), (3, 0), (4, 0), (5, 1), (6, 0), (7, 1)] ?_
 first | refine ixs ?_ | refine ixo (by assumption) ?_ | refine ixoq (fun z9 hz9 qz9 lz9 => ?_) | skip
 refine callP (impl_NoSlot_f).k ?_
 first | refine ixs ?_ | refine ixo (by assumption) ?_ | refine ixoq (fun z10 hz10 qz10 lz10 => ?_) | skip
 first | refine ixm (by assumption) ?_ | refine bnd ?_ | refine bndi ?_ | refine ixkq (fun y40 hy40 qy40 ly40 => ?_) | refine ixiq (fun y40 hy40 qy40 ly40 => ?_)
 first | refine ixs ?_ | refine ixo (by assumption) ?_ | refine ixoq (fun z11 hz11 qz11 lz11 => ?_) | skip
 first | refine ixs ?_ | refine ixo (by assumption) ?_ | refine ixoq (fun z12 hz12 qz12 lz12 => ?_) | skip
 refine callX 1000001 (impl_invalidate_r (row := sentRow h m x p z) (hostSent h m x p z) m (monSent h x p z) p (sentRow_eq h m x p z) (set_at hx) hxt (sm_hostSent (by assumption : Q (SmHost h)).h qx.h)) ?_
 exact ⟨rfl, rfl⟩
end Go.Proofs.Ytcmoifejjodgcaa.T

namespace Go.Proofs.Ytcmoifejjodgcaa.T
open Go
set_option linter.unusedVariables false
set_option linter.unusedSimpArgs false
set_option maxRecDepth 100000
set_option maxHeartbeats 8000000
theorem putM_len {α : Type} {xs : List α} {i : Int} {x : α} : (put xs i x).length = xs.length := by unfold put; split <;> simp
theorem fillLeft_len {h : VHost} {v : VMove} : ∀ {l : List Int} {o : List (List Int)}, (fillLeft h v l o).length = o.length
 | [], o => rfl
 | p :: l, o => by rw [fillLeft, fillLeft_len, putM_len]
theorem fill_snoc {h : VHost} {v : VMove} {p : Int} : ∀ {l : List Int} {o : List (List Int)}, fillLeft h v (l ++ [p]) o = put (fillLeft h v l o) p (pageOf h v.M p)
 | [], o => rfl
 | q :: l, o => by rw [List.cons_append, fillLeft, fill_snoc, fillLeft]
theorem fill_step {h : VHost} {v : VMove} {i : Nat} {p : Int} {l : List Int} {o : List (List Int)} (hp : l[i]? = some p) (h0 : 0 ≤ p) : fillLeft h v (l.take (i + 1)) o = (fillLeft h v (l.take i) o).set p.toNat (pageOf h v.M p) := by
 rw [List.take_add_one, hp]
 show fillLeft h v (l.take i ++ [p]) o = _
 rw [fill_snoc]
 unfold put
 rw [if_pos h0]
theorem mem_rangeF {f : Nat → Bool} {n : Nat} {p : Int} (h : p ∈ rangeF f n) : 0 ≤ p ∧ p < n := by
 unfold rangeF at h
 obtain ⟨k, hk, rfl⟩ := List.mem_map.1 h
 have := List.mem_range.1 (List.mem_filter.1 hk).1
 omega
theorem left_in {h : VHost} {v : VMove} {i : Nat} {p : Int} (hp : (moveLeft h v)[i]? = some p) : 0 ≤ p ∧ p < 8 := by
 have h1 := List.mem_of_getElem? hp
 unfold moveLeft at h1
 split at h1
 ·cases h1
 ·split at h1
  ·have := mem_rangeF h1; omega
  ·cases h1
theorem left_len (h : VHost) (v : VMove) : (moveLeft h v).length ≤ 8 := by
 unfold moveLeft
 split
 ·simp
 ·split
  ·exact rangeF_len
  ·simp
instance (h : VHost) (v : VMove) : LenX (moveLeft h v) 8 := ⟨left_len h v⟩
def tabs (t : List VKept) (k : Nat) : List VKept := List.replicate k keptNew ++ t.drop k
theorem tabs_zero (t : List VKept) : tabs t 0 = t := by simp [tabs]
theorem tabs_len {t : List VKept} {k : Nat} (h : k ≤ t.length) : (tabs t k).length = t.length := by simp [tabs]; omega
theorem tabs_step {t : List VKept} {k : Nat} (h : k < t.length) : tabs t (k + 1) = (tabs t k).set k keptNew := by
 unfold tabs
 rw [List.set_append_right _ _ (by simp), List.length_replicate, Nat.sub_self, List.drop_eq_getElem_cons h, List.set_cons_zero, List.replicate_succ', List.append_assoc]
 rfl
theorem tabs_end {t : List VKept} {k : Nat} (h : k = t.length) : tabs t k = t.map fun _ => keptNew := by
 subst h
 simp [tabs, List.map_const']
theorem moves_yes {h : VHost} {v : VMove} (hm : moves h v = true) : hostOk h = true ∧ 0 ≤ v.M ∧ v.M < h.Mons.length ∧ v.Have.length = 8 := by
 simp only [moves, hasMon, Bool.and_eq_true, decide_eq_true_eq] at hm
 exact ⟨hm.1.1, hm.1.2.1, hm.1.2.2, hm.2⟩
theorem isSome_in {h : VHost} {m : Int} : (monAt h m).isSome = true ↔ 0 ≤ m ∧ m < h.Mons.length := by
 constructor
 ·intro e
  rcases Decidable.em (0 ≤ m ∧ m < h.Mons.length) with h1 | h1
  ·exact h1
  ·rw [monAt_out h1] at e; cases e
 ·intro e
  have : h.Mons[m.toNat]? = some (h.Mons[m.toNat]'(by omega)) := List.getElem?_eq_getElem (by omega)
  rw [monAt_in e.1 this]
  rfl
theorem image_no {h : VHost} {v : VMove} (hm : moves h v = false) : moveImage h v = none := by unfold moveImage; rw [hm]; rfl
theorem image_yes {h : VHost} {v : VMove} {i k : Nat} (hm : moves h v = true) (hi : (moveLeft h v).length ≤ i) (hk : k = (monOr h v.M).Tables.length) :
  moveImage h v = some { monOr h v.M with Out := fillLeft h v ((moveLeft h v).take i) v.Have, Outer := tableNew 8, Dirty := List.replicate 8 false, Tables := tabs (monOr h v.M).Tables k } := by
 have h1 := moves_yes hm
 have h2 := monOr_some (isSome_in.2 ⟨h1.2.1, h1.2.2.1⟩)
 unfold moveImage
 rw [hm, List.take_of_length_le hi, tabs_end hk]
 show Option.map _ (monAt h v.M) = _
 rw [h2]
 rfl
theorem sm_monOr {h : VHost} {m : Int} (hh : SmHost h) : SmMon (monOr h m) := by
 unfold monOr
 cases h1 : monAt h m with
 | none => exact ⟨by simp [SmSlotS], ⟨by simp, fun x hx => by cases hx⟩, by simp [SmBoolS], ⟨by simp, fun x hx => by cases hx⟩, by simp [SmIntS], ⟨by simp, fun x hx => by cases hx⟩⟩
 | some x =>
  unfold monAt at? at h1
  split at h1
  ·exact hh.2.1.2 x (List.mem_of_getElem? h1)
  ·cases h1
instance (h : VHost) (m : Int) [hh : Q (SmHost h)] : Q (SmMon (monOr h m)) := ⟨sm_monOr hh.h⟩
theorem impl_MoveImage_f (h : VHost) (v : VMove) [Q (SmHost h)] [Q (SmMove v)] : Fun Try.prog 11 [A (rHost h), A (rMove v)] (RG [.a (rMon ((moveImage h v).getD noMon)), .c (.v (.bool (moveImage h v).isSome))]) := by
 refine Fun.w 62 Try.func11 fun w g0 hM => ?_
 have hl0 := hM.1.2.1.map
 have hl1 := hM.2.1.2.1.map
 refine callP (impl_moves_f h v).k ?_
 refine cnd (fun hb => ?_) (fun hb => ?_)
 ·exact (by rw [image_no (by assumption)]; rfl)
 ·have hmv : moves h v = true := by assumption
  have hmy := moves_yes hmv
  refine callG (impl_MonAt_f h v.M).k ?_
  refine callL (impl_TableNew_f 8 (by omega)).k ?_
  refine callL (impl_copyMem_f v.Have).k ?_
  refine callL (impl_MoveLeft_f h v).k ?_
  refine len ?_
  refine loopA [2, 3, 4, 5, 6, 31, 32] [] [6] (fun (i : Nat) => [.set 33 (I i)]) (fun (i : Nat) => [(6, ⟨true, [.own (.sl 2 ((tableNew 8).map dSlot)), .own (.sl 1 ((fillLeft h v ((moveLeft h v).take i) v.Have).map dIntS)), .own (.sl 1 (((monOr h v.M).Dirty).map dBool)), .own (.sl 15 ((monOr h v.M).Guests.map dGuest)), .own (.sl 1 ((monOr h v.M).Outs.map dInt)), .own (.v (.int .i64 (monOr h v.M).Pending)), .own (.v (.int .i64 (monOr h v.M).Traps)), .own (.sl 2 (((monOr h v.M).Tables).map dKept)), .own (.v (.int .i64 (monOr h v.M).Own))]⟩)]) (fun (i : Nat) => i ≤ (moveLeft h v).length) (fun (i : Nat) => (moveLeft h v).length - i) (0) (Nat.zero_le _) ?_
  refine ⟨hda, fun i hyp N1 hN1 => ?_⟩
  have hyp : i ≤ (moveLeft h v).length := hyp
  have hll := left_len h v
  refine cnd (fun hb2 => ?_) (fun hb2 => ?_)
  ·obtain ⟨p, hp⟩ : ∃ p, (moveLeft h v)[i]? = some p := ⟨_, List.getElem?_eq_getElem (by omega)⟩
   have hpr := left_in hp
   have hfl : (fillLeft h v ((moveLeft h v).take i) v.Have).length = v.Have.length := fillLeft_len
   obtain ⟨y, hy⟩ : ∃ y, (fillLeft h v ((moveLeft h v).take i) v.Have)[p.toNat]? = some y := ⟨_, List.getElem?_eq_getElem (by omega)⟩
   first | refine ixm (by assumption) ?_ | refine bnd ?_ | refine bndi ?_ | refine ixkq (fun y35 hy35 qy35 ly35 => ?_) | refine ixiq (fun y35 hy35 qy35 ly35 => ?_)
   first | refine ixs ?_ | refine ixo (by assumption) ?_ | refine ixoq (fun z1 hz1 qz1 lz1 => ?_) | skip
   refine regU [9] [(0, 0), (1, 0), (2, 0), (3, 0), (4, 0), (5, 0), (6, 0), (7, 1), (8, 0), (9, 1)] ?_
   refine callL (impl_PageOf_f h v.M p).k ?_
   refine bndi ?_ (by rw [List.length_map, fillLeft_len]; omega)
   first | refine ixs ?_ | refine ixo (by assumption) ?_ | refine ixoq (fun z2 hz2 qz2 lz2 => ?_) | skip
   refine rng ?_
   refine hN1 _ _ _ ?_
   refine nxa (i + 1) (by omega) (by repeat' first | exact rfl | refine And.intro ?_ ?_ | exact True.intro | (refine eqS ?_; rw [fill_step hp (by omega), List.map_set]; done))
  ·refine hN1 _ _ _ ?_
   refine mkw 8 ?_
   refine len ?_
   refine loopA [4, 5, 6, 51] [] [6, 20] (fun (k : Nat) => [.set 52 (I k)]) (fun (k : Nat) => [(6, ⟨true, [.own (.sl 2 ((tableNew 8).map dSlot)), .own (.sl 1 ((fillLeft h v ((moveLeft h v).take i) v.Have).map dIntS)), .own (.sl 1 ((List.replicate 8 false).map dBool)), .own (.sl 15 ((monOr h v.M).Guests.map dGuest)), .own (.sl 1 ((monOr h v.M).Outs.map dInt)), .own (.v (.int .i64 (monOr h v.M).Pending)), .own (.v (.int .i64 (monOr h v.M).Traps)), .own (.sl 2 ((tabs (monOr h v.M).Tables k).map dKept)), .own (.v (.int .i64 (monOr h v.M).Own))]⟩)]) (fun (k : Nat) => k ≤ (monOr h v.M).Tables.length) (fun (k : Nat) => (monOr h v.M).Tables.length - k) (0) (Nat.zero_le _) ?_
   refine ⟨(hda (by repeat' first | exact rfl | refine And.intro ?_ ?_ | exact True.intro | (refine eqS ?_; simp [tabs_zero]; done))), fun k hypk N2 hN2 => ?_⟩
   have hypk : k ≤ (monOr h v.M).Tables.length := hypk
   have htl := tabs_len (t := (monOr h v.M).Tables) (k := k) hypk
   have htt := (inferInstance : LenX (monOr h v.M).Tables 1048576).h
   refine cnd (fun hb3 => ?_) (fun hb3 => ?_)
   ·obtain ⟨z, hz⟩ : ∃ z, (tabs (monOr h v.M).Tables k)[k]? = some z := ⟨_, List.getElem?_eq_getElem (by omega)⟩
    refine regU [5] [(0, 0), (1, 0), (2, 0), (3, 1), (4, 0), (5, 1)] ?_
    refine callG (impl_KeptNew_f).k ?_
    refine bnd ?_ (by rw [List.length_map, htl]; omega)
    first | refine ixs ?_ | refine ixo (by assumption) ?_ | refine ixoq (fun z3 hz3 qz3 lz3 => ?_) | skip
    refine rng ?_
    refine hN2 _ _ _ ?_
    refine nxa (k + 1) (by omega) (by repeat' first | exact rfl | refine And.intro ?_ ?_ | exact True.intro | (refine eqS ?_; rw [tabs_step (by omega), List.map_set]; done) | (refine eqS ?_; rw [tabs_step (by omega), List.map_set]; simp [List.set_set]; done))
   ·refine hN2 _ _ _ ?_
    exact (by rw [image_yes (i := i) (k := k) hmv (by omega) (by omega)]; rfl)
end Go.Proofs.Ytcmoifejjodgcaa.T

namespace Go.Proofs.Ytcmoifejjodgcaa.T
open Go
set_option linter.unusedVariables false
set_option linter.unusedSimpArgs false
set_option maxRecDepth 100000
set_option maxHeartbeats 8000000
theorem mon_is {h : VHost} {m : Nat} {x : VMon} (hx : h.Mons[m]? = some x) : mon h m = x := by unfold mon; rw [hx]; rfl
theorem slot_is {h : VHost} {m p : Nat} {x : VMon} {z : VSlot} (hx : h.Mons[m]? = some x) (hz : x.Outer[p]? = some z) : slotOf h m p = z := by unfold slotOf; rw [mon_is hx, hz]; rfl
theorem slotSet_eq {h : VHost} {m p : Nat} {x : VMon} {z s : VSlot} (hx : h.Mons[m]? = some x) (hz : x.Outer[p]? = some z) :
  slotSet h m p s = { h with Mons := h.Mons.set m { x with Tables := lessKept x p, Outer := x.Outer.set p s }, Buffer := if z.Page = -1 then h.Buffer else flushHost h.Buffer z.Page, IoBuffer := if z.Page = -1 then h.IoBuffer else flushHost h.IoBuffer z.Page } := by
 unfold slotSet
 simp only [mon_is hx, slot_is hx hz]
theorem setOut_eq {h : VHost} {m p : Nat} {x : VMon} {l : List Int} (hx : h.Mons[m]? = some x) : setOut h m p l = { h with Mons := h.Mons.set m { x with Out := x.Out.set p l } } := by
 unfold setOut setMon
 rw [mon_is hx]
theorem sent_eq {h : VHost} {m p : Nat} {x : VMon} {z : VSlot} (hx : h.Mons[m]? = some x) (hz : x.Outer[p]? = some z) : spoilt (hostSent h m x p z) m (monSent h x p z) p z = sendOut h m p := by
 have h1 : (setOut h m p (pageAt h.Memory z.Page)).Mons[m]? = some { x with Out := x.Out.set p (pageAt h.Memory z.Page) } := by rw [setOut_eq hx]; exact set_at hx
 unfold sendOut
 rw [slot_is hx hz, slotSet_eq h1 hz, setOut_eq hx]
 unfold spoilt hostSent monSent lessKept
 simp only [List.set_set]
theorem impl_send_r {row : List D} {mi pi : Int} (h : VHost) (m : Nat) (x : VMon) (p : Nat) (z : VSlot) (hmi : mi = m) (hpi : pi = p) (hr : row = rHost h) (hx : h.Mons[m]? = some x) (hxt : x.Tables.length = x.Guests.length) (hz : x.Outer[p]? = some z) (hol : x.Out.length = 8) (hol2 : x.Outer.length = 8) (q : SmHost h) :
  Fun2 Try.prog 83 ⟨true, row⟩ [.one (.ptr ⟨1000001, [], 0⟩), I mi, I pi] (RP2 (rHost (sendOut h m p)) (.tup [])) := by
 subst hr hmi hpi
 have : Q (SmHost h) := ⟨q⟩
 rw [← sent_eq hx hz]
 exact impl_send_f h m x p z hx hxt hz hol hol2
theorem host_mon {h : VHost} {m : Nat} {x : VMon} (hh : hostOk h = true) (hx : h.Mons[m]? = some x) : monOk x = true := by
 simp only [hostOk, Bool.and_eq_true] at hh
 exact List.all_eq_true.1 hh.1.2 x (List.mem_of_getElem? hx)
theorem pageOut_no {h : VHost} {m p : Int} (hp : hasPage h m p = false) : pageOut h m p = none := by unfold pageOut; rw [hp]; rfl
theorem pageOut_off {h : VHost} {m p : Int} {x : VMon} {z : VSlot} (hx : h.Mons[m.toNat]? = some x) (hz : x.Outer[p.toNat]? = some z) (h1 : z.Page = -1) : pageOut h m p = none := by
 unfold pageOut
 rw [slot_is hx hz, decide_eq_false (by simp [h1]), Bool.and_false]
 rfl
theorem pageOut_yes {h : VHost} {m p : Int} {x : VMon} {z : VSlot} (hp : hasPage h m p = true) (hx : h.Mons[m.toNat]? = some x) (hz : x.Outer[p.toNat]? = some z) (h1 : ¬ z.Page = -1) : pageOut h m p = some (sendOut h m.toNat p.toNat) := by
 unfold pageOut
 rw [slot_is hx hz, decide_eq_true h1, hp]
 rfl
end Go.Proofs.Ytcmoifejjodgcaa.T

