
import Derived.Test.YteelmdpahpggkaaGreatNyp
namespace Go.Proofs.YteelmdpahpggkaaGreat.T
open Go
set_option linter.unusedVariables false
set_option linter.unusedSimpArgs false
set_option maxRecDepth 100000
set_option maxHeartbeats 8000000
def slotted (h : VHost) (m : Nat) (x : VMon) (p : Nat) (z s : VSlot) : VHost :=
 {h with Mons := h.Mons.set m { x with Tables := lessKept x p, Outer := x.Outer.set p s }, Buffer := if z.Page = -1 then h.Buffer else flushHost h.Buffer z.Page, IoBuffer := if z.Page = -1 then h.IoBuffer else flushHost h.IoBuffer z.Page }
theorem slotted_1 {h : VHost} {m p : Nat} {x : VMon} {z s : VSlot} {k : Nat} (hxt : x.Tables.length = x.Guests.length) (hk : k = x.Guests.length) (hs : z.Page = -1) :
  rHost (slotted h m x p z s) = [.sl 1 (h.Memory.map dIntS), .sl 9 ((((h.Mons.set m (monK x p k)).map dMon).set m (.st [.sl 2 (((monK x p k).Outer.map dSlot).set p (.st [.v (.int .i64 s.Page), .v (.int .i64 s.Rights)])), .sl 1 ((monK x p k).Out.map dIntS), .sl 1 ((monK x p k).Dirty.map dBool), .sl 15 ((monK x p k).Guests.map dGuest), .sl 1 ((monK x p k).Outs.map dInt), .v (.int .i64 (monK x p k).Pending), .v (.int .i64 (monK x p k).Traps), .sl 2 ((monK x p k).Tables.map dKept), .v (.int .i64 (monK x p k).Own)])).set m (.st [.sl 2 (((monK x p k).Outer.map dSlot).set p (.st [.v (.int .i64 s.Page), .v (.int .i64 s.Rights)])), .sl 1 ((monK x p k).Out.map dIntS), .sl 1 ((monK x p k).Dirty.map dBool), .sl 15 ((monK x p k).Guests.map dGuest), .sl 1 ((monK x p k).Outs.map dInt), .v (.int .i64 x.Pending), .v (.int .i64 x.Traps), .sl 2 ((monK x p k).Tables.map dKept), .v (.int .i64 x.Own)])), .sl 4 (h.Buffer.map dEntry), .sl 4 (h.IoBuffer.map dEntry)] := by
 have e : dMon { x with Tables := lessKept x p, Outer := x.Outer.set p s } = .st [.sl 2 (((monK x p k).Outer.map dSlot).set p (.st [.v (.int .i64 s.Page), .v (.int .i64 s.Rights)])), .sl 1 ((monK x p k).Out.map dIntS), .sl 1 ((monK x p k).Dirty.map dBool), .sl 15 ((monK x p k).Guests.map dGuest), .sl 1 ((monK x p k).Outs.map dInt), .v (.int .i64 x.Pending), .v (.int .i64 x.Traps), .sl 2 ((monK x p k).Tables.map dKept), .v (.int .i64 x.Own)] := by
  unfold monK
  rw [lessTo_end hxt hk]
  show D.st [.sl 2 ((x.Outer.set p s).map dSlot), _, _, _, _, _, _, _, _] = _
  rw [List.map_set]
 rw [List.set_set, ← e, ← List.map_set, List.set_set]
 unfold slotted
 rw [if_pos hs, if_pos hs]
theorem slotted_2 {h : VHost} {m p : Nat} {x : VMon} {z s : VSlot} {k : Nat} (hxt : x.Tables.length = x.Guests.length) (hk : k = x.Guests.length) (hs : ¬ z.Page = -1) :
  rHost (slotted h m x p z s) = [.sl 1 (h.Memory.map dIntS), .sl 9 ((((h.Mons.set m (monK x p k)).map dMon).set m (.st [.sl 2 (((monK x p k).Outer.map dSlot).set p (.st [.v (.int .i64 s.Page), .v (.int .i64 s.Rights)])), .sl 1 ((monK x p k).Out.map dIntS), .sl 1 ((monK x p k).Dirty.map dBool), .sl 15 ((monK x p k).Guests.map dGuest), .sl 1 ((monK x p k).Outs.map dInt), .v (.int .i64 (monK x p k).Pending), .v (.int .i64 (monK x p k).Traps), .sl 2 ((monK x p k).Tables.map dKept), .v (.int .i64 (monK x p k).Own)])).set m (.st [.sl 2 (((monK x p k).Outer.map dSlot).set p (.st [.v (.int .i64 s.Page), .v (.int .i64 s.Rights)])), .sl 1 ((monK x p k).Out.map dIntS), .sl 1 ((monK x p k).Dirty.map dBool), .sl 15 ((monK x p k).Guests.map dGuest), .sl 1 ((monK x p k).Outs.map dInt), .v (.int .i64 x.Pending), .v (.int .i64 x.Traps), .sl 2 ((monK x p k).Tables.map dKept), .v (.int .i64 x.Own)])), .sl 4 ((flushHost h.Buffer z.Page).map dEntry), .sl 4 ((flushHost h.IoBuffer z.Page).map dEntry)] := by
 have e : dMon { x with Tables := lessKept x p, Outer := x.Outer.set p s } = .st [.sl 2 (((monK x p k).Outer.map dSlot).set p (.st [.v (.int .i64 s.Page), .v (.int .i64 s.Rights)])), .sl 1 ((monK x p k).Out.map dIntS), .sl 1 ((monK x p k).Dirty.map dBool), .sl 15 ((monK x p k).Guests.map dGuest), .sl 1 ((monK x p k).Outs.map dInt), .v (.int .i64 x.Pending), .v (.int .i64 x.Traps), .sl 2 ((monK x p k).Tables.map dKept), .v (.int .i64 x.Own)] := by
  unfold monK
  rw [lessTo_end hxt hk]
  show D.st [.sl 2 ((x.Outer.set p s).map dSlot), _, _, _, _, _, _, _, _] = _
  rw [List.map_set]
 rw [List.set_set, ← e, ← List.map_set, List.set_set]
 unfold slotted
 rw [if_neg hs, if_neg hs]
theorem spec_l22Slot_f (h : VHost) (m : Nat) (x : VMon) (p : Nat) (z s : VSlot) (hx : h.Mons[m]? = some x) (hxt : x.Tables.length = x.Guests.length) (hz : x.Outer[p]? = some z) [Q (SmHost h)] : Fun3 Tryz.prog 227 (rHost h) [.one (.agg [.ref ⟨1000000, [], 0⟩, .ref ⟨1000000, [], 1⟩, .ref ⟨1000000, [], 2⟩, .ref ⟨1000000, [], 3⟩]), I m, I p, A (rSlot s)] (RG [.a (rHost (slotted h m x p z s))]) := by
 refine Fun3.w 70 Tryz.func227 fun w g0 _ => ?_
 have qx : Q (SmMon x) := ⟨ElS.h x (List.mem_of_getElem? hx)⟩
 have hml := (List.getElem?_eq_some_iff.1 hx).1
 have hpl := (List.getElem?_eq_some_iff.1 hz).1
 have hml2 : m < (h.Mons.map dMon).length := by rw [List.length_map]; exact hml
 have hpl2 : p < (x.Outer.map dSlot).length := by rw [List.length_map]; exact hpl
 have hgl := (inferInstance : LenX x.Guests 1048576).h
 first | refine ixm (by assumption) ?_ | refine bnd ?_ | refine bndi ?_ | refine ixkq (fun y15 hy15 qy15 ly15 => ?_) | refine ixiq (fun y15 hy15 qy15 ly15 => ?_)
 first | refine ixs ?_ | refine ixo (by assumption) ?_ | refine ixoq (fun z1 hz1 qz1 lz1 => ?_) | skip
 first | refine ixs ?_ | refine ixo (by assumption) ?_ | refine ixoq (fun z2 hz2 qz2 lz2 => ?_) | skip
 first | refine ixm (by assumption) ?_ | refine bnd ?_ | refine bndi ?_ | refine ixkq (fun y20 hy20 qy20 ly20 => ?_) | refine ixiq (fun y20 hy20 qy20 ly20 => ?_)
 first | refine ixs ?_ | refine ixo (by assumption) ?_ | refine ixoq (fun z3 hz3 qz3 lz3 => ?_) | skip
 first | refine ixs ?_ | refine ixo (by assumption) ?_ | refine ixoq (fun z4 hz4 qz4 lz4 => ?_) | skip
 refine loopA [1, 2, 4, 7, 8, 9, 10] [] [1000000] (fun (k : Nat) => [.set 11 (I k)]) (fun (k : Nat) => [(1000000, ⟨false, [.own (.sl 1 (h.Memory.map dIntS)), .own (.sl 9 (((h.Mons.set m (monK x p k)).map dMon))), .own (.sl 4 (h.Buffer.map dEntry)), .own (.sl 4 (h.IoBuffer.map dEntry))]⟩)]) (fun (k : Nat) => k ≤ x.Guests.length) (fun (k : Nat) => x.Guests.length - k) (0) (Nat.zero_le _) ?_
 refine ⟨(hda (by repeat' first | exact rfl | refine And.intro ?_ ?_ | exact True.intro | (refine eqS ?_; rw [monK_zero, set_same hx]; done))), fun k hyp N1 hN1 => ?_⟩
 have hyp : k ≤ x.Guests.length := hyp
 have hm := set_at (y := monK x p k) hx
 have htl : (monK x p k).Tables.length = x.Guests.length := lessTo_len (p := p) hxt hyp
 have hgk : (monK x p k).Guests.length = x.Guests.length := rfl
 have hko : (monK x p k).Outer.length = x.Outer.length := rfl
 have hzk : (monK x p k).Outer[p]? = some z := hz
 have hko2 : p < ((monK x p k).Outer.map dSlot).length := by rw [List.length_map]; exact hpl
 have hml3 : m < ((h.Mons.set m (monK x p k)).map dMon).length := by rw [List.length_map, List.length_set]; exact hml
 first | refine ixs ?_ | refine ixo (by assumption) ?_ | refine ixoq (fun z5 hz5 qz5 lz5 => ?_) | skip
 refine len ?_
 refine cnd (fun hb => ?_) (fun hb => ?_)
 ·obtain ⟨t, ht⟩ : ∃ t, x.Tables[k]? = some t := ⟨_, List.getElem?_eq_getElem (by omega)⟩
  obtain ⟨g, hg⟩ : ∃ g, x.Guests[k]? = some g := ⟨_, List.getElem?_eq_getElem (by omega)⟩
  have htk : (monK x p k).Tables[k]? = some t := lessTo_get hxt ht
  have hgk2 : (monK x p k).Guests[k]? = some g := hg
  have qt : Q (SmKept t) := ⟨ElS.h t (List.mem_of_getElem? ht)⟩
  have qg : Q (SmGuest g) := ⟨ElS.h g (List.mem_of_getElem? hg)⟩
  refine regU [17] [(0, 0), (1, 0), (2, 0), (3, 0), (4, 0), (5, 0), (6, 0), (7, 0), (8, 0), (9, 0), (10, 0), (11, 0), (12, 0), (13, 0), (14, 0), (15, 1), (16, 0), (17, 1)] ?_
  first | refine ixs ?_ | refine ixo (by assumption) ?_ | refine ixoq (fun z6 hz6 qz6 lz6 => ?_) | skip
  first | refine ixm (by assumption) ?_ | refine bnd ?_ | refine bndi ?_ | refine ixkq (fun y36 hy36 qy36 ly36 => ?_) | refine ixiq (fun y36 hy36 qy36 ly36 => ?_)
  first | refine ixs ?_ | refine ixo (by assumption) ?_ | refine ixoq (fun z7 hz7 qz7 lz7 => ?_) | skip
  first | refine ixs ?_ | refine ixo (by assumption) ?_ | refine ixoq (fun z8 hz8 qz8 lz8 => ?_) | skip
  first | refine ixs ?_ | refine ixo (by assumption) ?_ | refine ixoq (fun z9 hz9 qz9 lz9 => ?_) | skip
  first | refine ixm (by assumption) ?_ | refine bnd ?_ | refine bndi ?_ | refine ixkq (fun y41 hy41 qy41 ly41 => ?_) | refine ixiq (fun y41 hy41 qy41 ly41 => ?_)
  first | refine ixs ?_ | refine ixo (by assumption) ?_ | refine ixoq (fun z10 hz10 qz10 lz10 => ?_) | skip
  first | refine ixs ?_ | refine ixo (by assumption) ?_ | refine ixoq (fun z11 hz11 qz11 lz11 => ?_) | skip
  refine callG (spec_ForgetUses_f t g.Live p).k ?_ (by repeat first | exact rfl | refine WholeW.mk (by first | exact WD.w | assumption) ?_ | refine ixo (by assumption) ?_)
  first | refine ixs ?_ | refine ixo (by assumption) ?_ | refine ixoq (fun z12 hz12 qz12 lz12 => ?_) | skip
  first | refine ixm (by assumption) ?_ | refine bnd ?_ | refine bndi ?_ | refine ixkq (fun y46 hy46 qy46 ly46 => ?_) | refine ixiq (fun y46 hy46 qy46 ly46 => ?_)
  first | refine ixs ?_ | refine ixo (by assumption) ?_ | refine ixoq (fun z13 hz13 qz13 lz13 => ?_) | skip
  first | refine ixs ?_ | refine ixo (by assumption) ?_ | refine ixoq (fun z14 hz14 qz14 lz14 => ?_) | skip
  refine rng ?_
  refine hN1 _ _ _ ?_
  refine nxa (k + 1) (by omega) (by repeat' first | exact rfl | refine And.intro ?_ ?_ | exact True.intro | (refine eqS ?_; rw [monK_next hxt ht hg]; done))
 ·refine hN1 _ _ _ ?_
  refine cnd (fun hb2 => ?_) (fun hb2 => ?_)
  ·refine callL (spec_FlushHost_f _ z.Page).k ?_
   refine callL (spec_FlushHost_f _ z.Page).k ?_
   first | refine ixs ?_ | refine ixo (by assumption) ?_ | refine ixoq (fun z15 hz15 qz15 lz15 => ?_) | skip
   first | refine ixm (by assumption) ?_ | refine bnd ?_ | refine bndi ?_ | refine ixkq (fun y63 hy63 qy63 ly63 => ?_) | refine ixiq (fun y63 hy63 qy63 ly63 => ?_)
   first | refine ixs ?_ | refine ixo (by assumption) ?_ | refine ixoq (fun z16 hz16 qz16 lz16 => ?_) | skip
   first | refine ixs ?_ | refine ixo (by assumption) ?_ | refine ixoq (fun z17 hz17 qz17 lz17 => ?_) | skip
   first | refine ixm (by assumption) ?_ | refine bnd ?_ | refine bndi ?_ | refine ixkq (fun y68 hy68 qy68 ly68 => ?_) | refine ixiq (fun y68 hy68 qy68 ly68 => ?_)
   first | refine ixs ?_ | refine ixo (by assumption) ?_ | skip
   repeat first | refine slf ?_ | refine ixs ?_
   exact (by first | (rw [slotted_1 (k := k) hxt (by omega) (by omega)]; rfl) | (rw [slotted_2 (k := k) hxt (by omega) (by omega)]; rfl))
  ·first | refine ixs ?_ | refine ixo (by assumption) ?_ | refine ixoq (fun z18 hz18 qz18 lz18 => ?_) | skip
   first | refine ixm (by assumption) ?_ | refine bnd ?_ | refine bndi ?_ | refine ixkq (fun y63 hy63 qy63 ly63 => ?_) | refine ixiq (fun y63 hy63 qy63 ly63 => ?_)
   first | refine ixs ?_ | refine ixo (by assumption) ?_ | refine ixoq (fun z19 hz19 qz19 lz19 => ?_) | skip
   first | refine ixs ?_ | refine ixo (by assumption) ?_ | refine ixoq (fun z20 hz20 qz20 lz20 => ?_) | skip
   first | refine ixm (by assumption) ?_ | refine bnd ?_ | refine bndi ?_ | refine ixkq (fun y68 hy68 qy68 ly68 => ?_) | refine ixiq (fun y68 hy68 qy68 ly68 => ?_)
   first | refine ixs ?_ | refine ixo (by assumption) ?_ | skip
   repeat first | refine slf ?_ | refine ixs ?_
   exact (by first | (rw [slotted_1 (k := k) hxt (by omega) (by omega)]; rfl) | (rw [slotted_2 (k := k) hxt (by omega) (by omega)]; rfl))
end Go.Proofs.YteelmdpahpggkaaGreat.T

namespace Go.Proofs.YteelmdpahpggkaaGreat.T
open Go
set_option linter.unusedVariables false
set_option linter.unusedSimpArgs false
set_option maxRecDepth 100000
set_option maxHeartbeats 8000000
def monOut (h : VHost) (x : VMon) (p : Nat) (z : VSlot) : VMon := { x with Out := x.Out.set p (pageAt h.Memory z.Page) }
def hostOut (h : VHost) (m : Nat) (x : VMon) (p : Nat) (z : VSlot) : VHost := { h with Mons := h.Mons.set m (monOut h x p z) }
abbrev outRow (h : VHost) (m : Nat) (x : VMon) (p : Nat) (z : VSlot) : List D := [.sl 1 (h.Memory.map dIntS), .sl 9 ((h.Mons.map dMon).set m (.st [.sl 2 (x.Outer.map dSlot), .sl 1 ((x.Out.map dIntS).set p (.sl 1 ((pageAt h.Memory z.Page).map dInt))), .sl 1 (x.Dirty.map dBool), .sl 15 (x.Guests.map dGuest), .sl 1 (x.Outs.map dInt), .v (.int .i64 x.Pending), .v (.int .i64 x.Traps), .sl 2 (x.Tables.map dKept), .v (.int .i64 x.Own)])), .sl 4 (h.Buffer.map dEntry), .sl 4 (h.IoBuffer.map dEntry)]
theorem outRow_eq (h : VHost) (m : Nat) (x : VMon) (p : Nat) (z : VSlot) : outRow h m x p z = rHost (hostOut h m x p z) := by
 have e : dMon (monOut h x p z) = .st [.sl 2 (x.Outer.map dSlot), .sl 1 ((x.Out.map dIntS).set p (.sl 1 ((pageAt h.Memory z.Page).map dInt))), .sl 1 (x.Dirty.map dBool), .sl 15 (x.Guests.map dGuest), .sl 1 (x.Outs.map dInt), .v (.int .i64 x.Pending), .v (.int .i64 x.Traps), .sl 2 (x.Tables.map dKept), .v (.int .i64 x.Own)] := by
  show D.st [_, .sl 1 ((x.Out.set p (pageAt h.Memory z.Page)).map dIntS), _, _, _, _, _, _, _] = _
  rw [List.map_set]
  rfl
 unfold outRow hostOut
 show _ = [_, D.sl 9 ((h.Mons.set m (monOut h x p z)).map dMon), _, _]
 rw [List.map_set, e]
theorem sm_monOut {h : VHost} {x : VMon} {p : Nat} {z : VSlot} (hh : SmHost h) (hx : SmMon x) : SmMon (monOut h x p z) := by
 refine ⟨hx.1, ⟨by show (x.Out.set _ _).length ≤ _; rw [List.length_set]; exact hx.2.1.1, fun y hy => ?_⟩, hx.2.2⟩
 rcases List.mem_or_eq_of_mem_set hy with hy | rfl
 ·exact hx.2.1.2 y hy
 ·exact sm_page1 hh.1 _
theorem sm_hostOut {h : VHost} {m : Nat} {x : VMon} {p : Nat} {z : VSlot} (hh : SmHost h) (hx : SmMon x) : SmHost (hostOut h m x p z) := by
 refine ⟨hh.1, ⟨by show (h.Mons.set _ _).length ≤ _; rw [List.length_set]; exact hh.2.1.1, fun y hy => ?_⟩, hh.2.2⟩
 rcases List.mem_or_eq_of_mem_set hy with hy | rfl
 ·exact hh.2.1.2 y hy
 ·exact sm_monOut hh hx
theorem out_eq {h : VHost} {m p : Nat} {x : VMon} {z : VSlot} (hx : h.Mons[m]? = some x) (hz : x.Outer[p]? = some z) : slotted (hostOut h m x p z) m (monOut h x p z) p z noSlot = sendOut h m p := by
 have h1 : (setOut h m p (pageAt h.Memory z.Page)).Mons[m]? = some { x with Out := x.Out.set p (pageAt h.Memory z.Page) } := by rw [setOut_eq hx]; exact set_at hx
 unfold sendOut
 rw [slot_is hx hz, slotSet_eq h1 hz, setOut_eq hx]
 rfl
theorem spec_l22Slot_r {row : List D} (h : VHost) (m : Nat) (x : VMon) (p : Nat) (z s : VSlot) (hr : row = rHost h) (hx : h.Mons[m]? = some x) (hxt : x.Tables.length = x.Guests.length) (hz : x.Outer[p]? = some z) (q : SmHost h) :
  Fun3 Tryz.prog 227 row [.one (.agg [.ref ⟨1000000, [], 0⟩, .ref ⟨1000000, [], 1⟩, .ref ⟨1000000, [], 2⟩, .ref ⟨1000000, [], 3⟩]), I m, I p, A (rSlot s)] (RG [.a (rHost (slotted h m x p z s))]) := by
 subst hr
 have : Q (SmHost h) := ⟨q⟩
 exact spec_l22Slot_f h m x p z s hx hxt hz
theorem spec_l22Out_f (h : VHost) (m : Nat) (x : VMon) (p : Nat) (z : VSlot) (hx : h.Mons[m]? = some x) (hxt : x.Tables.length = x.Guests.length) (hz : x.Outer[p]? = some z) (hol : x.Out.length = 8) (hol2 : x.Outer.length = 8) [Q (SmHost h)] : Fun3 Tryz.prog 224 (rHost h) [.one (.agg [.ref ⟨1000000, [], 0⟩, .ref ⟨1000000, [], 1⟩, .ref ⟨1000000, [], 2⟩, .ref ⟨1000000, [], 3⟩]), I m, I p] (RG [.a (rHost (sendOut h m p))]) := by
 refine Fun3.w 33 Tryz.func224 fun w g0 _ => ?_
 rw [← out_eq hx hz]
 have qx : Q (SmMon x) := ⟨ElS.h x (List.mem_of_getElem? hx)⟩
 have hml := (List.getElem?_eq_some_iff.1 hx).1
 have hpl := (List.getElem?_eq_some_iff.1 hz).1
 have hml2 : m < (h.Mons.map dMon).length := by rw [List.length_map]; exact hml
 have hpl2 : p < (x.Outer.map dSlot).length := by rw [List.length_map]; exact hpl
 obtain ⟨y, hy⟩ : ∃ y, x.Out[p]? = some y := ⟨_, List.getElem?_eq_getElem (by omega)⟩
 refine regU [21] [(0, 0), (1, 0), (2, 0), (3, 0), (4, 0), (5, 0), (6, 0), (7, 0), (8, 0), (9, 0), (10, 0), (11, 0), (12, 0), (13, 0), (14, 0), (15, 0), (16, 0), (17, 0), (18, 0), (19, 1), (20, 0), (21, 1)] ?_
 first | refine ixm (by assumption) ?_ | refine bnd ?_ | refine bndi ?_ | refine ixkq (fun y10 hy10 qy10 ly10 => ?_) | refine ixiq (fun y10 hy10 qy10 ly10 => ?_)
 first | refine ixs ?_ | refine ixo (by assumption) ?_ | refine ixoq (fun z1 hz1 qz1 lz1 => ?_) | skip
 first | refine ixm (by assumption) ?_ | refine bnd ?_ | refine bndi ?_ | refine ixkq (fun y19 hy19 qy19 ly19 => ?_) | refine ixiq (fun y19 hy19 qy19 ly19 => ?_)
 first | refine ixs ?_ | refine ixo (by assumption) ?_ | refine ixoq (fun z2 hz2 qz2 lz2 => ?_) | skip
 first | refine ixs ?_ | refine ixo (by assumption) ?_ | refine ixoq (fun z3 hz3 qz3 lz3 => ?_) | skip
 first | refine ixm (by assumption) ?_ | refine bnd ?_ | refine bndi ?_ | refine ixkq (fun y23 hy23 qy23 ly23 => ?_) | refine ixiq (fun y23 hy23 qy23 ly23 => ?_)
 first | refine ixs ?_ | refine ixo (by assumption) ?_ | refine ixoq (fun z4 hz4 qz4 lz4 => ?_) | skip
 first | refine ixs ?_ | refine ixo (by assumption) ?_ | refine ixoq (fun z5 hz5 qz5 lz5 => ?_) | skip
 refine callL (spec_PageAt_f _ _).k ?_
 first | refine ixs ?_ | refine ixo (by assumption) ?_ | refine ixoq (fun z6 hz6 qz6 lz6 => ?_) | skip
 first | refine ixm (by assumption) ?_ | refine bnd ?_ | refine bndi ?_ | refine ixkq (fun y27 hy27 qy27 ly27 => ?_) | refine ixiq (fun y27 hy27 qy27 ly27 => ?_)
 first | refine ixs ?_ | refine ixo (by assumption) ?_ | refine ixoq (fun z7 hz7 qz7 lz7 => ?_) | skip
 first | refine ixs ?_ | refine ixo (by assumption) ?_ | refine ixoq (fun z8 hz8 qz8 lz8 => ?_) | skip
 refine regU [4, 5] [(0, 0), (1, 0), (2, 0), (3, 1), (4, 1), (5, 1)] ?_
 refine callP (spec_NoSlot_f).k ?_
 refine callM [(1000000, 0), (1000000, 1), (1000000, 2), (1000000, 3)] (spec_l22Slot_r (row := outRow h m x p z) (hostOut h m x p z) m (monOut h x p z) p z noSlot (outRow_eq h m x p z) (set_at hx) hxt hz (sm_hostOut (by assumption : Q (SmHost h)).h qx.h)) ?_
 exact rfl
end Go.Proofs.YteelmdpahpggkaaGreat.T

namespace Go.Proofs.YteelmdpahpggkaaGreat.T
open Go
set_option linter.unusedVariables false
set_option linter.unusedSimpArgs false
set_option maxRecDepth 100000
set_option maxHeartbeats 8000000
theorem spec_l22Out_r {row : List D} {mi pi : Int} (h : VHost) (m : Nat) (x : VMon) (p : Nat) (z : VSlot) (hmi : mi = m) (hpi : pi = p) (hr : row = rHost h) (hx : h.Mons[m]? = some x) (hxt : x.Tables.length = x.Guests.length) (hz : x.Outer[p]? = some z) (hol : x.Out.length = 8) (hol2 : x.Outer.length = 8) (q : SmHost h) :
  Fun3 Tryz.prog 224 row [.one (.agg [.ref ⟨1000000, [], 0⟩, .ref ⟨1000000, [], 1⟩, .ref ⟨1000000, [], 2⟩, .ref ⟨1000000, [], 3⟩]), I mi, I pi] (RG [.a (rHost (sendOut h m p))]) := by
 subst hr hmi hpi
 have : Q (SmHost h) := ⟨q⟩
 exact spec_l22Out_f h m x p z hx hxt hz hol hol2
theorem slot_no {h : VHost} {m : Nat} {x : VMon} {p : Nat} {z : VSlot} (hh : hostOk h = true) (hx : h.Mons[m]? = some x) (hz : x.Outer[p]? = some z) : z.Page = -1 ↔ (z.Page = -1 ∧ z.Rights = 0) := by
 constructor
 ·intro e
  rcases (mon_outer (host_mon hh hx)).2.2.2.2.2 z (List.mem_of_getElem? hz) with rfl | h1
  ·exact ⟨rfl, rfl⟩
  ·omega
 ·intro e; exact e.1
theorem spec_PageOut_f (h : VHost) (m : Int) (p : Int) [Q (SmHost h)] : Fun Tryz.prog 140 [A (rHost h), I m, I p] (RG [.a (rHost ((pageOut h m p).getD h)), .c (.v (.bool (pageOut h m p).isSome))]) := by
 refine Fun.w 33 Tryz.func140 fun w g0 hM => ?_
 have hl0 := hM.1.2.1.map
 refine callG (spec_l21Copy_f h).k ?_
 refine regQ ?_
 refine callQ (spec_l22Is_f h m p).k ?_
 refine cnd (fun hg5 => ?_) (fun hg5 => ?_)
 ·exact (by first | (rw [pageOut_no (by assumption)]; rfl) | (rw [pageOut_off hx hz (by omega)]; rfl))
 ·have hpg := hasPage_on.1 (by assumption : hasPage h m p = true)
  obtain ⟨x, hx⟩ : ∃ x, h.Mons[m.toNat]? = some x := ⟨_, List.getElem?_eq_getElem (by omega)⟩
  have hmo := mon_outer (host_mon hpg.1 hx)
  obtain ⟨z, hz⟩ : ∃ z, x.Outer[p.toNat]? = some z := ⟨_, List.getElem?_eq_getElem (by omega)⟩
  have hsn := slot_no hpg.1 hx hz
  have hns1 : noSlot.Page = -1 := rfl
  have hns2 : noSlot.Rights = 0 := rfl
  first | refine ixm (by assumption) ?_ | refine bnd ?_ | refine bndi ?_ | refine ixkq (fun y19 hy19 qy19 ly19 => ?_) | refine ixiq (fun y19 hy19 qy19 ly19 => ?_)
  first | refine ixs ?_ | refine ixo (by assumption) ?_ | refine ixoq (fun z1 hz1 qz1 lz1 => ?_) | skip
  first | refine ixs ?_ | refine ixo (by assumption) ?_ | refine ixoq (fun z2 hz2 qz2 lz2 => ?_) | skip
  first | refine ixm (by assumption) ?_ | refine bnd ?_ | refine bndi ?_ | refine ixkq (fun y23 hy23 qy23 ly23 => ?_) | refine ixiq (fun y23 hy23 qy23 ly23 => ?_)
  first | refine ixs ?_ | refine ixo (by assumption) ?_ | refine ixoq (fun z3 hz3 qz3 lz3 => ?_) | skip
  first | refine ixs ?_ | refine ixo (by assumption) ?_ | refine ixoq (fun z4 hz4 qz4 lz4 => ?_) | skip
  refine callQ (spec_NoSlot_f).k ?_
  refine eqa ?_
  refine cnd (fun hb => ?_) (fun hb => ?_)
  ·exact (by first | (rw [pageOut_no (by assumption)]; rfl) | (rw [pageOut_off hx hz (by omega)]; rfl))
  ·refine callM [(3, 0), (3, 1), (3, 2), (3, 3)] (spec_l22Out_r (mi := m) (pi := p) h m.toNat x p.toNat z (by omega) (by omega) rfl hx hmo.2.2.1 hz hmo.2.2.2.1 hmo.1 (by assumption : Q (SmHost h)).h) ?_
   exact (by rw [pageOut_yes (by assumption) hx hz (by omega)]; rfl)
end Go.Proofs.YteelmdpahpggkaaGreat.T

