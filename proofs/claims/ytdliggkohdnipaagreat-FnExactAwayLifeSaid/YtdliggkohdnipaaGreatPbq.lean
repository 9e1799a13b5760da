import Derived.Test.YtdliggkohdnipaaGreatPaq
set_option linter.unusedVariables false
set_option linter.unusedSimpArgs false
namespace Go.Proofs.YtdliggkohdnipaaGreat.T
open Go
section
variable {c:Bool} {f:FuncId} {g kind p ag v:Int} {a1:List D} {b:aS} {x:ax} {s:aQ}
set_option maxRecDepth 100000
set_option maxHeartbeats 8000000
theorem vS (h:PA b g=true):dg b=true∧0 ≤ g∧g < b.aa.length:=by
 simp only [PA,bh,decide_eq_true_eq] at h
 exact h
theorem onG_on (h:dg b=true) (h1:0 ≤ g∧g < b.aa.length):PA b g=true:=by simp only [PA,bh,decide_eq_true_eq];exact ⟨h,h1⟩
theorem n4 {n:Nat} (hb:dg b=true) (hx:b.aa[n]? = some x):bT x=true:=by
 simp only [dg,bh] at hb
 exact eY.1 hb.1.1.1.1 x (aH hx)
theorem gS (h:bT x=true):(0 ≤ x.A∧x.A ≤ 99)∧(0 ≤ x.Pc∧x.Pc ≤ 12)∧x.Written.length=4∧x.Live.length=4:=by
 simp only [bT,kL,bh,decide_eq_true_eq] at h
 omega
theorem Zj:(m5 b.aa g).isSome=true ↔ 0 ≤ g∧g < b.aa.length:=by
 constructor
 intro h
 by_cases h1:0 ≤ g∧g < b.aa.length
 exact h1
 rw [q4 h1] at h;cases h
 intro h
 rw [qH h.1 (bg (by omega))]
 rfl
theorem QS (h0:0 ≤ g) (hx:b.aa[g.toNat]? = some x):aG b g=x:=by unfold aG;rw [qH h0 hx];rfl
theorem A1 (hb:dg b=true) (h:(m5 b.aa g).isSome=true):bT (aG b g)=true:=by
 have h1:=Zj.1 h
 have hx:b.aa[g.toNat]? = some (b.aa[g.toNat]'(by omega)):=bg (by omega)
 rw [QS h1.1 hx]
 exact n4 hb hx
theorem pM {f:ax→Option ax} (h:PA b g=false):iu b g f=none:=by
 unfold iu
 split
 rename_i hb
 rw [q4]
 rfl
 intro e
 rw [onG_on hb e] at h
 cases h
 rfl
theorem jT {f:ax→Option ax} (h:PA b g=true) (hx:b.aa[g.toNat]? = some x):iu b g f=(f x).map fun y=>{ b with aa:=b.aa.set g.toNat y }:=by
 have h1:=vS h
 unfold iu
 rw [if_pos h1.1,qH h1.2.1 hx]
 show (f x).map _=_
 cases f x with
 | none=>rfl
 | some y=>show some (b_ b g y)=_;rw [Sv h1.2.1];rfl
abbrev PB (b:aS) (g:Int) (c:Bool) (F:ax→ax):Option aS:=iu b g fun x=>if c=true then some (F x) else none
theorem sV {F:ax→ax} (h:dg b=false ∨ (m5 b.aa g).isSome=false ∨ c=false):PB b g c F=none:=by
 unfold PB iu
 split
 rename_i hb
 cases hx:m5 b.aa g with
 | none=>rfl
 | some x=>
  rcases h with h|h|h
  rw [h] at hb;cases hb
  rw [hx] at h;cases h
  rw [h];rfl
 rfl
theorem Sw {F:ax→ax} (hb:dg b=true) (h:(m5 b.aa g).isSome=true) (hc:c=true):PB b g c F=some (b_ b g (F (aG b g))):=by
 unfold PB iu aG
 rw [if_pos hb]
 cases hx:m5 b.aa g with
 | none=>rw [hx] at h;cases h
 | some x=>subst hc;rfl
instance (x:ax) (e:qE) (a:Int) [h:Q (a ≤ x.Pc)]:Q (a ≤ (c8 x e).Pc):=h
def W2 (ag:Int) (s:aQ) (x:ax):ax:={ x with Written:=put x.Written ag s }
def MF (ag:Int) (x:ax):ax:={ x with Live:=put x.Live ag (fB x.Written ag) }
def rL (kind v:Int) (x:ax):ax:=fU (c8 (if kind=2 then { x with A:=v } else x) kN)
def rM (kind:Int) (x:ax):ax:=if kind=4 then held (c8 x kN) else c8 x kN
def FE (p:Int) (x:ax):ax:={ x with av:=p }
def Zk (c:qY) (x:ax):ax:={ x with jv:=c }
theorem MG (h:aJ x):aJ (W2 ag s x):=⟨h.1,by show (put x.Written ag s).length ≤ _;rw [pV];exact h.2.1,h.2.2.1,h.2.2.2⟩
theorem KY (h:aJ x):aJ (MF ag x):=⟨h.1,h.2.1,by show (put x.Live ag _).length ≤ _;rw [pV];exact h.2.2.1,h.2.2.2⟩
theorem A2 (h:aJ x):aJ (rL kind v x):=by
 unfold rL
 split <;> exact h
theorem HW (h:aJ x):aJ (rM kind x):=by
 unfold rM
 split <;> exact h
theorem QT (h:aJ x):aJ (FE p x):=h
theorem Zl {c:qY} (h:aJ x):aJ (Zk c x):=h
theorem MH (h:c=(jX ag 0 3 && jb s 8)):eN b g ag s=PB b g c (W2 ag s):=by subst h;rfl
theorem OZ (h:c=jX ag 0 3):ew b g ag=PB b g c (MF ag):=by subst h;rfl
theorem W3 {x:qY} (h:c=BE x):eO b g x=PB b g c (Zk x):=by subst h;rfl
theorem QU {F:ax→ax} {f:ax→Option ax} (h:∀ x,m5 b.aa g=some x→f x=if c=true then some (F x) else none):iu b g f=PB b g c F:=by
 unfold PB iu
 split
 cases hx:m5 b.aa g with
 | none=>rfl
 | some x=>show (f x).map _=Option.map _ _;rw [h x hx]
 rfl
theorem sW (h:m5 b.aa g=some x):aG b g=x:=by unfold aG;rw [h];rfl
theorem y6 (h:c=true ↔ ((aG b g).Exit.Kind=2 ∨ (aG b g).Exit.Kind=3)∧0 ≤ v∧v ≤ 99):cr b g v=PB b g c (rL (aG b g).Exit.Kind v):=QU fun x hx=>by
 rw [sW hx] at h ⊢
 by_cases h1:c=true
 rw [if_pos h1,if_pos ⟨(h.1 h1).1,decide_eq_true (h.1 h1).2⟩];rfl
 rw [if_neg h1,if_neg fun e=>h1 (h.2 ⟨e.1,of_decide_eq_true e.2⟩)]
theorem KZ (h:c=true ↔ ((aG b g).Exit.Kind=1 ∨ (aG b g).Exit.Kind=4)):ct b g=PB b g c (rM (aG b g).Exit.Kind):=QU fun x hx=>by
 rw [sW hx] at h ⊢
 unfold rM
 by_cases h1:x.Exit.Kind=1
 rw [if_pos h1,if_pos (h.2 (.inl h1)),if_neg (by omega)]
 rw [if_neg h1]
 by_cases h2:x.Exit.Kind=4
 rw [if_pos h2,if_pos (h.2 (.inr h2)),if_pos h2]
 rw [if_neg h2,if_neg fun e=>by rcases h.1 e with e|e <;> omega]
theorem TZ {n:Int}:b7 b g n=PB b g (fQ (aG b g).av n).isSome (FE ((fQ (aG b g).av n).getD (aG b g).av)):=QU fun x hx=>by
 rw [sW hx]
 cases fQ x.av n <;> rfl
theorem FF {c:Int} (h:dg b=false ∨ ¬ (0 ≤ p∧p < 8) ∨ ¬ (0 ≤ c∧c < 4) ∨ ¬ (0 ≤ v∧v ≤ 99)):iG b p c v=none:=by
 unfold iG
 refine if_neg fun e=> ?_
 simp only [bh,jX,decide_eq_true_eq] at e
 rcases h with h|h|h|h
 ·rw [h] at e;exact absurd e.1.1.1 (by decide)
 all_goals omega
theorem W4 {c:Int} (h:dg b=true) (h1:0 ≤ p∧p < 8) (h2:0 ≤ c∧c < 4) (h3:0 ≤ v∧v ≤ 99):iG b p c v=some { b with au:=eR b.au p c v }:=by
 unfold iG
 refine if_pos ?_
 simp only [bh,jX,decide_eq_true_eq]
 exact ⟨⟨⟨h,by omega⟩,by omega⟩,by omega⟩
theorem T0 {b:aS} {g n:Int} {x:ax} (h:PA b g=true) (hx:b.aa[g.toNat]? = some x):
  c7 [RD.a (bH ((b7 b g n).getD b)),RD.c (.v (.bool (b7 b g n).isSome))]=c7 [RD.a [.sl 1 (b.au.map aP), .sl 15 ((b.aa.map bp).set g.toNat (bp { x with av:=(fQ x.av n).getD x.av })), .sl 1 (b.cm.map bS), .v (.int .i64 b.av)],RD.c (.v (.bool (fQ x.av n).isSome))]:=by
 rw [b7,jT h hx]
 cases fQ x.av n with
 | some p=>simp only [Option.map,Option.getD,bH,bL,Option.isSome]
 | none=>
  have e:(b.aa.map bp).set g.toNat (bp x)=b.aa.map bp:=by
   rw [← bL]
   congr 1
   exact List.ext_getElem? fun j=>by
    by_cases hj:g.toNat=j
    subst hj
    have:=(aM.1 hx).1
    rw [List.getElem?_set_self this,hx]
    rw [List.getElem?_set_ne hj]
  show c7 [RD.a (bH b),_]=c7 [RD.a [_, .sl 15 ((b.aa.map bp).set g.toNat (bp x)),_,_],_]
  rw [e]
  rfl
theorem wK (x:ax) (p:Int) (s:aQ) [Q (aJ x)]:pI Tryz.prog 397 [A (bK x), .one (.b9 [.v (.int .i64 p)]), .one (.b9 (iF s))] (A (bK (W2 p s x))):=by
 refine pI.w 12 Tryz.func397 fun w g0 _=> ?_
 refine bu (wq x.Written p s).k ?_
 exact (by (repeat refine fi.mk WD.w ?_);rfl)
theorem B9 (x:ax) (p:Int) [Q (aJ x)]:pI Tryz.prog 399 [A (bK x), .one (.b9 [.v (.int .i64 p)])] (A (bK (MF p x))):=by
 refine pI.w 14 Tryz.func399 fun w g0 _=> ?_
 refine cI [9] [(0,0),(1,0),(2,0),(3,0),(4,0),(5,0),(6,1),(7,1),(8,0),(9,1)] ?_
 refine ah (pY x.Written p).k ?_
 refine bu (wq x.Live p (fB x.Written p)).k ?_
 exact (by (repeat refine fi.mk WD.w ?_);rfl)
theorem n5 (x:ax) (k:Int) (v:Int) [Q (aJ x)] [DE:Q (-9223372036854775808 ≤ x.Pc)]:pI Tryz.prog 403 [A (bK x), .one (.b9 [.v (.int .i64 k)]), .one (.b9 [.v (.int .i64 v)])] (A (bK (rL k v x))):=by
 refine pI.w 13 Tryz.func403 fun w g0 _=> ?_
 refine aB ?_ ?_ <;> intro hb
 refine an (gn { x with A:=v } kN).k ?_
 refine an (jI (c8 { x with A:=v } kN)).k ?_
 exact (by (repeat refine fi.mk WD.w ?_);(rw [rL,if_pos ‹_›];rfl))
 refine an (gn x kN).k ?_
 refine an (jI (c8 x kN)).k ?_
 exact (by (repeat refine fi.mk WD.w ?_);(rw [rL,if_neg ‹_›];rfl))
theorem sX (x:ax) (k:Int) [Q (aJ x)] [DE:Q (-9223372036854775808 ≤ x.Pc)]:pI Tryz.prog 404 [A (bK x), .one (.b9 [.v (.int .i64 k)])] (A (bK (rM k x))):=by
 refine pI.w 11 Tryz.func404 fun w g0 _=> ?_
 refine aB ?_ ?_ <;> intro hb
 refine an (xN (c8 x kN)).k ?_
 exact (by (repeat refine fi.mk WD.w ?_);(rw [rM,if_pos ‹_›];rfl))
 exact (by (repeat refine fi.mk WD.w ?_);(rw [rM,if_neg ‹_›];rfl))
theorem A3 (x:ax) (p:Int) [Q (aJ x)]:pI Tryz.prog 406 [A (bK x), .one (.b9 [.v (.int .i64 p)])] (A (bK (FE p x))):=by
 refine pI.w 7 Tryz.func406 fun w g0 _=> ?_
 exact (by (repeat refine fi.mk WD.w ?_);rfl)
theorem EG (x:ax) (c:qY) [Q (aJ x)]:pI Tryz.prog 407 [A (bK x), .one (.b9 (zA c))] (A (bK (Zk c x))):=by
 refine pI.w 7 Tryz.func407 fun w g0 _=> ?_
 exact (by (repeat refine fi.mk WD.w ?_);rfl)
theorem lg (b:aS) (g:Int) (c:Bool) {F:ax→ax} [Q (a_ b)] (hf:ep Tryz.prog f) (hF:∀ x,bT x=true→Q (aJ x)→pI Tryz.prog f [A (bK x), .one (.b9 a1)] (A (bK (F x)))) (hS:∀ x,aJ x→aJ (F x)):aF Tryz.prog 396 [A (bH b),I g,B c, .fn f [.b9 a1]] (RG [.a (bH ((PB b g c F).getD b)), .c (.v (.bool (PB b g c F).isSome))]):=by
 refine aF.w 37 Tryz.func396 fun w g0 _=> ?_
 refine KS (yd b g) ?_
 refine ah (jR _).k ?_
 refine aB ?_ ?_ <;> intro gK
 refine an (cZ _).k ?_
 exact (by rw [sV (by left;assumption)];rfl)
 refine aB ?_ ?_ <;> intro GO
 refine an (cZ _).k ?_
 exact (by rw [sV (by right;left;assumption)];rfl)
 refine aB ?_ ?_ <;> intro hb
 refine an (cZ _).k ?_
 exact (by rw [sV (by right;right;assumption)];rfl)
 have hxo:=A1 (b:=b) (g:=g) ‹_› ‹_›
 have qx:Q (aJ (aG b g)):=inferInstance
 have qf:Q (aJ (F (aG b g))):=⟨hS _ qx.h⟩
 refine cI [6] [(0,0),(1,0),(2,0),(3,0),(4,1),(5,1),(6,1),(7,0)] ?_
 refine My (hF _ hxo qx) ?_ (hf:=hf)
 refine an (cN b g (F (aG b g))).k ?_
 exact (by rw [Sw ‹_› ‹_› ‹_›];rfl)
theorem lm (b:aS) (g:Int) (c:Bool) {F:ax→ax} {a2:List D} [Q (a_ b)] (hf:ep Tryz.prog f) (hF:∀ x,bT x=true→Q (aJ x)→pI Tryz.prog f [A (bK x), .one (.b9 a1), .one (.b9 a2)] (A (bK (F x)))) (hS:∀ x,aJ x→aJ (F x)):aF Tryz.prog 396 [A (bH b),I g,B c, .fn f [.b9 a1, .b9 a2]] (RG [.a (bH ((PB b g c F).getD b)), .c (.v (.bool (PB b g c F).isSome))]):=by
 refine aF.w 37 Tryz.func396 fun w g0 _=> ?_
 refine KS (yd b g) ?_
 refine ah (jR _).k ?_
 refine aB ?_ ?_ <;> intro gK
 refine an (cZ _).k ?_
 exact (by rw [sV (by left;assumption)];rfl)
 refine aB ?_ ?_ <;> intro GO
 refine an (cZ _).k ?_
 exact (by rw [sV (by right;left;assumption)];rfl)
 refine aB ?_ ?_ <;> intro hb
 refine an (cZ _).k ?_
 exact (by rw [sV (by right;right;assumption)];rfl)
 have hxo:=A1 (b:=b) (g:=g) ‹_› ‹_›
 have qx:Q (aJ (aG b g)):=inferInstance
 have qf:Q (aJ (F (aG b g))):=⟨hS _ qx.h⟩
 refine cI [6] [(0,0),(1,0),(2,0),(3,0),(4,1),(5,1),(6,1),(7,0)] ?_
 refine My (hF _ hxo qx) ?_ (hf:=hf)
 refine an (cN b g (F (aG b g))).k ?_
 exact (by rw [Sw ‹_› ‹_› ‹_›];rfl)
theorem HX (b:aS) (g:Int) (p:Int) (s:aQ) [Q (a_ b)]:aF Tryz.prog 273 [A (bH b),I g,I p,A (iF s)] (RG [.a (bH ((eN b g p s).getD b)), .c (.v (.bool (eN b g p s).isSome))]):=by
 refine aF.w 22 Tryz.func273 fun w g0 _=> ?_
 refine cI [12] [(0,0),(1,0),(2,0),(8,0),(3,1),(4,0),(5,0),(6,1),(7,0),(9,1),(10,0),(11,0),(12,1),(13,0)] ?_
 refine ah (bM _ _).k ?_
 refine aB ?_ ?_ <;> intro Fu
 refine ah (zS _ _).k ?_
 refine an (lm b g _ (F:=W2 p s) (.mk rfl rfl rfl) (fun x hx qx=>wK x p s) (fun x h=>MG h)).k ?_
 exact (by (rw [MH (c:=jb s 8) (by rw [dX];simp [*];omega)];rfl))
 refine an (lm b g _ (F:=W2 p s) (.mk rfl rfl rfl) (fun x hx qx=>wK x p s) (fun x h=>MG h)).k ?_
 exact (by rw [MH (c:=false) (by rw [dX];simp [*];omega)];rfl)
theorem Dg (b:aS) (g:Int) (p:Int) [Q (a_ b)]:aF Tryz.prog 275 [A (bH b),I g,I p] (RG [.a (bH ((ew b g p).getD b)), .c (.v (.bool (ew b g p).isSome))]):=by
 refine aF.w 16 Tryz.func275 fun w g0 _=> ?_
 refine cI [8] [(0,0),(1,0),(2,0),(4,0),(3,1),(5,1),(6,0),(7,0),(8,1),(9,0)] ?_
 refine ah (bM _ _).k ?_
 refine an (lg b g _ (F:=MF p) (.mk rfl rfl rfl) (fun x hx qx=>B9 x p) (fun x h=>KY h)).k ?_
 exact (by rw [OZ (c:=decide (0 ≤ p∧p < 4)) (by rw [dX];simp [*];omega)];rfl)
theorem B_ (b:aS) (g:Int) (v:Int) [Q (a_ b)]:aF Tryz.prog 279 [A (bH b),I g,I v] (RG [.a (bH ((cr b g v).getD b)), .c (.v (.bool (cr b g v).isSome))]):=by
 refine aF.w 29 Tryz.func279 fun w g0 _=> ?_
 refine ah (Ae b g).k ?_
 refine cI [16] [(0,0),(1,0),(2,0),(3,0),(4,0),(5,0),(6,0),(7,0),(8,0),(9,0),(12,0),(10,1),(11,0),(13,1),(14,0),(15,0),(16,1),(17,0)] ?_
 refine aB ?_ ?_ <;> intro Fu
 refine ah (aU _ _ _).k ?_
 refine an (lm b g _ (F:=rL (aG b g).Exit.Kind v) (.mk rfl rfl rfl) (fun x hx qx=>have qp:Q (-9223372036854775808 ≤ x.Pc):=⟨by have:=gS hx;omega⟩;n5 x (aG b g).Exit.Kind v) (fun x h=>A2 h)).k ?_
 exact (by rw [y6 (c:=jX v 0 99) (by simp [*];done)];rfl)
 refine aB ?_ ?_ <;> intro Tz
 refine ah (aU _ _ _).k ?_
 refine an (lm b g _ (F:=rL (aG b g).Exit.Kind v) (.mk rfl rfl rfl) (fun x hx qx=>have qp:Q (-9223372036854775808 ≤ x.Pc):=⟨by have:=gS hx;omega⟩;n5 x (aG b g).Exit.Kind v) (fun x h=>A2 h)).k ?_
 exact (by rw [y6 (c:=jX v 0 99) (by simp [*];done)];rfl)
 refine an (lm b g _ (F:=rL (aG b g).Exit.Kind v) (.mk rfl rfl rfl) (fun x hx qx=>have qp:Q (-9223372036854775808 ≤ x.Pc):=⟨by have:=gS hx;omega⟩;n5 x (aG b g).Exit.Kind v) (fun x h=>A2 h)).k ?_
 exact (by rw [y6 (c:=false) (by simp [*];done)];rfl)
theorem Ca (b:aS) (g:Int) [Q (a_ b)]:aF Tryz.prog 281 [A (bH b),I g] (RG [.a (bH ((ct b g).getD b)), .c (.v (.bool (ct b g).isSome))]):=by
 refine aF.w 23 Tryz.func281 fun w g0 _=> ?_
 refine ah (Ae b g).k ?_
 refine aB ?_ ?_ <;> intro Fu
 refine an (lg b g _ (F:=rM (aG b g).Exit.Kind) (.mk rfl rfl rfl) (fun x hx qx=>have qp:Q (-9223372036854775808 ≤ x.Pc):=⟨by have:=gS hx;omega⟩;sX x (aG b g).Exit.Kind) (fun x h=>HW h)).k ?_
 exact (by rw [KZ (c:=true) (by simp [*];done)];rfl)
 refine an (lg b g _ (F:=rM (aG b g).Exit.Kind) (.mk rfl rfl rfl) (fun x hx qx=>have qp:Q (-9223372036854775808 ≤ x.Pc):=⟨by have:=gS hx;omega⟩;sX x (aG b g).Exit.Kind) (fun x h=>HW h)).k ?_
 exact (by rw [KZ (c:=decide ((aG b g).Exit.Kind=4)) (by simp [*];done)];rfl)
theorem Cb (b:aS) (g:Int) (n:Int) [Q (a_ b)]:aF Tryz.prog 283 [A (bH b),I g,I n] (RG [.a (bH ((b7 b g n).getD b)), .c (.v (.bool (b7 b g n).isSome))]):=by
 refine aF.w 32 Tryz.func283 fun w g0 _=> ?_
 refine an (sU b g).k ?_
 refine an (sG (aG b g).av n).k ?_
 refine an (lg b g _ (F:=FE ((fQ (aG b g).av n).getD (aG b g).av)) (.mk rfl rfl rfl) (fun x hx qx=>A3 x ((fQ (aG b g).av n).getD (aG b g).av)) (fun x h=>QT h)).k ?_
 exact (by rw [TZ];rfl)
theorem HY (b:aS) (g:Int) (c:qY) [Q (a_ b)]:aF Tryz.prog 285 [A (bH b),I g,A (zA c)] (RG [.a (bH ((eO b g c).getD b)), .c (.v (.bool (eO b g c).isSome))]):=by
 refine aF.w 16 Tryz.func285 fun w g0 _=> ?_
 refine cI [8] [(0,0),(1,0),(2,0),(4,0),(3,1),(5,1),(6,0),(7,0),(8,1),(9,0)] ?_
 refine ah (vC c).k ?_
 refine an (lg b g _ (F:=Zk c) (.mk rfl rfl rfl) (fun x hx qx=>EG x c) (fun x h=>Zl h)).k ?_
 exact (by rw [W3 (c:=BE c) rfl];rfl)
theorem EH (b:aS) (p:Int) (c:Int) (v:Int) [Q (a_ b)]:aF Tryz.prog 287 [A (bH b),I p,I c,I v] (RG [.a (bH ((iG b p c v).getD b)), .c (.v (.bool (iG b p c v).isSome))]):=by
 refine aF.w 40 Tryz.func287 fun w g0 _=> ?_
 refine an (cZ b).k ?_
 refine ah (jR _).k ?_
 refine aB ?_ ?_ <;> intro gK
 exact (by rw [FF (by left;assumption)];rfl)
 refine ah (bM _ _).k ?_
 refine aB ?_ ?_ <;> intro Tz
 exact (by (rw [FF (by right;left;omega)];rfl))
 refine ah (bM _ _).k ?_
 refine aB ?_ ?_ <;> intro Wb
 exact (by (rw [FF (by right;right;left;omega)];rfl))
 refine ah (aU _ _ _).k ?_
 refine aB ?_ ?_ <;> intro hb
 exact (by (rw [FF (by right;right;right;omega)];rfl))
 refine bu (iD b.au p c v).k ?_
 exact (by rw [W4 ‹_› (by omega) (by omega) (by omega)];rfl)
theorem HZ (b:aS) (g:Int) (p:Int) (s:aQ) [Q (a_ b)]:aF Tryz.prog 342 [A (bH b),I g,I p,A (iF s)] (RG [.a (bH ((eN b g p s).getD b)), .c (.v (.bool (eN b g p s).isSome))]):=by
 refine aF.w 42 Tryz.func342 fun w g0 _=> ?_
 refine an (gr b).k ?_
 refine ah (mR _ _).k ?_
 refine aB ?_ ?_ <;> intro Fu
 exact (by rw [eN,pM ‹_›];rfl)
 refine ah (aE _ _ _).k ?_
 refine aB ?_ ?_ <;> intro hg9
 exact (by rw [MH (c:=false) (by simp [*];done),sV (.inr (.inr rfl))];rfl)
 refine ah (zR _ _).k ?_
 refine aB ?_ ?_ <;> intro hb
 exact (by rw [MH (c:=false) (by simp [*];done),sV (.inr (.inr rfl))];rfl)
 have JA:PA b g=true:=by assumption
 have CJ:=vS JA
 obtain ⟨x,hx⟩:∃ x,b.aa[g.toNat]? = some x:=⟨_,bg (by omega)⟩
 have qx:Q (aJ x):=⟨jW.h x (aH hx)⟩
 have hxr:=gS (n4 CJ.1 hx)
 have qp:Q (-9223372036854775808 ≤ x.Pc):=⟨by omega⟩
 refine cI [14] [(0,0),(1,0),(2,0),(3,0),(4,0),(5,0),(6,0),(7,0),(8,0),(9,0),(10,0),(11,1),(12,0),(13,0),(14,1)] ?_
 refine bl ?_
 refine aL ‹_› ?_
 refine bu (wo x.Written p s).k ?_
 refine bl ?_
 refine aL ‹_› ?_
 exact (by rw [eN,jT JA hx,if_pos (by simp [*];done)];simp only [Option.map,Option.getD,bH,bL];rfl)
theorem Dh (b:aS) (g:Int) (p:Int) [Q (a_ b)]:aF Tryz.prog 345 [A (bH b),I g,I p] (RG [.a (bH ((ew b g p).getD b)), .c (.v (.bool (ew b g p).isSome))]):=by
 refine aF.w 42 Tryz.func345 fun w g0 _=> ?_
 refine an (gr b).k ?_
 refine ah (mR _ _).k ?_
 refine aB ?_ ?_ <;> intro Fu
 exact (by rw [ew,pM ‹_›];rfl)
 refine ah (aE _ _ _).k ?_
 refine aB ?_ ?_ <;> intro hb
 exact (by rw [OZ (c:=false) (by rw [dX];simp [*];done),sV (.inr (.inr rfl))];rfl)
 have JA:PA b g=true:=by assumption
 have CJ:=vS JA
 obtain ⟨x,hx⟩:∃ x,b.aa[g.toNat]? = some x:=⟨_,bg (by omega)⟩
 have qx:Q (aJ x):=⟨jW.h x (aH hx)⟩
 have hxr:=gS (n4 CJ.1 hx)
 have qp:Q (-9223372036854775808 ≤ x.Pc):=⟨by omega⟩
 refine cI [21] [(0,0),(1,0),(2,0),(3,0),(4,0),(5,0),(6,0),(7,0),(8,0),(9,0),(10,0),(11,0),(12,0),(13,0),(14,0),(15,0),(16,0),(17,1),(18,1),(19,0),(20,0),(21,1)] ?_
 refine bl ?_
 refine aL ‹_› ?_
 refine bl ?_
 refine aL ‹_› ?_
 refine ah (pX x.Written p).k ?_
 refine bu (wo x.Live p (fB x.Written p)).k ?_
 refine bl ?_
 refine aL ‹_› ?_
 exact (by rw [ew,jT JA hx,if_pos (by simp [*];done)];simp only [Option.map,Option.getD,bH,bL];rfl)
theorem H6 (b:aS) (g:Int) (c:qY) [Q (a_ b)]:aF Tryz.prog 352 [A (bH b),I g,A (zA c)] (RG [.a (bH ((eO b g c).getD b)), .c (.v (.bool (eO b g c).isSome))]):=by
 refine aF.w 27 Tryz.func352 fun w g0 _=> ?_
 refine an (gr b).k ?_
 refine ah (mR _ _).k ?_
 refine aB ?_ ?_ <;> intro Fu
 exact (by rw [eO,pM ‹_›];rfl)
 refine ah (vB _).k ?_
 refine aB ?_ ?_ <;> intro hb
 exact (by rw [W3 (c:=false) (by simp [*]),sV (.inr (.inr rfl))];rfl)
 have JA:PA b g=true:=by assumption
 have CJ:=vS JA
 obtain ⟨x,hx⟩:∃ x,b.aa[g.toNat]? = some x:=⟨_,bg (by omega)⟩
 have qx:Q (aJ x):=⟨jW.h x (aH hx)⟩
 have hxr:=gS (n4 CJ.1 hx)
 have qp:Q (-9223372036854775808 ≤ x.Pc):=⟨by omega⟩
 refine bl ?_
 refine aL ‹_› ?_
 exact (by rw [eO,jT JA hx,if_pos ‹_›];simp only [Option.map,Option.getD,bH,bL];rfl)
theorem Cc (b:aS) (g:Int) (v:Int) [Q (a_ b)]:aF Tryz.prog 349 [A (bH b),I g,I v] (RG [.a (bH ((cr b g v).getD b)), .c (.v (.bool (cr b g v).isSome))]):=by
 refine aF.w 45 Tryz.func349 fun w g0 _=> ?_
 refine an (gr b).k ?_
 refine ah (mR _ _).k ?_
 refine aB ?_ ?_ <;> intro Fu
 exact (by rw [cr,pM ‹_›];rfl)
 refine ah (aE _ _ _).k ?_
 refine aB ?_ ?_ <;> intro hb
 exact (by rw [y6 (c:=false) (by simp;omega),sV (.inr (.inr rfl))];rfl)
 have JA:PA b g=true:=by assumption
 have CJ:=vS JA
 obtain ⟨x,hx⟩:∃ x,b.aa[g.toNat]? = some x:=⟨_,bg (by omega)⟩
 have qx:Q (aJ x):=⟨jW.h x (aH hx)⟩
 have hxr:=gS (n4 CJ.1 hx)
 have qp:Q (-9223372036854775808 ≤ x.Pc):=⟨by omega⟩
 refine bl ?_
 refine aL ‹_› ?_
 refine aB ?_ ?_ <;> intro iz
 refine cI [8] [(0,0),(1,0),(2,0),(3,0),(4,0),(5,1),(6,1),(7,0),(8,1)] ?_
 refine an (gm { x with A:=v } kN).k ?_
 refine an (ef (c8 { x with A:=v } kN)).k ?_
 refine bl ?_
 refine aL ‹_› ?_
 exact (by rw [cr,jT JA hx,if_pos ⟨by omega,decide_eq_true (by omega)⟩,if_pos ‹_›];simp only [Option.map,Option.getD,bH,bL];rfl)
 refine aB ?_ ?_ <;> intro tr
 refine cI [8] [(0,0),(1,0),(2,0),(3,0),(4,0),(5,1),(6,1),(7,0),(8,1)] ?_
 refine an (gm x kN).k ?_
 refine an (ef (c8 x kN)).k ?_
 refine bl ?_
 refine aL ‹_› ?_
 exact (by rw [cr,jT JA hx,if_pos ⟨by omega,decide_eq_true (by omega)⟩,if_neg ‹_›];simp only [Option.map,Option.getD,bH,bL];rfl)
 exact (by rw [cr,jT JA hx];(rw [if_neg (fun e=>by have:=e.1;omega)]);rfl)
theorem Cd (b:aS) (g:Int) [Q (a_ b)]:aF Tryz.prog 350 [A (bH b),I g] (RG [.a (bH ((ct b g).getD b)), .c (.v (.bool (ct b g).isSome))]):=by
 refine aF.w 43 Tryz.func350 fun w g0 _=> ?_
 refine an (gr b).k ?_
 refine ah (mR _ _).k ?_
 refine aB ?_ ?_ <;> intro hb
 exact (by rw [ct,pM ‹_›];rfl)
 have JA:PA b g=true:=by assumption
 have CJ:=vS JA
 obtain ⟨x,hx⟩:∃ x,b.aa[g.toNat]? = some x:=⟨_,bg (by omega)⟩
 have qx:Q (aJ x):=⟨jW.h x (aH hx)⟩
 have hxr:=gS (n4 CJ.1 hx)
 have qp:Q (-9223372036854775808 ≤ x.Pc):=⟨by omega⟩
 refine bl ?_
 refine aL ‹_› ?_
 refine aB ?_ ?_ <;> intro iz
 refine cI [7] [(0,0),(1,0),(2,0),(3,0),(4,0),(5,1),(6,0),(7,1)] ?_
 refine an (gm x kN).k ?_
 refine bl ?_
 refine aL ‹_› ?_
 exact (by rw [ct,jT JA hx,if_pos ‹_›];simp only [Option.map,Option.getD,bH,bL];rfl)
 refine aB ?_ ?_ <;> intro tr
 refine cI [8] [(0,0),(1,0),(2,0),(3,0),(4,0),(5,1),(6,1),(7,0),(8,1)] ?_
 refine an (gm x kN).k ?_
 refine an (qJ (c8 x kN)).k ?_
 refine bl ?_
 refine aL ‹_› ?_
 exact (by rw [ct,jT JA hx,if_neg ‹_›,if_pos ‹_›];simp only [Option.map,Option.getD,bH,bL];rfl)
 exact (by rw [ct,jT JA hx];(rw [if_neg (by omega),if_neg (by omega)]);rfl)
theorem Ce (b:aS) (g:Int) (n:Int) [Q (a_ b)]:aF Tryz.prog 351 [A (bH b),I g,I n] (RG [.a (bH ((b7 b g n).getD b)), .c (.v (.bool (b7 b g n).isSome))]):=by
 refine aF.w 36 Tryz.func351 fun w g0 _=> ?_
 refine an (gr b).k ?_
 refine ah (mR _ _).k ?_
 refine aB ?_ ?_ <;> intro hb
 exact (by rw [b7,pM ‹_›];rfl)
 have JA:PA b g=true:=by assumption
 have CJ:=vS JA
 obtain ⟨x,hx⟩:∃ x,b.aa[g.toNat]? = some x:=⟨_,bg (by omega)⟩
 have qx:Q (aJ x):=⟨jW.h x (aH hx)⟩
 have hxr:=gS (n4 CJ.1 hx)
 have qp:Q (-9223372036854775808 ≤ x.Pc):=⟨by omega⟩
 refine bl ?_
 refine aL ‹_› ?_
 refine an (sE x.av n).k ?_
 refine bl ?_
 refine aL ‹_› ?_
 exact (by show _=c7 [RD.a (bH ((b7 b g n).getD b)),RD.c (.v (.bool (b7 b g n).isSome))];rw [T0 JA hx];rfl)
end
end Go.Proofs.YtdliggkohdnipaaGreat.T
