import Derived.Test.YtdliggkohdnipaaGreatPar
set_option linter.unusedVariables false
set_option linter.unusedSimpArgs false
namespace Go.Proofs.YtdliggkohdnipaaGreat.T
open Go
section
variable {c:Bool} {f:FuncId} {g kind p ag v:Int} {a1:List D} {b:aV} {x:av} {s:aL}
set_option maxRecDepth 100000
set_option maxHeartbeats 8000000
theorem uu (h:NY b g=true):dm b=true∧0 ≤ g∧g < b.aa.length:=by
 simp only [NY,Bool.and_eq_true,decide_eq_true_eq] at h
 exact h
theorem onG_on (h:dm b=true) (h1:0 ≤ g∧g < b.aa.length):NY b g=true:=by simp only [NY,Bool.and_eq_true,decide_eq_true_eq];exact ⟨h,h1⟩
theorem mG {n:Nat} (hb:dm b=true) (hx:b.aa[n]? = some x):bL x=true:=by
 simp only [dm,Bool.and_eq_true] at hb
 exact List.all_eq_true.1 hb.1.1.1.1 x (List.mem_of_getElem? hx)
theorem gj (h:bL x=true):(0 ≤ x.A∧x.A ≤ 99)∧(0 ≤ x.Pc∧x.Pc ≤ 12)∧x.Written.length=4∧x.Live.length=4:=by
 simp only [bL,jP,Bool.and_eq_true,decide_eq_true_eq] at h
 omega
theorem Xy:(kS b.aa g).isSome=true ↔ 0 ≤ g∧g < b.aa.length:=by
 constructor
 intro h
 by_cases h1:0 ≤ g∧g < b.aa.length
 exact h1
 rw [nR h1] at h;cases h
 intro h
 rw [oL h.1 (List.getElem?_eq_getElem (by omega))]
 rfl
theorem Ph (h0:0 ≤ g) (hx:b.aa[g.toNat]? = some x):aD b g=x:=by unfold aD;rw [oL h0 hx];rfl
theorem zm (hb:dm b=true) (h:(kS b.aa g).isSome=true):bL (aD b g)=true:=by
 have h1:=Xy.1 h
 have hx:b.aa[g.toNat]? = some (b.aa[g.toNat]'(by omega)):=List.getElem?_eq_getElem (by omega)
 rw [Ph h1.1 hx]
 exact mG hb hx
theorem n4 {f:av→Option av} (h:NY b g=false):gJ b g f=none:=by
 unfold gJ
 split
 rename_i hb
 rw [nR]
 rfl
 intro e
 rw [onG_on hb e] at h
 cases h
 rfl
theorem jc {f:av→Option av} (h:NY b g=true) (hx:b.aa[g.toNat]? = some x):gJ b g f=(f x).map fun y=>{ b with aa:=b.aa.set g.toNat y }:=by
 have h1:=uu h
 unfold gJ
 rw [if_pos h1.1,oL h1.2.1 hx]
 show (f x).map _=_
 cases f x with
 | none=>rfl
 | some y=>show some (bW b g y)=_;rw [QW h1.2.1];rfl
abbrev NZ (b:aV) (g:Int) (c:Bool) (F:av→av):Option aV:=gJ b g fun x=>if c=true then some (F x) else none
theorem rf {F:av→av} (h:dm b=false ∨ (kS b.aa g).isSome=false ∨ c=false):NZ b g c F=none:=by
 unfold NZ gJ
 split
 rename_i hb
 cases hx:kS b.aa g with
 | none=>rfl
 | some x=>
  rcases h with h|h|h
  rw [h] at hb;cases hb
  rw [hx] at h;cases h
  rw [h];rfl
 rfl
theorem QX {F:av→av} (hb:dm b=true) (h:(kS b.aa g).isSome=true) (hc:c=true):NZ b g c F=some (bW b g (F (aD b g))):=by
 unfold NZ gJ aD
 rw [if_pos hb]
 cases hx:kS b.aa g with
 | none=>rw [hx] at h;cases h
 | some x=>subst hc;rfl
instance (x:av) (e:kF) (a:Int) [h:Q (a ≤ x.Pc)]:Q (a ≤ (cT x e).Pc):=h
def Va (ag:Int) (s:aL) (x:av):av:={ x with Written:=put x.Written ag s }
def K6 (ag:Int) (x:av):av:={ x with Live:=put x.Live ag (eP x.Written ag) }
def pW (kind v:Int) (x:av):av:=fj (cT (if kind=2 then { x with A:=v } else x) jR)
def pX (kind:Int) (x:av):av:=if kind=4 then held (cT x jR) else cT x jR
def D5 (p:Int) (x:av):av:={ x with ax:=p }
def Xz (c:mA) (x:av):av:={ x with iG:=c }
theorem K7 (h:aG x):aG (Va ag s x):=⟨h.1,by show (put x.Written ag s).length ≤ _;rw [ol];exact h.2.1,h.2.2.1,h.2.2.2⟩
theorem Jl (h:aG x):aG (K6 ag x):=⟨h.1,h.2.1,by show (put x.Live ag _).length ≤ _;rw [ol];exact h.2.2.1,h.2.2.2⟩
theorem zn (h:aG x):aG (pW kind v x):=by
 unfold pW
 split <;> exact h
theorem Gc (h:aG x):aG (pX kind x):=by
 unfold pX
 split <;> exact h
theorem Pj (h:aG x):aG (D5 p x):=h
theorem XA {c:mA} (h:aG x):aG (Xz c x):=h
theorem K8 (h:c=(j7 ag 0 3 && iw s 8)):d_ b g ag s=NZ b g c (Va ag s):=by subst h;rfl
theorem Nr (h:c=j7 ag 0 3):dO b g ag=NZ b g c (K6 ag):=by subst h;rfl
theorem Vb {x:mA} (h:c=Ag x):ea b g x=NZ b g c (Xz x):=by subst h;rfl
theorem Pk {F:av→av} {f:av→Option av} (h:∀ x,kS b.aa g=some x→f x=if c=true then some (F x) else none):gJ b g f=NZ b g c F:=by
 unfold NZ gJ
 split
 cases hx:kS b.aa g with
 | none=>rfl
 | some x=>show (f x).map _=Option.map _ _;rw [h x hx]
 rfl
theorem ri (h:kS b.aa g=some x):aD b g=x:=by unfold aD;rw [h];rfl
theorem xm (h:c=true ↔ ((aD b g).Exit.Kind=2 ∨ (aD b g).Exit.Kind=3)∧0 ≤ v∧v ≤ 99):b_ b g v=NZ b g c (pW (aD b g).Exit.Kind v):=Pk fun x hx=>by
 rw [ri hx] at h ⊢
 by_cases h1:c=true
 rw [if_pos h1,if_pos ⟨(h.1 h1).1,decide_eq_true (h.1 h1).2⟩];rfl
 rw [if_neg h1,if_neg fun e=>h1 (h.2 ⟨e.1,of_decide_eq_true e.2⟩)]
theorem Jm (h:c=true ↔ ((aD b g).Exit.Kind=1 ∨ (aD b g).Exit.Kind=4)):cg b g=NZ b g c (pX (aD b g).Exit.Kind):=Pk fun x hx=>by
 rw [ri hx] at h ⊢
 unfold pX
 by_cases h1:x.Exit.Kind=1
 rw [if_pos h1,if_pos (h.2 (.inl h1)),if_neg (by omega)]
 rw [if_neg h1]
 by_cases h2:x.Exit.Kind=4
 rw [if_pos h2,if_pos (h.2 (.inr h2)),if_pos h2]
 rw [if_neg h2,if_neg fun e=>by rcases h.1 e with e|e <;> omega]
theorem R7 {n:Int}:bU b g n=NZ b g (e_ (aD b g).ax n).isSome (D5 ((e_ (aD b g).ax n).getD (aD b g).ax)):=Pk fun x hx=>by
 rw [ri hx]
 cases e_ x.ax n <;> rfl
theorem D6 {c:Int} (h:dm b=false ∨ ¬ (0 ≤ p∧p < 8) ∨ ¬ (0 ≤ c∧c < 4) ∨ ¬ (0 ≤ v∧v ≤ 99)):gX b p c v=none:=by
 unfold gX
 refine if_neg fun e=> ?_
 simp only [Bool.and_eq_true,j7,decide_eq_true_eq] at e
 rcases h with h|h|h|h
 ·rw [h] at e;exact absurd e.1.1.1 (by decide)
 all_goals omega
theorem Vc {c:Int} (h:dm b=true) (h1:0 ≤ p∧p < 8) (h2:0 ≤ c∧c < 4) (h3:0 ≤ v∧v ≤ 99):gX b p c v=some { b with au:=ec b.au p c v }:=by
 unfold gX
 refine if_pos ?_
 simp only [Bool.and_eq_true,j7,decide_eq_true_eq]
 exact ⟨⟨⟨h,by omega⟩,by omega⟩,by omega⟩
theorem R8 {b:aV} {g n:Int} {x:av} (h:NY b g=true) (hx:b.aa[g.toNat]? = some x):
  cR [RD.a (bC ((bU b g n).getD b)),RD.c (.v (.bool (bU b g n).isSome))]=cR [RD.a [.sl 1 (b.au.map aN), .sl 15 ((b.aa.map aY).set g.toNat (aY { x with ax:=(e_ x.ax n).getD x.ax })), .sl 1 (b.bX.map bH), .v (.int .i64 b.ax)],RD.c (.v (.bool (e_ x.ax n).isSome))]:=by
 rw [bU,jc h hx]
 cases e_ x.ax n with
 | some p=>simp only [Option.map,Option.getD,bC,List.map_set,Option.isSome]
 | none=>
  have e:(b.aa.map aY).set g.toNat (aY x)=b.aa.map aY:=by
   rw [← List.map_set]
   congr 1
   exact List.ext_getElem? fun j=>by
    by_cases hj:g.toNat=j
    subst hj
    have:=(List.getElem?_eq_some_iff.1 hx).1
    rw [List.getElem?_set_self this,hx]
    rw [List.getElem?_set_ne hj]
  show cR [RD.a (bC b),_]=cR [RD.a [_, .sl 15 ((b.aa.map aY).set g.toNat (aY x)),_,_],_]
  rw [e]
  rfl
theorem uV (x:av) (p:Int) (s:aL) [Q (aG x)]:pg Tryz.prog 397 [A (bB x), .one (.bV [.v (.int .i64 p)]), .one (.bV (gB s))] (A (bB (Va p s x))):=by
 refine pg.w 12 Tryz.func397 fun w g0 _=> ?_
 refine bk (uI x.Written p s).k ?_
 exact (by (repeat refine eB.mk WD.w ?_);rfl)
theorem AQ (x:av) (p:Int) [Q (aG x)]:pg Tryz.prog 399 [A (bB x), .one (.bV [.v (.int .i64 p)])] (A (bB (K6 p x))):=by
 refine pg.w 14 Tryz.func399 fun w g0 _=> ?_
 refine cJ [9] [(0,0),(1,0),(2,0),(3,0),(4,0),(5,0),(6,1),(7,1),(8,0),(9,1)] ?_
 refine ah (oo x.Written p).k ?_
 refine bk (uI x.Live p (eP x.Written p)).k ?_
 exact (by (repeat refine eB.mk WD.w ?_);rfl)
theorem mH (x:av) (k:Int) (v:Int) [Q (aG x)] [Ch:Q (-9223372036854775808 ≤ x.Pc)]:pg Tryz.prog 403 [A (bB x), .one (.bV [.v (.int .i64 k)]), .one (.bV [.v (.int .i64 v)])] (A (bB (pW k v x))):=by
 refine pg.w 13 Tryz.func403 fun w g0 _=> ?_
 refine aB ?_ ?_ <;> intro hb
 refine ak (fF { x with A:=v } jR).k ?_
 refine ak (iX (cT { x with A:=v } jR)).k ?_
 exact (by (repeat refine eB.mk WD.w ?_);(rw [pW,if_pos (by assumption)];rfl))
 refine ak (fF x jR).k ?_
 refine ak (iX (cT x jR)).k ?_
 exact (by (repeat refine eB.mk WD.w ?_);(rw [pW,if_neg (by assumption)];rfl))
theorem rj (x:av) (k:Int) [Q (aG x)] [Ch:Q (-9223372036854775808 ≤ x.Pc)]:pg Tryz.prog 404 [A (bB x), .one (.bV [.v (.int .i64 k)])] (A (bB (pX k x))):=by
 refine pg.w 11 Tryz.func404 fun w g0 _=> ?_
 refine aB ?_ ?_ <;> intro hb
 refine ak (vJ (cT x jR)).k ?_
 exact (by (repeat refine eB.mk WD.w ?_);(rw [pX,if_pos (by assumption)];rfl))
 exact (by (repeat refine eB.mk WD.w ?_);(rw [pX,if_neg (by assumption)];rfl))
theorem zo (x:av) (p:Int) [Q (aG x)]:pg Tryz.prog 406 [A (bB x), .one (.bV [.v (.int .i64 p)])] (A (bB (D5 p x))):=by
 refine pg.w 7 Tryz.func406 fun w g0 _=> ?_
 exact (by (repeat refine eB.mk WD.w ?_);rfl)
theorem Df (x:av) (c:mA) [Q (aG x)]:pg Tryz.prog 407 [A (bB x), .one (.bV (s0 c))] (A (bB (Xz c x))):=by
 refine pg.w 7 Tryz.func407 fun w g0 _=> ?_
 exact (by (repeat refine eB.mk WD.w ?_);rfl)
theorem j_ (b:aV) (g:Int) (c:Bool) {F:av→av} [Q (aW b)] (hf:dK Tryz.prog f) (hF:∀ x,bL x=true→Q (aG x)→pg Tryz.prog f [A (bB x), .one (.bV a1)] (A (bB (F x)))) (hS:∀ x,aG x→aG (F x)):aF Tryz.prog 396 [A (bC b),I g,B c, .fn f [.bV a1]] (RG [.a (bC ((NZ b g c F).getD b)), .c (.v (.bool (NZ b g c F).isSome))]):=by
 refine aF.w 37 Tryz.func396 fun w g0 _=> ?_
 refine QO (wi b g) ?_
 refine ah (kp _).k ?_
 refine aB ?_ ?_ <;> intro gm
 refine ak (cN _).k ?_
 exact (by rw [rf (by left;assumption)];rfl)
 refine aB ?_ ?_ <;> intro Hw
 refine ak (cN _).k ?_
 exact (by rw [rf (by right;left;assumption)];rfl)
 refine aB ?_ ?_ <;> intro hb
 refine ak (cN _).k ?_
 exact (by rw [rf (by right;right;assumption)];rfl)
 have hxo:=zm (b:=b) (g:=g) (by assumption) (by assumption)
 have qx:Q (aG (aD b g)):=inferInstance
 have qf:Q (aG (F (aD b g))):=⟨hS _ qx.h⟩
 refine cJ [6] [(0,0),(1,0),(2,0),(3,0),(4,1),(5,1),(6,1),(7,0)] ?_
 refine KX (hF _ hxo qx) ?_ (hf:=hf)
 refine ak (cH b g (F (aD b g))).k ?_
 exact (by rw [QX (by assumption) (by assumption) (by assumption)];rfl)
theorem kf (b:aV) (g:Int) (c:Bool) {F:av→av} {a2:List D} [Q (aW b)] (hf:dK Tryz.prog f) (hF:∀ x,bL x=true→Q (aG x)→pg Tryz.prog f [A (bB x), .one (.bV a1), .one (.bV a2)] (A (bB (F x)))) (hS:∀ x,aG x→aG (F x)):aF Tryz.prog 396 [A (bC b),I g,B c, .fn f [.bV a1, .bV a2]] (RG [.a (bC ((NZ b g c F).getD b)), .c (.v (.bool (NZ b g c F).isSome))]):=by
 refine aF.w 37 Tryz.func396 fun w g0 _=> ?_
 refine QO (wi b g) ?_
 refine ah (kp _).k ?_
 refine aB ?_ ?_ <;> intro gm
 refine ak (cN _).k ?_
 exact (by rw [rf (by left;assumption)];rfl)
 refine aB ?_ ?_ <;> intro Hw
 refine ak (cN _).k ?_
 exact (by rw [rf (by right;left;assumption)];rfl)
 refine aB ?_ ?_ <;> intro hb
 refine ak (cN _).k ?_
 exact (by rw [rf (by right;right;assumption)];rfl)
 have hxo:=zm (b:=b) (g:=g) (by assumption) (by assumption)
 have qx:Q (aG (aD b g)):=inferInstance
 have qf:Q (aG (F (aD b g))):=⟨hS _ qx.h⟩
 refine cJ [6] [(0,0),(1,0),(2,0),(3,0),(4,1),(5,1),(6,1),(7,0)] ?_
 refine KX (hF _ hxo qx) ?_ (hf:=hf)
 refine ak (cH b g (F (aD b g))).k ?_
 exact (by rw [QX (by assumption) (by assumption) (by assumption)];rfl)
theorem Gd (b:aV) (g:Int) (p:Int) (s:aL) [Q (aW b)]:aF Tryz.prog 273 [A (bC b),I g,I p,A (gB s)] (RG [.a (bC ((d_ b g p s).getD b)), .c (.v (.bool (d_ b g p s).isSome))]):=by
 refine aF.w 22 Tryz.func273 fun w g0 _=> ?_
 refine cJ [12] [(0,0),(1,0),(2,0),(8,0),(3,1),(4,0),(5,0),(6,1),(7,0),(9,1),(10,0),(11,0),(12,1),(13,0)] ?_
 refine ah (bA _ _).k ?_
 refine aB ?_ ?_ <;> intro Kr
 refine ah (yb _ _).k ?_
 refine ak (kf b g _ (F:=Va p s) (.mk rfl rfl rfl) (fun x hx qx=>uV x p s) (fun x h=>K7 h)).k ?_
 exact (by (rw [K8 (c:=iw s 8) (by rw [Bool.eq_iff_iff];simp [*];omega)];rfl))
 refine ak (kf b g _ (F:=Va p s) (.mk rfl rfl rfl) (fun x hx qx=>uV x p s) (fun x h=>K7 h)).k ?_
 exact (by rw [K8 (c:=false) (by rw [Bool.eq_iff_iff];simp [*];omega)];rfl)
theorem BZ (b:aV) (g:Int) (p:Int) [Q (aW b)]:aF Tryz.prog 275 [A (bC b),I g,I p] (RG [.a (bC ((dO b g p).getD b)), .c (.v (.bool (dO b g p).isSome))]):=by
 refine aF.w 16 Tryz.func275 fun w g0 _=> ?_
 refine cJ [8] [(0,0),(1,0),(2,0),(4,0),(3,1),(5,1),(6,0),(7,0),(8,1),(9,0)] ?_
 refine ah (bA _ _).k ?_
 refine ak (j_ b g _ (F:=K6 p) (.mk rfl rfl rfl) (fun x hx qx=>AQ x p) (fun x h=>Jl h)).k ?_
 exact (by rw [Nr (c:=decide (0 ≤ p∧p < 4)) (by rw [Bool.eq_iff_iff];simp [*];omega)];rfl)
theorem AR (b:aV) (g:Int) (v:Int) [Q (aW b)]:aF Tryz.prog 279 [A (bC b),I g,I v] (RG [.a (bC ((b_ b g v).getD b)), .c (.v (.bool (b_ b g v).isSome))]):=by
 refine aF.w 29 Tryz.func279 fun w g0 _=> ?_
 refine ah (yp b g).k ?_
 refine cJ [16] [(0,0),(1,0),(2,0),(3,0),(4,0),(5,0),(6,0),(7,0),(8,0),(9,0),(12,0),(10,1),(11,0),(13,1),(14,0),(15,0),(16,1),(17,0)] ?_
 refine aB ?_ ?_ <;> intro Kr
 refine ah (aS _ _ _).k ?_
 refine ak (kf b g _ (F:=pW (aD b g).Exit.Kind v) (.mk rfl rfl rfl) (fun x hx qx=>have qp:Q (-9223372036854775808 ≤ x.Pc):=⟨by have:=gj hx;omega⟩;mH x (aD b g).Exit.Kind v) (fun x h=>zn h)).k ?_
 exact (by rw [xm (c:=j7 v 0 99) (by simp [*];done)];rfl)
 refine aB ?_ ?_ <;> intro Sz
 refine ah (aS _ _ _).k ?_
 refine ak (kf b g _ (F:=pW (aD b g).Exit.Kind v) (.mk rfl rfl rfl) (fun x hx qx=>have qp:Q (-9223372036854775808 ≤ x.Pc):=⟨by have:=gj hx;omega⟩;mH x (aD b g).Exit.Kind v) (fun x h=>zn h)).k ?_
 exact (by rw [xm (c:=j7 v 0 99) (by simp [*];done)];rfl)
 refine ak (kf b g _ (F:=pW (aD b g).Exit.Kind v) (.mk rfl rfl rfl) (fun x hx qx=>have qp:Q (-9223372036854775808 ≤ x.Pc):=⟨by have:=gj hx;omega⟩;mH x (aD b g).Exit.Kind v) (fun x h=>zn h)).k ?_
 exact (by rw [xm (c:=false) (by simp [*];done)];rfl)
theorem AS (b:aV) (g:Int) [Q (aW b)]:aF Tryz.prog 281 [A (bC b),I g] (RG [.a (bC ((cg b g).getD b)), .c (.v (.bool (cg b g).isSome))]):=by
 refine aF.w 23 Tryz.func281 fun w g0 _=> ?_
 refine ah (yp b g).k ?_
 refine aB ?_ ?_ <;> intro Kr
 refine ak (j_ b g _ (F:=pX (aD b g).Exit.Kind) (.mk rfl rfl rfl) (fun x hx qx=>have qp:Q (-9223372036854775808 ≤ x.Pc):=⟨by have:=gj hx;omega⟩;rj x (aD b g).Exit.Kind) (fun x h=>Gc h)).k ?_
 exact (by rw [Jm (c:=true) (by simp [*];done)];rfl)
 refine ak (j_ b g _ (F:=pX (aD b g).Exit.Kind) (.mk rfl rfl rfl) (fun x hx qx=>have qp:Q (-9223372036854775808 ≤ x.Pc):=⟨by have:=gj hx;omega⟩;rj x (aD b g).Exit.Kind) (fun x h=>Gc h)).k ?_
 exact (by rw [Jm (c:=decide ((aD b g).Exit.Kind=4)) (by simp [*];done)];rfl)
theorem AT (b:aV) (g:Int) (n:Int) [Q (aW b)]:aF Tryz.prog 283 [A (bC b),I g,I n] (RG [.a (bC ((bU b g n).getD b)), .c (.v (.bool (bU b g n).isSome))]):=by
 refine aF.w 32 Tryz.func283 fun w g0 _=> ?_
 refine ak (q_ b g).k ?_
 refine ak (qU (aD b g).ax n).k ?_
 refine ak (j_ b g _ (F:=D5 ((e_ (aD b g).ax n).getD (aD b g).ax)) (.mk rfl rfl rfl) (fun x hx qx=>zo x ((e_ (aD b g).ax n).getD (aD b g).ax)) (fun x h=>Pj h)).k ?_
 exact (by rw [R7];rfl)
theorem Ge (b:aV) (g:Int) (c:mA) [Q (aW b)]:aF Tryz.prog 285 [A (bC b),I g,A (s0 c)] (RG [.a (bC ((ea b g c).getD b)), .c (.v (.bool (ea b g c).isSome))]):=by
 refine aF.w 16 Tryz.func285 fun w g0 _=> ?_
 refine cJ [8] [(0,0),(1,0),(2,0),(4,0),(3,1),(5,1),(6,0),(7,0),(8,1),(9,0)] ?_
 refine ah (t_ c).k ?_
 refine ak (j_ b g _ (F:=Xz c) (.mk rfl rfl rfl) (fun x hx qx=>Df x c) (fun x h=>XA h)).k ?_
 exact (by rw [Vb (c:=Ag c) rfl];rfl)
theorem Dg (b:aV) (p:Int) (c:Int) (v:Int) [Q (aW b)]:aF Tryz.prog 287 [A (bC b),I p,I c,I v] (RG [.a (bC ((gX b p c v).getD b)), .c (.v (.bool (gX b p c v).isSome))]):=by
 refine aF.w 40 Tryz.func287 fun w g0 _=> ?_
 refine ak (cN b).k ?_
 refine ah (kp _).k ?_
 refine aB ?_ ?_ <;> intro gm
 exact (by rw [D6 (by left;assumption)];rfl)
 refine ah (bA _ _).k ?_
 refine aB ?_ ?_ <;> intro Sz
 exact (by (rw [D6 (by right;left;omega)];rfl))
 refine ah (bA _ _).k ?_
 refine aB ?_ ?_ <;> intro Us
 exact (by (rw [D6 (by right;right;left;omega)];rfl))
 refine ah (aS _ _ _).k ?_
 refine aB ?_ ?_ <;> intro hb
 exact (by (rw [D6 (by right;right;right;omega)];rfl))
 refine bk (gS b.au p c v).k ?_
 exact (by rw [Vc (by assumption) (by omega) (by omega) (by omega)];rfl)
theorem Gf (b:aV) (g:Int) (p:Int) (s:aL) [Q (aW b)]:aF Tryz.prog 342 [A (bC b),I g,I p,A (gB s)] (RG [.a (bC ((d_ b g p s).getD b)), .c (.v (.bool (d_ b g p s).isSome))]):=by
 refine aF.w 42 Tryz.func342 fun w g0 _=> ?_
 refine ak (gD b).k ?_
 refine ah (lm _ _).k ?_
 refine aB ?_ ?_ <;> intro Kr
 exact (by rw [d_,n4 (by assumption)];rfl)
 refine ah (aE _ _ _).k ?_
 refine aB ?_ ?_ <;> intro hg9
 exact (by rw [K8 (c:=false) (by simp [*];done),rf (.inr (.inr rfl))];rfl)
 refine ah (ya _ _).k ?_
 refine aB ?_ ?_ <;> intro hb
 exact (by rw [K8 (c:=false) (by simp [*];done),rf (.inr (.inr rfl))];rfl)
 have HY:NY b g=true:=by assumption
 have Bs:=uu HY
 obtain ⟨x,hx⟩:∃ x,b.aa[g.toNat]? = some x:=⟨_,List.getElem?_eq_getElem (by omega)⟩
 have qx:Q (aG x):=⟨j6.h x (List.mem_of_getElem? hx)⟩
 have hxr:=gj (mG Bs.1 hx)
 have qp:Q (-9223372036854775808 ≤ x.Pc):=⟨by omega⟩
 refine cJ [14] [(0,0),(1,0),(2,0),(3,0),(4,0),(5,0),(6,0),(7,0),(8,0),(9,0),(10,0),(11,1),(12,0),(13,0),(14,1)] ?_
 refine aZ ?_
 refine aI (by assumption) ?_
 refine bk (uH x.Written p s).k ?_
 refine aZ ?_
 refine aI (by assumption) ?_
 exact (by rw [d_,jc HY hx,if_pos (by simp [*];done)];simp only [Option.map,Option.getD,bC,List.map_set];rfl)
theorem B0 (b:aV) (g:Int) (p:Int) [Q (aW b)]:aF Tryz.prog 345 [A (bC b),I g,I p] (RG [.a (bC ((dO b g p).getD b)), .c (.v (.bool (dO b g p).isSome))]):=by
 refine aF.w 42 Tryz.func345 fun w g0 _=> ?_
 refine ak (gD b).k ?_
 refine ah (lm _ _).k ?_
 refine aB ?_ ?_ <;> intro Kr
 exact (by rw [dO,n4 (by assumption)];rfl)
 refine ah (aE _ _ _).k ?_
 refine aB ?_ ?_ <;> intro hb
 exact (by rw [Nr (c:=false) (by rw [Bool.eq_iff_iff];simp [*];done),rf (.inr (.inr rfl))];rfl)
 have HY:NY b g=true:=by assumption
 have Bs:=uu HY
 obtain ⟨x,hx⟩:∃ x,b.aa[g.toNat]? = some x:=⟨_,List.getElem?_eq_getElem (by omega)⟩
 have qx:Q (aG x):=⟨j6.h x (List.mem_of_getElem? hx)⟩
 have hxr:=gj (mG Bs.1 hx)
 have qp:Q (-9223372036854775808 ≤ x.Pc):=⟨by omega⟩
 refine cJ [21] [(0,0),(1,0),(2,0),(3,0),(4,0),(5,0),(6,0),(7,0),(8,0),(9,0),(10,0),(11,0),(12,0),(13,0),(14,0),(15,0),(16,0),(17,1),(18,1),(19,0),(20,0),(21,1)] ?_
 refine aZ ?_
 refine aI (by assumption) ?_
 refine aZ ?_
 refine aI (by assumption) ?_
 refine ah (sn x.Written p).k ?_
 refine bk (uH x.Live p (eP x.Written p)).k ?_
 refine aZ ?_
 refine aI (by assumption) ?_
 exact (by rw [dO,jc HY hx,if_pos (by simp [*];done)];simp only [Option.map,Option.getD,bC,List.map_set];rfl)
theorem Gg (b:aV) (g:Int) (c:mA) [Q (aW b)]:aF Tryz.prog 352 [A (bC b),I g,A (s0 c)] (RG [.a (bC ((ea b g c).getD b)), .c (.v (.bool (ea b g c).isSome))]):=by
 refine aF.w 27 Tryz.func352 fun w g0 _=> ?_
 refine ak (gD b).k ?_
 refine ah (lm _ _).k ?_
 refine aB ?_ ?_ <;> intro Kr
 exact (by rw [ea,n4 (by assumption)];rfl)
 refine ah (tZ _).k ?_
 refine aB ?_ ?_ <;> intro hb
 exact (by rw [Vb (c:=false) (by simp [*]),rf (.inr (.inr rfl))];rfl)
 have HY:NY b g=true:=by assumption
 have Bs:=uu HY
 obtain ⟨x,hx⟩:∃ x,b.aa[g.toNat]? = some x:=⟨_,List.getElem?_eq_getElem (by omega)⟩
 have qx:Q (aG x):=⟨j6.h x (List.mem_of_getElem? hx)⟩
 have hxr:=gj (mG Bs.1 hx)
 have qp:Q (-9223372036854775808 ≤ x.Pc):=⟨by omega⟩
 refine aZ ?_
 refine aI (by assumption) ?_
 exact (by rw [ea,jc HY hx,if_pos (by assumption)];simp only [Option.map,Option.getD,bC,List.map_set];rfl)
theorem AU (b:aV) (g:Int) (v:Int) [Q (aW b)]:aF Tryz.prog 349 [A (bC b),I g,I v] (RG [.a (bC ((b_ b g v).getD b)), .c (.v (.bool (b_ b g v).isSome))]):=by
 refine aF.w 45 Tryz.func349 fun w g0 _=> ?_
 refine ak (gD b).k ?_
 refine ah (lm _ _).k ?_
 refine aB ?_ ?_ <;> intro Kr
 exact (by rw [b_,n4 (by assumption)];rfl)
 refine ah (aE _ _ _).k ?_
 refine aB ?_ ?_ <;> intro hb
 exact (by rw [xm (c:=false) (by simp;omega),rf (.inr (.inr rfl))];rfl)
 have HY:NY b g=true:=by assumption
 have Bs:=uu HY
 obtain ⟨x,hx⟩:∃ x,b.aa[g.toNat]? = some x:=⟨_,List.getElem?_eq_getElem (by omega)⟩
 have qx:Q (aG x):=⟨j6.h x (List.mem_of_getElem? hx)⟩
 have hxr:=gj (mG Bs.1 hx)
 have qp:Q (-9223372036854775808 ≤ x.Pc):=⟨by omega⟩
 refine aZ ?_
 refine aI (by assumption) ?_
 refine aB ?_ ?_ <;> intro gY
 refine cJ [8] [(0,0),(1,0),(2,0),(3,0),(4,0),(5,1),(6,1),(7,0),(8,1)] ?_
 refine ak (fE { x with A:=v } jR).k ?_
 refine ak (dI (cT { x with A:=v } jR)).k ?_
 refine aZ ?_
 refine aI (by assumption) ?_
 exact (by rw [b_,jc HY hx,if_pos ⟨by omega,decide_eq_true (by omega)⟩,if_pos (by assumption)];simp only [Option.map,Option.getD,bC,List.map_set];rfl)
 refine aB ?_ ?_ <;> intro tY
 refine cJ [8] [(0,0),(1,0),(2,0),(3,0),(4,0),(5,1),(6,1),(7,0),(8,1)] ?_
 refine ak (fE x jR).k ?_
 refine ak (dI (cT x jR)).k ?_
 refine aZ ?_
 refine aI (by assumption) ?_
 exact (by rw [b_,jc HY hx,if_pos ⟨by omega,decide_eq_true (by omega)⟩,if_neg (by assumption)];simp only [Option.map,Option.getD,bC,List.map_set];rfl)
 exact (by rw [b_,jc HY hx];(rw [if_neg (fun e=>by have:=e.1;omega)]);rfl)
theorem AV (b:aV) (g:Int) [Q (aW b)]:aF Tryz.prog 350 [A (bC b),I g] (RG [.a (bC ((cg b g).getD b)), .c (.v (.bool (cg b g).isSome))]):=by
 refine aF.w 43 Tryz.func350 fun w g0 _=> ?_
 refine ak (gD b).k ?_
 refine ah (lm _ _).k ?_
 refine aB ?_ ?_ <;> intro hb
 exact (by rw [cg,n4 (by assumption)];rfl)
 have HY:NY b g=true:=by assumption
 have Bs:=uu HY
 obtain ⟨x,hx⟩:∃ x,b.aa[g.toNat]? = some x:=⟨_,List.getElem?_eq_getElem (by omega)⟩
 have qx:Q (aG x):=⟨j6.h x (List.mem_of_getElem? hx)⟩
 have hxr:=gj (mG Bs.1 hx)
 have qp:Q (-9223372036854775808 ≤ x.Pc):=⟨by omega⟩
 refine aZ ?_
 refine aI (by assumption) ?_
 refine aB ?_ ?_ <;> intro gY
 refine cJ [7] [(0,0),(1,0),(2,0),(3,0),(4,0),(5,1),(6,0),(7,1)] ?_
 refine ak (fE x jR).k ?_
 refine aZ ?_
 refine aI (by assumption) ?_
 exact (by rw [cg,jc HY hx,if_pos (by assumption)];simp only [Option.map,Option.getD,bC,List.map_set];rfl)
 refine aB ?_ ?_ <;> intro tY
 refine cJ [8] [(0,0),(1,0),(2,0),(3,0),(4,0),(5,1),(6,1),(7,0),(8,1)] ?_
 refine ak (fE x jR).k ?_
 refine ak (oO (cT x jR)).k ?_
 refine aZ ?_
 refine aI (by assumption) ?_
 exact (by rw [cg,jc HY hx,if_neg (by assumption),if_pos (by assumption)];simp only [Option.map,Option.getD,bC,List.map_set];rfl)
 exact (by rw [cg,jc HY hx];(rw [if_neg (by omega),if_neg (by omega)]);rfl)
theorem AW (b:aV) (g:Int) (n:Int) [Q (aW b)]:aF Tryz.prog 351 [A (bC b),I g,I n] (RG [.a (bC ((bU b g n).getD b)), .c (.v (.bool (bU b g n).isSome))]):=by
 refine aF.w 36 Tryz.func351 fun w g0 _=> ?_
 refine ak (gD b).k ?_
 refine ah (lm _ _).k ?_
 refine aB ?_ ?_ <;> intro hb
 exact (by rw [bU,n4 (by assumption)];rfl)
 have HY:NY b g=true:=by assumption
 have Bs:=uu HY
 obtain ⟨x,hx⟩:∃ x,b.aa[g.toNat]? = some x:=⟨_,List.getElem?_eq_getElem (by omega)⟩
 have qx:Q (aG x):=⟨j6.h x (List.mem_of_getElem? hx)⟩
 have hxr:=gj (mG Bs.1 hx)
 have qp:Q (-9223372036854775808 ≤ x.Pc):=⟨by omega⟩
 refine aZ ?_
 refine aI (by assumption) ?_
 refine ak (qT x.ax n).k ?_
 refine aZ ?_
 refine aI (by assumption) ?_
 exact (by show _=cR [RD.a (bC ((bU b g n).getD b)),RD.c (.v (.bool (bU b g n).isSome))];rw [R8 HY hx];rfl)
end
end Go.Proofs.YtdliggkohdnipaaGreat.T
