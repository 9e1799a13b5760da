import Derived.Test.YtdliggkohdnipaaGreatQbr
import Derived.Test.YtdliggkohdnipaaGreatPbr
set_option linter.unusedVariables false
set_option linter.unusedSimpArgs false
namespace Go.Proofs.YtdliggkohdnipaaGreat.T
open Go
section
variable {f:FuncId} {m:Int} {a1 a2:List D} {h:an} {x:aO}
set_option maxRecDepth 100000
set_option maxHeartbeats 8000000
def fJ (h:an) (m:Int) (F:aV→Option aV):Option an:=if cO h m then (F (ck h m)).map (jS h m.toNat) else none
theorem rm (h1:dL h=true) (h2:0 ≤ m∧m < h.ap.length):cO h m=true:=by simp only [cO,Bool.and_eq_true,decide_eq_true_eq];exact ⟨h1,h2⟩
theorem eY (h1:cO h m=true):dL h=true∧0 ≤ m∧m < h.ap.length:=by simpa only [cO,Bool.and_eq_true,decide_eq_true_eq] using h1
theorem oV (h1:dL h=false ∨ ¬ (0 ≤ m∧m < h.ap.length)):cO h m=false:=by
 cases e:cO h m with
 | false=>rfl
 | true=>
  have:=eY e
  rcases h1 with h1|h1
  rw [h1] at this;cases this.1
  exact absurd this.2 h1
theorem rX {F:aV→Option aV} (h1:dL h=false ∨ ¬ (0 ≤ m∧m < h.ap.length)):fJ h m F=none:=by
 unfold fJ
 rw [oV h1]
 rfl
theorem Sa {F:aV→Option aV} (h1:dL h=true) (h2:0 ≤ m∧m < h.ap.length) (h3:(F (ck h m)).isSome=true):fJ h m F=some (jS h m.toNat ((F (ck h m)).getD (ck h m))):=by
 unfold fJ
 rw [rm h1 h2,if_pos rfl]
 cases e:F (ck h m) with
 | none=>rw [e] at h3;cases h3
 | some b=>rfl
theorem AZ {F:aV→Option aV} (h1:dL h=true) (h2:0 ≤ m∧m < h.ap.length) (h3:(F (ck h m)).isSome=true):
  cR [RD.a (aq ((fJ h m F).getD h)),RD.c (.v (.bool (fJ h m F).isSome))]=cR [RD.a (aq (jS h m.toNat ((F (ck h m)).getD (ck h m)))),RD.c (.v (.bool (F (ck h m)).isSome))]:=by
 rw [Sa h1 h2 h3,h3]
 rfl
theorem Sb {F:aV→Option aV} (h3:(F (ck h m)).isSome=false):fJ h m F=none:=by
 unfold fJ
 cases e:F (ck h m) with
 | none=>split <;> rfl
 | some b=>rw [e] at h3;cases h3
theorem xq {F:aV→Option aV} (h3:(F (ck h m)).isSome=false):
  cR [RD.a (aq ((fJ h m F).getD h)),RD.c (.v (.bool (fJ h m F).isSome))]=cR [RD.a (aq h),RD.c (.v (.bool (F (ck h m)).isSome))]:=by
 rw [Sb h3,h3]
 rfl
theorem wm (h:an) (m:Nat) (x:aO) (b:aV) (hx:h.ap[m]? = some x):aq (jS h m b)=[.sl 1 (h.au.map aN), .sl 9 (((h.ap.map bh).set m (.st [.sl 2 (x.ai.map aQ), .sl 1 (x.Out.map aN), .sl 1 (x.a_.map bz), .sl 15 (b.aa.map aY), .sl 1 (x.bX.map bH), .v (.int .i64 x.ax), .v (.int .i64 x.bq), .sl 2 (x.Tables.map bS), .v (.int .i64 x.Own)])).set m (.st [.sl 2 (x.ai.map aQ), .sl 1 (x.Out.map aN), .sl 1 (x.a_.map bz), .sl 15 (b.aa.map aY), .sl 1 (x.bX.map bH), .v (.int .i64 b.ax), .v (.int .i64 x.bq), .sl 2 (x.Tables.map bS), .v (.int .i64 x.Own)])), .sl 4 (h.Buffer.map aA), .sl 4 (h.aC.map aA)]:=by
 unfold jS fD
 rw [kM hx,List.set_set]
 show [_,D.sl 9 ((h.ap.set m { x with aa:=b.aa,ax:=b.ax }).map bh),_,_]=_
 rw [List.map_set]
theorem Sc {m:Nat} (hx:h.ap[m]? = some x):jS h m (bJ x)=h:=by
 unfold jS fD
 rw [kM hx]
 show { h with ap:=h.ap.set m x }=h
 rw [oA hx]
theorem sG {F:aV→Option aV} (hm:cO h m=true):(bp h m F).getD h=jS h m.toNat ((F (bJ (cE h m.toNat))).getD (bJ (cE h m.toNat))):=by
 unfold bp
 rw [hm,if_pos rfl]
 cases F (bJ (cE h m.toNat)) with
 | none=>exact (Sc (cC (eY hm).2)).symm
 | some b=>rfl
theorem rY {F:aV→Option aV} (hm:cO h m=true):(bp h m F).isSome=(F (bJ (cE h m.toNat))).isSome:=by
 unfold bp
 rw [hm,if_pos rfl]
 cases F (bJ (cE h m.toNat)) <;> rfl
theorem A0 {F:aV→Option aV} (hm:cO h m=false):bp h m F=none:=by
 unfold bp
 rw [hm]
 rfl
theorem gr (hx:bf x):aW (bJ x):=⟨⟨by show (BH 8).length ≤ _;decide,fun y hy=>by have:=List.eq_of_mem_replicate (show y ∈ List.replicate 8 [0,0,0,0] from hy);subst this;show (4:Nat) ≤ _;decide⟩,hx.2.2.2.1,hx.2.2.2.2.1⟩
instance (x:aO) [hx:Q (bf x)]:Q (aW (bJ x)):=⟨gr hx.h⟩
theorem Q3 {m:Nat} {b:aV} (hh:aj h) (hx:h.ap[m]? = some x) (hb:aW b):aj (jS h m b):=by
 unfold jS fD
 rw [kM hx]
 have h3:=hh.2.1.2 x (List.mem_of_getElem? hx)
 exact mj hh ⟨h3.1,h3.2.1,h3.2.2.1,hb.2.1,h3.2.2.2.2.1,h3.2.2.2.2.2⟩
theorem rZ (h:an) (m:Int) {F:aV→Option aV} [Q (aj h)] (hf:dK Tryz.prog f) (hF:∀ b,Q (aW b)→aF Tryz.prog f [A (bC b), .one (.bV a1)] (RG [.a (bC ((F b).getD b)), .c (.v (.bool (F b).isSome))])) (hS:∀ b,aW b→aW ((F b).getD b)):aF Tryz.prog 271 [A (aq h),I m, .fn f [.bV a1]] (RG [.a (aq ((fJ h m F).getD h)), .c (.v (.bool (fJ h m F).isSome))]):=by
 refine aF.w 51 Tryz.func271 fun w g0 hM=> ?_
 have LK:=(inferInstance:dc h.ap 1048576).h
 have eK:=hM.1.2.1.map
 refine ak (aP h).k ?_
 refine ah (fo h).k ?_
 refine aB ?_ ?_ <;> intro gm
 exact (by rw [rX (by left;simpa using gm)];rfl)
 refine len ?_
 refine ah (bA _ _).k ?_
 refine aB ?_ ?_ <;> intro hb
 exact (by rw [rX (by right;omega)];rfl)
 refine ak (lX h m).k ?_
 refine OK (hF (ck h m) inferInstance).k ?_ (hf:=hf)
 refine aB ?_ ?_ <;> intro gY
 have qb:Q (aW ((F (ck h m)).getD (ck h m))):=⟨hS _ (tq (by assumption:Q (aj h)).h)⟩
 have hx0:=cC (h:=h) (m:=m) (by omega)
 have hml:=(List.getElem?_eq_some_iff.1 hx0).1
 have mF:m.toNat < (h.ap.map bh).length:=by rw [List.length_map];exact hml
 have sJ:Q (bf (cE h m.toNat)):=⟨j6.h _ (List.mem_of_getElem? hx0)⟩
 refine cJ [8] [(0,0),(1,0),(2,0),(3,0),(4,0),(5,1),(6,0),(7,0),(8,1)] ?_
 refine bk (gK ((F (ck h m)).getD (ck h m)).aa).k ?_
 refine aZ ?_
 refine aI (by assumption) ?_
 refine aZ ?_
 refine cA ?_
 exact (by show _=cR [RD.a (aq ((fJ h m F).getD h)),RD.c (.v (.bool (fJ h m F).isSome))];rw [AZ (by simpa using gm) (by omega) (by assumption),wm h m.toNat _ _ hx0];rfl)
 exact (by show _=cR [RD.a (aq ((fJ h m F).getD h)),RD.c (.v (.bool (fJ h m F).isSome))];rw [xq (by assumption)];rfl)
theorem kB (h:an) (m:Int) {F:aV→Option aV} [Q (aj h)] (hf:dK Tryz.prog f) (hF:∀ b,Q (aW b)→aF Tryz.prog f [A (bC b), .one (.bV a1), .one (.bV a2)] (RG [.a (bC ((F b).getD b)), .c (.v (.bool (F b).isSome))])) (hS:∀ b,aW b→aW ((F b).getD b)):aF Tryz.prog 271 [A (aq h),I m, .fn f [.bV a1, .bV a2]] (RG [.a (aq ((fJ h m F).getD h)), .c (.v (.bool (fJ h m F).isSome))]):=by
 refine aF.w 51 Tryz.func271 fun w g0 hM=> ?_
 have LK:=(inferInstance:dc h.ap 1048576).h
 have eK:=hM.1.2.1.map
 refine ak (aP h).k ?_
 refine ah (fo h).k ?_
 refine aB ?_ ?_ <;> intro gm
 exact (by rw [rX (by left;simpa using gm)];rfl)
 refine len ?_
 refine ah (bA _ _).k ?_
 refine aB ?_ ?_ <;> intro hb
 exact (by rw [rX (by right;omega)];rfl)
 refine ak (lX h m).k ?_
 refine OK (hF (ck h m) inferInstance).k ?_ (hf:=hf)
 refine aB ?_ ?_ <;> intro gY
 have qb:Q (aW ((F (ck h m)).getD (ck h m))):=⟨hS _ (tq (by assumption:Q (aj h)).h)⟩
 have hx0:=cC (h:=h) (m:=m) (by omega)
 have hml:=(List.getElem?_eq_some_iff.1 hx0).1
 have mF:m.toNat < (h.ap.map bh).length:=by rw [List.length_map];exact hml
 have sJ:Q (bf (cE h m.toNat)):=⟨j6.h _ (List.mem_of_getElem? hx0)⟩
 refine cJ [8] [(0,0),(1,0),(2,0),(3,0),(4,0),(5,1),(6,0),(7,0),(8,1)] ?_
 refine bk (gK ((F (ck h m)).getD (ck h m)).aa).k ?_
 refine aZ ?_
 refine aI (by assumption) ?_
 refine aZ ?_
 refine cA ?_
 exact (by show _=cR [RD.a (aq ((fJ h m F).getD h)),RD.c (.v (.bool (fJ h m F).isSome))];rw [AZ (by simpa using gm) (by omega) (by assumption),wm h m.toNat _ _ hx0];rfl)
 exact (by show _=cR [RD.a (aq ((fJ h m F).getD h)),RD.c (.v (.bool (fJ h m F).isSome))];rw [xq (by assumption)];rfl)
theorem r5 (h:an) (m:Int) {F:aV→Option aV} {a3:List D} [Q (aj h)] (hf:dK Tryz.prog f) (hF:∀ b,Q (aW b)→aF Tryz.prog f [A (bC b), .one (.bV a1), .one (.bV a2), .one (.bV a3)] (RG [.a (bC ((F b).getD b)), .c (.v (.bool (F b).isSome))])) (hS:∀ b,aW b→aW ((F b).getD b)):aF Tryz.prog 271 [A (aq h),I m, .fn f [.bV a1, .bV a2, .bV a3]] (RG [.a (aq ((fJ h m F).getD h)), .c (.v (.bool (fJ h m F).isSome))]):=by
 refine aF.w 51 Tryz.func271 fun w g0 hM=> ?_
 have LK:=(inferInstance:dc h.ap 1048576).h
 have eK:=hM.1.2.1.map
 refine ak (aP h).k ?_
 refine ah (fo h).k ?_
 refine aB ?_ ?_ <;> intro gm
 exact (by rw [rX (by left;simpa using gm)];rfl)
 refine len ?_
 refine ah (bA _ _).k ?_
 refine aB ?_ ?_ <;> intro hb
 exact (by rw [rX (by right;omega)];rfl)
 refine ak (lX h m).k ?_
 refine OK (hF (ck h m) inferInstance).k ?_ (hf:=hf)
 refine aB ?_ ?_ <;> intro gY
 have qb:Q (aW ((F (ck h m)).getD (ck h m))):=⟨hS _ (tq (by assumption:Q (aj h)).h)⟩
 have hx0:=cC (h:=h) (m:=m) (by omega)
 have hml:=(List.getElem?_eq_some_iff.1 hx0).1
 have mF:m.toNat < (h.ap.map bh).length:=by rw [List.length_map];exact hml
 have sJ:Q (bf (cE h m.toNat)):=⟨j6.h _ (List.mem_of_getElem? hx0)⟩
 refine cJ [8] [(0,0),(1,0),(2,0),(3,0),(4,0),(5,1),(6,0),(7,0),(8,1)] ?_
 refine bk (gK ((F (ck h m)).getD (ck h m)).aa).k ?_
 refine aZ ?_
 refine aI (by assumption) ?_
 refine aZ ?_
 refine cA ?_
 exact (by show _=cR [RD.a (aq ((fJ h m F).getD h)),RD.c (.v (.bool (fJ h m F).isSome))];rw [AZ (by simpa using gm) (by omega) (by assumption),wm h m.toNat _ _ hx0];rfl)
 exact (by show _=cR [RD.a (aq ((fJ h m F).getD h)),RD.c (.v (.bool (fJ h m F).isSome))];rw [xq (by assumption)];rfl)
theorem gE (x:aO) [Q (bf x)]:aF Tryz.prog 343 [A (va x)] (RG [.a (bC (bJ x))]):=by
 refine aF.w 14 Tryz.func343 fun w g0 _=> ?_
 refine CF [7,11] [7] [1] (.quiet 1 0 (.quiet 2 0 (.quiet 5 0 (.quiet 6 0 (.quiet 8 1 (.quiet 9 1 (.fork (.alt 0 (.fork (.alt 3 (.fork (.alt 4 (.fork (.alt 7 (.quiet 10 0 (.fork (.alt 11 .done .stop))) .stop)) .stop)) (.alt 4 (.fork (.alt 3 (.fork (.alt 7 (.quiet 10 0 (.fork (.alt 11 .done .stop))) .stop)) .stop)) .stop))) (.alt 4 (.fork (.alt 0 (.fork (.alt 3 (.fork (.alt 7 (.quiet 10 0 (.fork (.alt 11 .done .stop))) .stop)) .stop)) .stop)) .stop))))))))) [2] [] [2] [] [(2,⟨true,[.own (.sl 1 ((BH 8).map aN)), .own (.sl 15 (x.aa.map aY)), .own (.sl 1 (x.bX.map bH)), .own (.v (.int .i64 x.ax))]⟩)] ?_
 refine ⟨?_, ?_⟩
 ·repeat' first|exact True.intro|refine And.intro ?_ ?_|(intro _ _)|refine bk (Hr 8 (by decide)).k ?_|refine bk (k6 x.aa).k ?_|refine cB ?_|exact rfl
 exact rfl
theorem Gm (h:an) (m:Nat) (x:aO) (b:aV) [Q (aj h)] [Q (aW b)] (hx:h.ap[m]? = some x):lO Tryz.prog 344 (aq h) [.one (.agg [.ref ⟨1000000,[],0⟩, .ref ⟨1000000,[],1⟩, .ref ⟨1000000,[],2⟩, .ref ⟨1000000,[],3⟩]),I m,A (bC b)] (RG [.a (aq (jS h m b))]):=by
 refine lO.w 23 Tryz.func344 fun w g0 _=> ?_
 have qx:Q (bf x):=⟨j6.h x (List.mem_of_getElem? hx)⟩
 have hml:=(List.getElem?_eq_some_iff.1 hx).1
 have mF:m < (h.ap.map bh).length:=by rw [List.length_map];exact hml
 refine cJ [8] [(0,0),(1,0),(2,0),(3,0),(4,0),(5,1),(6,0),(7,0),(8,1)] ?_
 refine bk (k6 b.aa).k ?_
 refine cS ?_
 refine aI (by assumption) ?_
 refine cS ?_
 refine cA ?_
 exact (by rw [wm h m x b hx];rfl)
end
section
variable {g:Int} {b:aV} {x:av}
set_option maxRecDepth 100000
set_option maxHeartbeats 8000000
theorem D8 (h:bL x=true): -1 ≤ address x∧address x ≤ 15:=by
 unfold address
 split
 ·rename_i hw
  have hop:(cM x.Prog x.Pc).Op=3 ∨ (cM x.Prog x.Pc).Op=4:=by
   unfold aH at hw
   repeat' split at hw
   all_goals omega
  have hp:tS x.Prog=true:=by simp only [bL,Bool.and_eq_true] at h;exact h.1.1.1.1.1.1.1.1
  unfold cM at hop ⊢
  cases hy:kS x.Prog x.Pc with
  | none=>rw [hy] at hop;simp at hop
  | some y=>
   rw [hy] at hop
   simp only [Option.getD_some] at hop ⊢
   have hm:y ∈ x.Prog:=by
    unfold kS at hy
    split at hy
    ·exact List.mem_of_getElem? hy
    ·cases hy
   simp only [tS,Bool.and_eq_true] at hp
   have h2:=List.all_eq_true.1 hp.1 y hm
   unfold jJ at h2
   rw [if_neg (by omega),if_pos hop] at h2
   have:=of_decide_eq_true h2
   omega
 ·omega
theorem Lc (h:dm b=false ∨ (kS b.aa g).isSome=false ∨ aH (aD b g)=0):m8 b g=none:=by
 unfold m8
 split
 rename_i hb
 cases hx:kS b.aa g with
 | none=>rfl
 | some x=>
  rcases h with h|h|h
  rw [h] at hb;cases hb
  rw [hx] at h;cases h
  rw [ri hx] at h;exact if_pos h
 rfl
theorem kg (hb:dm b=true) (h:(kS b.aa g).isSome=true) (hw:¬ aH (aD b g)=0):m8 b g=some (stepOf b g (aD b g)):=by
 unfold m8 aD at *
 rw [if_pos hb]
 cases hx:kS b.aa g with
 | none=>rw [hx] at h;cases h
 | some x=>rw [hx] at hw;exact if_neg hw
section
variable {b:aV} {g:Int} {x:av} {w:Bool}
theorem st_1 (h:aH x=1):stepOf b g x=bW b g (interrupted x):=if_pos h
theorem st_2 (h:aH x=2):stepOf b g x=bW b g (gI x):=by unfold stepOf;rw [if_neg (by omega),if_pos h]
theorem Sd (h:aH x=3 ∨ aH x=4) (hw:w=(aH x == 4)):stepOf b g x=pP b g x w:=by
 unfold stepOf
 rw [if_neg (by omega),if_neg (by omega)]
 subst hw
 rcases h with h|h
 rw [if_pos h,h];rfl
 rw [if_neg (by omega),if_pos h,h];rfl
theorem st_6 (h:aH x=6):stepOf b g x=bW b g (cT x (kH (cM x.Prog x.Pc).X)):=by unfold stepOf;rw [if_neg (by omega),if_neg (by omega),if_neg (by omega),if_neg (by omega),if_pos h]
theorem st_t (h:¬ aH x=1∧¬ aH x=2∧¬ aH x=3∧¬ aH x=4∧¬ aH x=6) (ht:fA x.iG.bq (m6 (aH x))=true):stepOf b g x=bW b g (m7 x (aH x)):=by
 unfold stepOf;rw [if_neg h.1,if_neg h.2.1,if_neg h.2.2.1,if_neg h.2.2.2.1,if_neg h.2.2.2.2,if_pos ht]
theorem st_5 (h:aH x=5) (ht:fA x.iG.bq (m6 (aH x))=false):stepOf b g x=bW (qO b (cM x.Prog x.Pc).X) g (fj x):=by
 unfold stepOf;rw [if_neg (by omega),if_neg (by omega),if_neg (by omega),if_neg (by omega),if_neg (by omega),if_neg (by rw [ht];decide),if_pos h]
theorem st_7 (h:¬ aH x=1∧¬ aH x=2∧¬ aH x=3∧¬ aH x=4∧¬ aH x=6∧¬ aH x=5) (ht:fA x.iG.bq (m6 (aH x))=false):stepOf b g x=bW b g (held x):=by
 unfold stepOf;rw [if_neg h.1,if_neg h.2.1,if_neg h.2.2.1,if_neg h.2.2.2.1,if_neg h.2.2.2.2.1,if_neg (by rw [ht];decide),if_neg h.2.2.2.2.2]
abbrev nE (x:av) (w:Bool):Option Int:=bn x.Live (bl (address x)) (cu w)
theorem YK (h:(nE x w).isSome=false):pP b g x w=bW b g (cT x (ia (bl (address x)) w)):=by
 unfold pP
 unfold nE at h
 cases e:bn x.Live (bl (address x)) (cu w) with
 | none=>rfl
 | some p=>rw [e] at h;cases h
theorem tc_w (h:(nE x w).isSome=true) (hw:w=true):pP b g x w=bW { b with au:=ec b.au ((nE x w).getD (-1)) (bT (address x)) x.A } g (fj x):=by
 unfold pP
 unfold nE at h ⊢
 cases e:bn x.Live (bl (address x)) (cu w) with
 | none=>rw [e] at h;cases h
 | some p=>exact if_pos hw
theorem tc_r (h:(nE x w).isSome=true) (hw:w=false):pP b g x w=bW b g (qN x (cellAt b.au ((nE x w).getD (-1)) (bT (address x)))):=by
 unfold pP
 unfold nE at h ⊢
 cases e:bn x.Live (bl (address x)) (cu w) with
 | none=>rw [e] at h;cases h
 | some p=>exact if_neg (by rw [hw];decide)
end
theorem A1 {m:List (List Int)} {p c v:Int} (h:dY m):dY (ec m p c v):=by
 unfold ec
 cases e:kS m p with
 | none=>exact h
 | some r=>
  simp only
  split
  refine ⟨by rw [ol];exact h.1,fun y hy=> ?_⟩
  unfold put at hy
  split at hy
  rcases List.mem_or_eq_of_mem_set hy with hy|rfl
  exact h.2 y hy
  show (put r c v).length ≤ _
  rw [ol]
  exact h.2 r (at_mem e)
  exact h.2 y hy
  exact h
theorem Gn {w:Int} (h:aG x):aG (m7 x w):=by unfold m7;split <;> exact h
instance (x:av) (w:Int) [h:Q (aG x)]:Q (aG (m7 x w)):=⟨Gn h.h⟩
instance (b:aV) (p c v:Int) [hb:Q (aW b)]:Q (aW { b with au:=ec b.au p c v }):=⟨A1 hb.h.1,hb.h.2⟩
theorem Dh (b:aV) (g:Int) [Q (aW b)]:aF Tryz.prog 270 [A (bC b),I g] (RG [.a (bC ((m8 b g).getD b)), .c (.v (.bool (m8 b g).isSome))]):=by
 refine aF.w 150 Tryz.func270 fun w g0 _=> ?_
 refine ak (q_ b g).k ?_
 refine ah (lV _).k ?_
 refine ah (kp _).k ?_
 refine aB ?_ ?_ <;> intro gm
 refine ak (cN _).k ?_
 exact (by rw [Lc (by left;assumption)];rfl)
 refine aB ?_ ?_ <;> intro Hw
 refine ak (cN _).k ?_
 exact (by rw [Lc (by right;left;assumption)];rfl)
 refine aB ?_ ?_ <;> intro hb
 refine ak (cN _).k ?_
 exact (by rw [Lc (by right;right;assumption)];rfl)
 have hxo:=zm (b:=b) (g:=g) (by assumption) (by assumption)
 have hxr:=gj hxo
 have hxa:=D8 hxo
 have qx:Q (aG (aD b g)):=inferInstance
 have qp:Q (-9223372036854775808 ≤ (aD b g).Pc):=⟨by omega⟩
 have qa:Q (address (aD b g) ≤ 9223372036854775807):=⟨by omega⟩
 refine ah (vI (aD b g)).k ?_
 refine ah (jU _ _).k ?_
 refine aB ?_ ?_ <;> intro gY
 refine cJ [5] [(0,0),(1,0),(2,0),(3,1),(4,1),(5,1),(6,0)] ?_
 refine ak (yY (aD b g)).k ?_
 refine ak (cH b g (interrupted (aD b g))).k ?_
 exact (by rw [kg (by assumption) (by assumption) (by assumption),st_1 (by omega)];rfl)
 refine aB ?_ ?_ <;> intro tY
 refine cJ [5] [(0,0),(1,0),(2,0),(3,1),(4,1),(5,1),(6,0)] ?_
 refine ak (Fl (aD b g)).k ?_
 refine ak (cH b g (gI (aD b g))).k ?_
 exact (by rw [kg (by assumption) (by assumption) (by assumption),st_2 (by omega)];rfl)
 refine aB ?_ ?_ <;> intro yW
 refine cJ [] [(0,0),(1,0),(2,0),(4,0),(3,1),(5,1),(6,1),(7,0),(8,0),(9,0),(10,0),(11,0)] ?_
 refine ah (ed _).k ?_
 refine ah (om _).k ?_
 refine ak (kY _ _ _).k ?_
 refine aB ?_ ?_ <;> intro CE
 refine cJ [9] [(0,0),(1,0),(2,0),(3,0),(5,0),(4,1),(6,1),(7,1),(8,1),(9,1),(10,0)] ?_
 refine ah (ed _).k ?_
 refine ah (k5 _ _).k ?_
 refine ak (fF (aD b g) (ia (bl (address (aD b g))) (aH (aD b g) == 4))).k ?_
 refine ak (cH b g (cT (aD b g) (ia (bl (address (aD b g))) (aH (aD b g) == 4)))).k ?_
 exact (by rw [kg (by assumption) (by assumption) (by assumption),Sd (w:=(aH (aD b g) == 4)) (by omega) rfl,YK (by assumption)];rfl)
 refine aB ?_ ?_ <;> intro NX
 refine cJ [9] [(0,0),(1,0),(2,0),(3,0),(5,0),(6,0),(4,1),(7,1),(8,0),(9,1)] ?_
 refine ah (ee _).k ?_
 refine bk (gS b.au ((nE (aD b g) (aH (aD b g) == 4)).getD (-1)) (bT (address (aD b g))) (aD b g).A).k ?_
 refine cJ [5] [(0,0),(1,0),(2,0),(3,1),(4,1),(5,1),(6,0)] ?_
 refine ak (ot (aD b g)).k ?_
 refine ak (cH { b with au:=(ec b.au ((nE (aD b g) (aH (aD b g) == 4)).getD (-1)) (bT (address (aD b g))) (aD b g).A) } g (fj (aD b g))).k ?_
 exact (by rw [kg (by assumption) (by assumption) (by assumption),Sd (w:=(aH (aD b g) == 4)) (by omega) rfl,tc_w (by assumption) (by simpa using ‹_›)];rfl)
 refine cJ [11] [(0,0),(1,0),(2,0),(3,0),(4,0),(5,0),(6,0),(7,1),(8,1),(9,1),(10,1),(11,1),(12,0)] ?_
 refine ah (ee _).k ?_
 refine ah (lS b.au ((nE (aD b g) (aH (aD b g) == 4)).getD (-1)) (bT (address (aD b g)))).k ?_
 refine ak (ou (aD b g) (cellAt b.au ((nE (aD b g) (aH (aD b g) == 4)).getD (-1)) (bT (address (aD b g))))).k ?_
 refine ak (cH b g (qN (aD b g) (cellAt b.au ((nE (aD b g) (aH (aD b g) == 4)).getD (-1)) (bT (address (aD b g)))))).k ?_
 exact (by rw [kg (by assumption) (by assumption) (by assumption),Sd (w:=(aH (aD b g) == 4)) (by omega) rfl,tc_r (by assumption) (by simpa using ‹_›)];rfl)
 refine aB ?_ ?_ <;> intro RS
 refine cJ [] [(0,0),(1,0),(2,0),(4,0),(3,1),(5,1),(6,1),(7,0),(8,0),(9,0),(10,0),(11,0)] ?_
 refine ah (ed _).k ?_
 refine ah (om _).k ?_
 refine ak (kY _ _ _).k ?_
 refine aB ?_ ?_ <;> intro Xf
 refine cJ [9] [(0,0),(1,0),(2,0),(3,0),(5,0),(4,1),(6,1),(7,1),(8,1),(9,1),(10,0)] ?_
 refine ah (ed _).k ?_
 refine ah (k5 _ _).k ?_
 refine ak (fF (aD b g) (ia (bl (address (aD b g))) (aH (aD b g) == 4))).k ?_
 refine ak (cH b g (cT (aD b g) (ia (bl (address (aD b g))) (aH (aD b g) == 4)))).k ?_
 exact (by rw [kg (by assumption) (by assumption) (by assumption),Sd (w:=(aH (aD b g) == 4)) (by omega) rfl,YK (by assumption)];rfl)
 refine aB ?_ ?_ <;> intro hb9
 refine cJ [9] [(0,0),(1,0),(2,0),(3,0),(5,0),(6,0),(4,1),(7,1),(8,0),(9,1)] ?_
 refine ah (ee _).k ?_
 refine bk (gS b.au ((nE (aD b g) (aH (aD b g) == 4)).getD (-1)) (bT (address (aD b g))) (aD b g).A).k ?_
 refine cJ [5] [(0,0),(1,0),(2,0),(3,1),(4,1),(5,1),(6,0)] ?_
 refine ak (ot (aD b g)).k ?_
 refine ak (cH { b with au:=(ec b.au ((nE (aD b g) (aH (aD b g) == 4)).getD (-1)) (bT (address (aD b g))) (aD b g).A) } g (fj (aD b g))).k ?_
 exact (by rw [kg (by assumption) (by assumption) (by assumption),Sd (w:=(aH (aD b g) == 4)) (by omega) rfl,tc_w (by assumption) (by simpa using ‹_›)];rfl)
 refine cJ [11] [(0,0),(1,0),(2,0),(3,0),(4,0),(5,0),(6,0),(7,1),(8,1),(9,1),(10,1),(11,1),(12,0)] ?_
 refine ah (ee _).k ?_
 refine ah (lS b.au ((nE (aD b g) (aH (aD b g) == 4)).getD (-1)) (bT (address (aD b g)))).k ?_
 refine ak (ou (aD b g) (cellAt b.au ((nE (aD b g) (aH (aD b g) == 4)).getD (-1)) (bT (address (aD b g))))).k ?_
 refine ak (cH b g (qN (aD b g) (cellAt b.au ((nE (aD b g) (aH (aD b g) == 4)).getD (-1)) (bT (address (aD b g)))))).k ?_
 exact (by rw [kg (by assumption) (by assumption) (by assumption),Sd (w:=(aH (aD b g) == 4)) (by omega) rfl,tc_r (by assumption) (by simpa using ‹_›)];rfl)
 refine aB ?_ ?_ <;> intro Uw
 refine cJ [8] [(0,0),(1,0),(2,0),(3,0),(4,0),(5,1),(6,1),(7,1),(8,1),(9,0)] ?_
 refine ah (C5 _).k ?_
 refine ak (fF (aD b g) (kH (cM (aD b g).Prog (aD b g).Pc).X)).k ?_
 refine ak (cH b g (cT (aD b g) (kH (cM (aD b g).Prog (aD b g).Pc).X))).k ?_
 exact (by rw [kg (by assumption) (by assumption) (by assumption),st_6 (by omega)];rfl)
 refine pM ?_
 refine iQ (yl _).k ?_
 refine iQ (qS _ _).k ?_
 refine aB ?_ ?_ <;> intro Ux
 refine cJ [6] [(0,0),(1,0),(2,0),(3,0),(4,1),(5,1),(6,1),(7,0)] ?_
 refine ak (vL (aD b g) (aH (aD b g))).k ?_
 refine ak (cH b g (m7 (aD b g) (aH (aD b g)))).k ?_
 exact (by rw [kg (by assumption) (by assumption) (by assumption),st_t (by omega) (by assumption)];rfl)
 refine aB ?_ ?_ <;> intro Xg
 refine cJ [8] [(0,0),(1,0),(2,0),(4,0),(5,0),(3,1),(6,1),(7,1),(8,1),(9,0)] ?_
 refine ak (HX b (cM (aD b g).Prog (aD b g).Pc).X).k ?_
 refine ak (iX (aD b g)).k ?_
 refine ak (cH (qO b (cM (aD b g).Prog (aD b g).Pc).X) g (fj (aD b g))).k ?_
 exact (by rw [kg (by assumption) (by assumption) (by assumption),st_5 (by omega) (by assumption)];rfl)
 refine cJ [5] [(0,0),(1,0),(2,0),(3,1),(4,1),(5,1),(6,0)] ?_
 refine ak (vJ (aD b g)).k ?_
 refine ak (cH b g (held (aD b g))).k ?_
 exact (by rw [kg (by assumption) (by assumption) (by assumption),st_7 (by omega) (by assumption)];rfl)
end
end Go.Proofs.YtdliggkohdnipaaGreat.T
