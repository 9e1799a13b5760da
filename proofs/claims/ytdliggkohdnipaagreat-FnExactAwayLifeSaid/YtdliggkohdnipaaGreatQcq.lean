import Derived.Test.YtdliggkohdnipaaGreatRvq
import Derived.Test.YtdliggkohdnipaaGreatQaq
set_option linter.unusedVariables false
set_option linter.unusedSimpArgs false
namespace Go.Proofs.YtdliggkohdnipaaGreat.T
open Go
section
variable {m:Int} {h:ap}
set_option maxRecDepth 100000
set_option maxHeartbeats 8000000
theorem ML (h:ap) (m:Int) (i:Nat):lJ h m (i + 1)=lJ h m i ++ [nT h m i]:=by
 unfold lJ
 rw [List.range_succ,iW]
 rfl
theorem D7 (h:ap) (m:Int) (i:Nat):(lJ h m (i + 1)).map aP=(lJ h m i).map aP ++ [aP (nT h m i)]:=by rw [ML,iW];rfl
theorem oc (h:ap) (m:Int) (i:Nat):(lJ h m i).length=i:=by unfold lJ;simp
theorem SB (hm:(lS h m).isSome=false):b8 h m=L0:=by
 unfold b8
 cases e:lS h m with
 | none=>rfl
 | some x=>rw [e] at hm;cases hm
theorem O4 (hm:(lS h m).isSome=true):b8 h m=⟨lJ h m 8,(e9 h m).aa,(e9 h m).cm,(e9 h m).av⟩:=by
 unfold b8 e9
 cases e:lS h m with
 | none=>rw [e] at hm;cases hm
 | some x=>rfl
def vV (h:ap) (i:Nat):List aS:=(List.range i).map fun (k:Nat)=>b8 h k
theorem Ia (h:ap) (i:Nat):(vV h i).length=i:=by unfold vV;simp
theorem Ib (h:ap) (i:Nat):(vV h (i + 1)).map wj=(vV h i).map wj ++ [wj (b8 h i)]:=by
 unfold vV
 rw [List.range_succ,iW,iW]
 rfl
theorem Zp {n:Int} (hh:aj h):(nT h m n).length ≤ 1048576:=by
 have h4:([0,0,0,0]:List Int).length ≤ 1048576:=by decide
 have hat:∀ {l:List (List Int)} {i:Int},eD l→(eZ l i).length ≤ 1048576:=fun {l i} hl=>by
  unfold eZ
  cases e:m5 l i with
  | none=>exact h4
  | some r=>exact hl.2 r (at_mem e)
 unfold nT
 cases e:lS h m with
 | none=>exact h4
 | some x=>
  simp only
  split
  split
  exact hat hh.1
  exact hat (hh.2.1.2 x (at_mem e)).2.1
  exact h4
theorem rU (hh:aj h):a_ (b8 h m):=by
 unfold b8
 cases e:lS h m with
 | none=>exact ⟨⟨by simp,fun x hx=>by cases hx⟩,⟨by simp,fun x hx=>by cases hx⟩,by simp [dP]⟩
 | some x=>
  have hx:=hh.2.1.2 x (at_mem e)
  refine ⟨⟨by rw [oc];decide,fun y hy=> ?_⟩,hx.2.2.2.1,hx.2.2.2.2.1⟩
  obtain ⟨k,_,rfl⟩:=j7.1 hy
  exact Zp hh
instance (h:ap) (m:Int) [hh:Q (aj h)]:Q (a_ (b8 h m)):=⟨rU hh.h⟩
theorem SC (hh:aj h):yR (save h):=by
 refine ⟨⟨?_,fun b hb=> ?_⟩, ?_, ?_⟩
 show (mE h).length ≤ _
 unfold mE
 simp only [aI,List.length_range]
 exact hh.2.1.1
 obtain ⟨k,_,rfl⟩:=j7.1 hb
 exact rU hh
 show (h.ai.map _).length ≤ _
 rw [aI]
 exact hh.2.1.1
 show (h.ai.map _).length ≤ _
 rw [aI]
 exact hh.2.1.1
instance (h:ap) [hh:Q (aj h)]:Q (yR (save h)):=⟨SC hh.h⟩
theorem lC (h:ap) (m:Int) [Q (aj h)]:aF Tryz.prog 180 [A (aq h),I m] (RG [.a (bH (b8 h m))]):=by
 refine aF.w 39 Tryz.func180 fun w g0 _=> ?_
 have hlp:=fun i=>oc h m i
 refine an (rH h m).k ?_
 refine aB ?_ ?_ <;> intro hb
 exact (by rw [SB ‹_›];rfl)
 refine ck [1,2,4,7] [] [7,24] (fun (i:Nat)=>[.set 8 (I i)]) (fun (i:Nat)=>[(7,⟨true,[.own (.sl 1 ((lJ h m i).map aP)), .own (.sl 15 ((e9 h m).aa.map bp)), .own (.sl 1 ((e9 h m).cm.map bS)), .own (.v (.int .i64 (e9 h m).av))]⟩)]) (fun (i:Nat)=>i ≤ 8) (fun (i:Nat)=>8 - i) (0) (by omega) ?_
 refine ⟨hda,fun i hyp N1 bq=> ?_⟩
 have hyp:i ≤ 8:=hyp
 have hli:cX (lJ h m i) 8:=⟨by rw [oc];omega⟩
 refine aB ?_ ?_ <;> intro iz
 refine cI [7,9] [(0,0),(1,0),(2,0),(3,0),(4,0),(5,1),(6,1),(7,1),(8,0),(9,1)] ?_
 refine bu (Jj h m i).k ?_
 refine lH ?_
 refine cg ?_
 refine bq _ _ _ ?_
 refine hY (i + 1) (by omega) (by repeat' first|exact rfl|constructor|(refine dL ?_;rw [D7];exact rfl))
 refine bq _ _ _ ?_
 exact (by have hi8:i=8:=(by omega);subst hi8;rw [O4 ‹_›];rfl)
theorem Dl (h:ap) [Q (aj h)]:aF Tryz.prog 80 [A (aq h)] (RL 4 ((mE h).map wj)):=by
 refine aF.w 20 Tryz.func80 fun w g0 hM=> ?_
 have K4:=(inferInstance:cX h.ai 1048576).h
 have eW:=hM.1.2.1.map
 refine len ?_
 refine ck [1,2,3,8] [3] [3] (fun (i:Nat)=>[.set 9 (I i)]) (fun (i:Nat)=>[(3,⟨false,[.own (.sl 4 ((vV h i).map wj))]⟩)]) (fun (i:Nat)=>i ≤ h.ai.length) (fun (i:Nat)=>h.ai.length - i) (0) (bG _) ?_
 refine ⟨hda,fun i hyp N1 bq=> ?_⟩
 have hyp:i ≤ h.ai.length:=hyp
 have hli:cX (vV h i) 1048576:=⟨by rw [Ia];omega⟩
 refine aB ?_ ?_ <;> intro hb
 refine an (lC h i).k ?_
 refine lH ?_
 refine cg ?_
 refine bq _ _ _ ?_
 refine hY (i + 1) (by omega) (by repeat' first|exact rfl|constructor|(refine dL ?_;rw [Ib];exact rfl))
 refine bq _ _ _ ?_
 exact (by have hi8:i=h.ai.length:=(by omega);subst hi8;rfl)
theorem JB (h:ap) (m:Int) [Q (aj h)]:aF Tryz.prog 37 [A (aq h),I m] (RG [.a (bH (b8 h m))]):=by
 refine aF.w 39 Tryz.func37 fun w g0 _=> ?_
 have hlp:=fun i=>oc h m i
 refine an (Me h m).k ?_
 refine aB ?_ ?_ <;> intro hb
 exact (by rw [SB ‹_›];rfl)
 refine ck [1,2,4,7] [] [7,24] (fun (i:Nat)=>[.set 8 (I i)]) (fun (i:Nat)=>[(7,⟨true,[.own (.sl 1 ((lJ h m i).map aP)), .own (.sl 15 ((e9 h m).aa.map bp)), .own (.sl 1 ((e9 h m).cm.map bS)), .own (.v (.int .i64 (e9 h m).av))]⟩)]) (fun (i:Nat)=>i ≤ 8) (fun (i:Nat)=>8 - i) (0) (by omega) ?_
 refine ⟨hda,fun i hyp N1 bq=> ?_⟩
 have hyp:i ≤ 8:=hyp
 have hli:cX (lJ h m i) 8:=⟨by rw [oc];omega⟩
 refine aB ?_ ?_ <;> intro iz
 refine cI [7,9] [(0,0),(1,0),(2,0),(3,0),(4,0),(5,1),(6,1),(7,1),(8,0),(9,1)] ?_
 refine bu (Ji h m i).k ?_
 refine lH ?_
 refine cg ?_
 refine bq _ _ _ ?_
 refine hY (i + 1) (by omega) (by repeat' first|exact rfl|constructor|(refine dL ?_;rw [D7];exact rfl))
 refine bq _ _ _ ?_
 exact (by have hi8:i=8:=(by omega);subst hi8;rw [O4 ‹_›];rfl)
theorem Dm (h:ap) [Q (aj h)]:aF Tryz.prog 76 [A (aq h)] (RL 4 ((mE h).map wj)):=by
 refine aF.w 20 Tryz.func76 fun w g0 hM=> ?_
 have K4:=(inferInstance:cX h.ai 1048576).h
 have eW:=hM.1.2.1.map
 refine ck [1,2,3] [3] [3] (fun (i:Nat)=>[.set 4 (I i)]) (fun (i:Nat)=>[(3,⟨false,[.own (.sl 4 ((vV h i).map wj))]⟩)]) (fun (i:Nat)=>i ≤ h.ai.length) (fun (i:Nat)=>h.ai.length - i) (0) (bG _) ?_
 refine ⟨hda,fun i hyp N1 bq=> ?_⟩
 have hyp:i ≤ h.ai.length:=hyp
 have hli:cX (vV h i) 1048576:=⟨by rw [Ia];omega⟩
 refine len ?_
 refine aB ?_ ?_ <;> intro hb
 refine an (JB h i).k ?_
 refine lH ?_
 refine cg ?_
 refine bq _ _ _ ?_
 refine hY (i + 1) (by omega) (by repeat' first|exact rfl|constructor|(refine dL ?_;rw [Ib];exact rfl))
 refine bq _ _ _ ?_
 exact (by have hi8:i=h.ai.length:=(by omega);subst hi8;rfl)
theorem O5 (h:ap) [Q (aj h)]:aF Tryz.prog 20 [A (aq h)] (RG [.a (xy (save h))]):=by
 refine aF.w 32 Tryz.func20 fun w g0 hM=> ?_
 have K4:=(inferInstance:cX h.ai 1048576).h
 have eW:=hM.1.2.1.map
 refine bu (Dl h).k ?_
 refine len ?_
 refine ck [2,3,10,11] [] [3,8] (fun (i:Nat)=>[.set 12 (I i)]) (fun (i:Nat)=>[(3,⟨true,[.own (.sl 4 ((mE h).map wj)), .own (.sl 1 (((h.ai.take i).map fun x=>x.bn).map bS)), .own (.sl 1 (((h.ai.take i).map fun x=>x.Own).map bS))]⟩)]) (fun (i:Nat)=>i ≤ h.ai.length) (fun (i:Nat)=>h.ai.length - i) (0) (bG _) ?_
 refine ⟨hda,fun i hyp N1 bq=> ?_⟩
 have hyp:i ≤ h.ai.length:=hyp
 have hlt:(((h.ai.take i).map fun x=>x.bn).map bS).length ≤ 1048576:=by simp;omega
 have hlo:(((h.ai.take i).map fun x=>x.Own).map bS).length ≤ 1048576:=by simp;omega
 refine aB ?_ ?_ <;> intro hb
 ·obtain ⟨x,hx⟩:∃ x,h.ai[i]? = some x:=⟨_,bg (by omega)⟩
  have hxl:=(aM.1 hx).1
  refine dM hx ?_
  skip
  refine cD ?_
  refine cD ?_
  refine cg ?_
  refine bq _ _ _ ?_
  refine hY (i + 1) (by omega) (by repeat' first|exact rfl|constructor|(refine dL ?_;simp [fX,hx,bS];done))
 ·refine bq _ _ _ ?_
  exact (by rw [fu (by omega)];rfl)
theorem O6 (h:ap) [Q (aj h)]:aF Tryz.prog 143 [A (aq h)] (RG [.a (xy (save h))]):=by
 refine aF.w 38 Tryz.func143 fun w g0 hM=> ?_
 have K4:=(inferInstance:cX h.ai 1048576).h
 have eW:=hM.1.2.1.map
 refine bu (Dm h).k ?_
 refine ck [1,2,3] [] [3,7] (fun (i:Nat)=>[.set 4 (I i)]) (fun (i:Nat)=>[(3,⟨true,[.own (.sl 4 ((mE h).map wj)), .own (.sl 1 (((h.ai.take i).map fun x=>x.bn).map bS)), .own (.sl 1 (((h.ai.take i).map fun x=>x.Own).map bS))]⟩)]) (fun (i:Nat)=>i ≤ h.ai.length) (fun (i:Nat)=>h.ai.length - i) (0) (bG _) ?_
 refine ⟨hda,fun i hyp N1 bq=> ?_⟩
 have hyp:i ≤ h.ai.length:=hyp
 have hlt:(((h.ai.take i).map fun x=>x.bn).map bS).length ≤ 1048576:=by simp;omega
 have hlo:(((h.ai.take i).map fun x=>x.Own).map bS).length ≤ 1048576:=by simp;omega
 refine len ?_
 refine aB ?_ ?_ <;> intro hb
 ·obtain ⟨x,hx⟩:∃ x,h.ai[i]? = some x:=⟨_,bg (by omega)⟩
  have hxl:=(aM.1 hx).1
  refine cI [9,11] [(0,0),(1,0),(2,0),(3,0),(4,0),(5,0),(6,0),(7,0),(8,1),(9,1),(10,0),(11,1)] ?_
  refine dM hx ?_
  skip
  refine cD ?_
  refine cI [9,11] [(0,0),(1,0),(2,0),(3,0),(4,0),(5,0),(6,0),(7,0),(8,1),(9,1),(10,0),(11,1)] ?_
  refine dM hx ?_
  skip
  refine cD ?_
  refine cg ?_
  refine bq _ _ _ ?_
  refine hY (i + 1) (by omega) (by repeat' first|exact rfl|constructor|(refine dL ?_;simp [fX,hx,bS];done))
 ·refine bq _ _ _ ?_
  exact (by rw [fu (by omega)];rfl)
end
section
variable {f:FuncId} {m:Int} {a1 a2:List D} {h:ap} {x:aV}
set_option maxRecDepth 100000
set_option maxHeartbeats 8000000
def gw (h:ap) (m:Int) (F:aS→Option aS):Option ap:=if dI h m then (F (b8 h m)).map (kO h m.toNat) else none
theorem vW (h1:eu h=true) (h2:0 ≤ m∧m < h.ai.length):dI h m=true:=by simp only [dI,bh,decide_eq_true_eq];exact ⟨h1,h2⟩
theorem fN (h1:dI h m=true):eu h=true∧0 ≤ m∧m < h.ai.length:=by simpa only [dI,bh,decide_eq_true_eq] using h1
theorem yg (h1:eu h=false ∨ ¬ (0 ≤ m∧m < h.ai.length)):dI h m=false:=by
 cases e:dI h m with
 | false=>rfl
 | true=>
  have:=fN e
  rcases h1 with h1|h1
  rw [h1] at this;cases this.1
  exact absurd this.2 h1
theorem tJ {F:aS→Option aS} (h1:eu h=false ∨ ¬ (0 ≤ m∧m < h.ai.length)):gw h m F=none:=by
 unfold gw
 rw [yg h1]
 rfl
theorem T4 {F:aS→Option aS} (h1:eu h=true) (h2:0 ≤ m∧m < h.ai.length) (h3:(F (b8 h m)).isSome=true):gw h m F=some (kO h m.toNat ((F (b8 h m)).getD (b8 h m))):=by
 unfold gw
 rw [vW h1 h2,if_pos rfl]
 cases e:F (b8 h m) with
 | none=>rw [e] at h3;cases h3
 | some b=>rfl
theorem Ch {F:aS→Option aS} (h1:eu h=true) (h2:0 ≤ m∧m < h.ai.length) (h3:(F (b8 h m)).isSome=true):
  c7 [RD.a (aq ((gw h m F).getD h)),RD.c (.v (.bool (gw h m F).isSome))]=c7 [RD.a (aq (kO h m.toNat ((F (b8 h m)).getD (b8 h m)))),RD.c (.v (.bool (F (b8 h m)).isSome))]:=by
 rw [T4 h1 h2 h3,h3]
 rfl
theorem T5 {F:aS→Option aS} (h3:(F (b8 h m)).isSome=false):gw h m F=none:=by
 unfold gw
 cases e:F (b8 h m) with
 | none=>split <;> rfl
 | some b=>rw [e] at h3;cases h3
theorem y_ {F:aS→Option aS} (h3:(F (b8 h m)).isSome=false):
  c7 [RD.a (aq ((gw h m F).getD h)),RD.c (.v (.bool (gw h m F).isSome))]=c7 [RD.a (aq h),RD.c (.v (.bool (F (b8 h m)).isSome))]:=by
 rw [T5 h3,h3]
 rfl
theorem yh (h:ap) (m:Nat) (x:aV) (b:aS) (hx:h.ai[m]? = some x):aq (kO h m b)=[.sl 1 (h.au.map aP), .sl 9 (((h.ai.map bA).set m (.st [.sl 2 (x.ak.map aT), .sl 1 (x.Out.map aP), .sl 1 (x.bI.map bO), .sl 15 (b.aa.map bp), .sl 1 (x.cm.map bS), .v (.int .i64 x.av), .v (.int .i64 x.bn), .sl 2 (x.Tables.map cz), .v (.int .i64 x.Own)])).set m (.st [.sl 2 (x.ak.map aT), .sl 1 (x.Out.map aP), .sl 1 (x.bI.map bO), .sl 15 (b.aa.map bp), .sl 1 (x.cm.map bS), .v (.int .i64 b.av), .v (.int .i64 x.bn), .sl 2 (x.Tables.map cz), .v (.int .i64 x.Own)])), .sl 4 (h.Buffer.map aC), .sl 4 (h.aD.map aC)]:=by
 unfold kO fT
 rw [lZ hx,cS]
 show [_,D.sl 9 ((h.ai.set m { x with aa:=b.aa,av:=b.av }).map bA),_,_]=_
 rw [bL]
theorem T6 {m:Nat} (hx:h.ai[m]? = some x):kO h m (bR x)=h:=by
 unfold kO fT
 rw [lZ hx]
 show { h with ai:=h.ai.set m x }=h
 rw [qj hx]
theorem ul {F:aS→Option aS} (hm:dI h m=true):(bC h m F).getD h=kO h m.toNat ((F (bR (cK h m.toNat))).getD (bR (cK h m.toNat))):=by
 unfold bC
 rw [hm,if_pos rfl]
 cases F (bR (cK h m.toNat)) with
 | none=>exact (T6 (cO (fN hm).2)).symm
 | some b=>rfl
theorem tK {F:aS→Option aS} (hm:dI h m=true):(bC h m F).isSome=(F (bR (cK h m.toNat))).isSome:=by
 unfold bC
 rw [hm,if_pos rfl]
 cases F (bR (cK h m.toNat)) <;> rfl
theorem Ci {F:aS→Option aS} (hm:dI h m=false):bC h m F=none:=by
 unfold bC
 rw [hm]
 rfl
theorem gY (hx:bt x):a_ (bR x):=⟨⟨by show (jc 8).length ≤ _;decide,fun y hy=>by have:=List.eq_of_mem_replicate (show y ∈ List.replicate 8 [0,0,0,0] from hy);subst this;show (4:Nat) ≤ _;decide⟩,hx.2.2.2.1,hx.2.2.2.2.1⟩
instance (x:aV) [hx:Q (bt x)]:Q (a_ (bR x)):=⟨gY hx.h⟩
theorem SD {m:Nat} {b:aS} (hh:aj h) (hx:h.ai[m]? = some x) (hb:a_ b):aj (kO h m b):=by
 unfold kO fT
 rw [lZ hx]
 have h3:=hh.2.1.2 x (aH hx)
 exact nI hh ⟨h3.1,h3.2.1,h3.2.2.1,hb.2.1,h3.2.2.2.2.1,h3.2.2.2.2.2⟩
theorem tL (h:ap) (m:Int) {F:aS→Option aS} [Q (aj h)] (hf:ep Tryz.prog f) (hF:∀ b,Q (a_ b)→aF Tryz.prog f [A (bH b), .one (.b9 a1)] (RG [.a (bH ((F b).getD b)), .c (.v (.bool (F b).isSome))])) (hS:∀ b,a_ b→a_ ((F b).getD b)):aF Tryz.prog 271 [A (aq h),I m, .fn f [.b9 a1]] (RG [.a (aq ((gw h m F).getD h)), .c (.v (.bool (gw h m F).isSome))]):=by
 refine aF.w 51 Tryz.func271 fun w g0 hM=> ?_
 have K4:=(inferInstance:cX h.ai 1048576).h
 have eW:=hM.1.2.1.map
 refine an (aY h).k ?_
 refine ah (gX h).k ?_
 refine aB ?_ ?_ <;> intro gK
 exact (by rw [tJ (by left;simpa using gK)];rfl)
 refine len ?_
 refine ah (bM _ _).k ?_
 refine aB ?_ ?_ <;> intro hb
 exact (by rw [tJ (by right;omega)];rfl)
 refine an (lC h m).k ?_
 refine Ql (hF (b8 h m) inferInstance).k ?_ (hf:=hf)
 refine aB ?_ ?_ <;> intro iz
 have qb:Q (a_ ((F (b8 h m)).getD (b8 h m))):=⟨hS _ (rU (by assumption:Q (aj h)).h)⟩
 have hx0:=cO (h:=h) (m:=m) (by omega)
 have hml:=(aM.1 hx0).1
 have nW:m.toNat < (h.ai.map bA).length:=by rw [aI];exact hml
 have u5:Q (bt (cK h m.toNat)):=⟨jW.h _ (aH hx0)⟩
 refine cI [8] [(0,0),(1,0),(2,0),(3,0),(4,0),(5,1),(6,0),(7,0),(8,1)] ?_
 refine bu (gq ((F (b8 h m)).getD (b8 h m)).aa).k ?_
 refine bl ?_
 refine aL ‹_› ?_
 refine bl ?_
 refine cJ ?_
 exact (by show _=c7 [RD.a (aq ((gw h m F).getD h)),RD.c (.v (.bool (gw h m F).isSome))];rw [Ch (by simpa using gK) (by omega) ‹_›,yh h m.toNat _ _ hx0];rfl)
 exact (by show _=c7 [RD.a (aq ((gw h m F).getD h)),RD.c (.v (.bool (gw h m F).isSome))];rw [y_ ‹_›];rfl)
theorem lM (h:ap) (m:Int) {F:aS→Option aS} [Q (aj h)] (hf:ep Tryz.prog f) (hF:∀ b,Q (a_ b)→aF Tryz.prog f [A (bH b), .one (.b9 a1), .one (.b9 a2)] (RG [.a (bH ((F b).getD b)), .c (.v (.bool (F b).isSome))])) (hS:∀ b,a_ b→a_ ((F b).getD b)):aF Tryz.prog 271 [A (aq h),I m, .fn f [.b9 a1, .b9 a2]] (RG [.a (aq ((gw h m F).getD h)), .c (.v (.bool (gw h m F).isSome))]):=by
 refine aF.w 51 Tryz.func271 fun w g0 hM=> ?_
 have K4:=(inferInstance:cX h.ai 1048576).h
 have eW:=hM.1.2.1.map
 refine an (aY h).k ?_
 refine ah (gX h).k ?_
 refine aB ?_ ?_ <;> intro gK
 exact (by rw [tJ (by left;simpa using gK)];rfl)
 refine len ?_
 refine ah (bM _ _).k ?_
 refine aB ?_ ?_ <;> intro hb
 exact (by rw [tJ (by right;omega)];rfl)
 refine an (lC h m).k ?_
 refine Ql (hF (b8 h m) inferInstance).k ?_ (hf:=hf)
 refine aB ?_ ?_ <;> intro iz
 have qb:Q (a_ ((F (b8 h m)).getD (b8 h m))):=⟨hS _ (rU (by assumption:Q (aj h)).h)⟩
 have hx0:=cO (h:=h) (m:=m) (by omega)
 have hml:=(aM.1 hx0).1
 have nW:m.toNat < (h.ai.map bA).length:=by rw [aI];exact hml
 have u5:Q (bt (cK h m.toNat)):=⟨jW.h _ (aH hx0)⟩
 refine cI [8] [(0,0),(1,0),(2,0),(3,0),(4,0),(5,1),(6,0),(7,0),(8,1)] ?_
 refine bu (gq ((F (b8 h m)).getD (b8 h m)).aa).k ?_
 refine bl ?_
 refine aL ‹_› ?_
 refine bl ?_
 refine cJ ?_
 exact (by show _=c7 [RD.a (aq ((gw h m F).getD h)),RD.c (.v (.bool (gw h m F).isSome))];rw [Ch (by simpa using gK) (by omega) ‹_›,yh h m.toNat _ _ hx0];rfl)
 exact (by show _=c7 [RD.a (aq ((gw h m F).getD h)),RD.c (.v (.bool (gw h m F).isSome))];rw [y_ ‹_›];rfl)
theorem tM (h:ap) (m:Int) {F:aS→Option aS} {a3:List D} [Q (aj h)] (hf:ep Tryz.prog f) (hF:∀ b,Q (a_ b)→aF Tryz.prog f [A (bH b), .one (.b9 a1), .one (.b9 a2), .one (.b9 a3)] (RG [.a (bH ((F b).getD b)), .c (.v (.bool (F b).isSome))])) (hS:∀ b,a_ b→a_ ((F b).getD b)):aF Tryz.prog 271 [A (aq h),I m, .fn f [.b9 a1, .b9 a2, .b9 a3]] (RG [.a (aq ((gw h m F).getD h)), .c (.v (.bool (gw h m F).isSome))]):=by
 refine aF.w 51 Tryz.func271 fun w g0 hM=> ?_
 have K4:=(inferInstance:cX h.ai 1048576).h
 have eW:=hM.1.2.1.map
 refine an (aY h).k ?_
 refine ah (gX h).k ?_
 refine aB ?_ ?_ <;> intro gK
 exact (by rw [tJ (by left;simpa using gK)];rfl)
 refine len ?_
 refine ah (bM _ _).k ?_
 refine aB ?_ ?_ <;> intro hb
 exact (by rw [tJ (by right;omega)];rfl)
 refine an (lC h m).k ?_
 refine Ql (hF (b8 h m) inferInstance).k ?_ (hf:=hf)
 refine aB ?_ ?_ <;> intro iz
 have qb:Q (a_ ((F (b8 h m)).getD (b8 h m))):=⟨hS _ (rU (by assumption:Q (aj h)).h)⟩
 have hx0:=cO (h:=h) (m:=m) (by omega)
 have hml:=(aM.1 hx0).1
 have nW:m.toNat < (h.ai.map bA).length:=by rw [aI];exact hml
 have u5:Q (bt (cK h m.toNat)):=⟨jW.h _ (aH hx0)⟩
 refine cI [8] [(0,0),(1,0),(2,0),(3,0),(4,0),(5,1),(6,0),(7,0),(8,1)] ?_
 refine bu (gq ((F (b8 h m)).getD (b8 h m)).aa).k ?_
 refine bl ?_
 refine aL ‹_› ?_
 refine bl ?_
 refine cJ ?_
 exact (by show _=c7 [RD.a (aq ((gw h m F).getD h)),RD.c (.v (.bool (gw h m F).isSome))];rw [Ch (by simpa using gK) (by omega) ‹_›,yh h m.toNat _ _ hx0];rfl)
 exact (by show _=c7 [RD.a (aq ((gw h m F).getD h)),RD.c (.v (.bool (gw h m F).isSome))];rw [y_ ‹_›];rfl)
theorem ij (x:aV) [Q (bt x)]:aF Tryz.prog 343 [A (vv x)] (RG [.a (bH (bR x))]):=by
 refine aF.w 14 Tryz.func343 fun w g0 _=> ?_
 refine xP [7,11] [7] [1] (.quiet 1 0 (.quiet 2 0 (.quiet 5 0 (.quiet 6 0 (.quiet 8 1 (.quiet 9 1 (.fork (.alt 0 (.fork (.alt 3 (.fa 4 (.fa 7 (.quiet 10 0 (.fa 11 .done)))) (.alt 4 (.fa 3 (.fa 7 (.quiet 10 0 (.fa 11 .done)))) .stop))) (.alt 4 (.fa 0 (.fa 3 (.fa 7 (.quiet 10 0 (.fa 11 .done))))) .stop))))))))) [2] [] [2] [] [(2,⟨true,[.own (.sl 1 ((jc 8).map aP)), .own (.sl 15 (x.aa.map bp)), .own (.sl 1 (x.cm.map bS)), .own (.v (.int .i64 x.av))]⟩)] ?_
 refine ⟨?_, ?_⟩
 ·repeat' first|exact True.intro|refine And.intro ?_ ?_|(intro _ _)|refine bu (p6 8 (by decide)).k ?_|refine bu (mJ x.aa).k ?_|refine cD ?_|exact rfl
 exact rfl
theorem Ic (h:ap) (m:Nat) (x:aV) (b:aS) [Q (aj h)] [Q (a_ b)] (hx:h.ai[m]? = some x):ng Tryz.prog 344 (aq h) [.one (.agg [.ref ⟨1000000,[],0⟩, .ref ⟨1000000,[],1⟩, .ref ⟨1000000,[],2⟩, .ref ⟨1000000,[],3⟩]),I m,A (bH b)] (RG [.a (aq (kO h m b))]):=by
 refine ng.w 23 Tryz.func344 fun w g0 _=> ?_
 have qx:Q (bt x):=⟨jW.h x (aH hx)⟩
 have hml:=(aM.1 hx).1
 have nW:m < (h.ai.map bA).length:=by rw [aI];exact hml
 refine cI [8] [(0,0),(1,0),(2,0),(3,0),(4,0),(5,1),(6,0),(7,0),(8,1)] ?_
 refine bu (mJ b.aa).k ?_
 refine di ?_
 refine aL ‹_› ?_
 refine di ?_
 refine cJ ?_
 exact (by rw [yh h m x b hx];rfl)
end
end Go.Proofs.YtdliggkohdnipaaGreat.T
