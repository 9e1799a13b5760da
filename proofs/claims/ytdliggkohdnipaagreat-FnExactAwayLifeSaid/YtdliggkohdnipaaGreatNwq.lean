import Derived.Test.YtdliggkohdnipaaGreatNsq
set_option linter.unusedVariables false
set_option linter.unusedSimpArgs false
namespace Go.Proofs.YtdliggkohdnipaaGreat.T
open Go
section
variable {host m p ag:Int} {b:List bP} {i:Nat} {y:bP} {h:ap} {k:cE}
set_option maxRecDepth 100000
set_option maxHeartbeats 8000000
theorem He (hy:b[i]? = some y):dc (b.take (i + 1)) host=dc (b.take i) host ++ if y.Host=host then [] else [y]:=by
 unfold dc
 rw [fX,hy,List.filter_append]
 by_cases h:y.Host=host <;> simp [h]
theorem C4 {b:List bP} {host:Int}:(dc b host).length ≤ b.length:=List.length_filter_le _ _
theorem KM (hy:b[i]? = some y) (h:¬ y.Host=host):(dc (b.take (i + 1)) host).map aC=(dc (b.take i) host).map aC ++ [aC y]:=by rw [He hy,if_neg h,iW];rfl
theorem Ot (hy:b[i]? = some y) (h:y.Host=host):(dc (b.take (i + 1)) host).map aC=(dc (b.take i) host).map aC:=by rw [He hy,if_pos h,List.append_nil]
theorem C5 (h:0 ≤ ag∧ag < k.cG.length∧ag < k.dQ.length):forget k ag=⟨k.cG.set ag.toNat false,k.dQ.set ag.toNat bE⟩:=by
 unfold forget fk put
 rw [decide_eq_true h,if_pos rfl,if_pos h.1,if_pos h.1]
theorem vE (h:¬ (0 ≤ ag∧ag < k.cG.length∧ag < k.dQ.length)):forget k ag=k:=by
 unfold forget fk
 rw [decide_eq_false h]
 rfl
theorem TK (ag:Int) (h:dR k):dR (forget k ag):=by
 by_cases hh:0 ≤ ag∧ag < k.cG.length∧ag < k.dQ.length
 rw [C5 hh]
 exact ⟨by show (k.cG.set _ _).length ≤ _;rw [bD];exact h.1,by show (k.dQ.set _ _).length ≤ _;rw [bD];exact h.2⟩
 rw [vE hh];exact h
def gQ (k:cE) (l:List Int):cE:=l.foldl forget k
theorem yX:∀ (l:List Int) {k:cE},dR k→dR (gQ k l)
 | [],k,h=>h
 | p :: l,k,h=>yX l (TK p h)
instance (k:cE) (l:List Int) [h:Q (dR k)]:Q (dR (gQ k l)):=⟨yX l h.h⟩
theorem D1 {l:List Int} (hp:l[i]? = some p):gQ k (l.take (i + 1))=forget (gQ k (l.take i)) p:=by
 unfold gQ
 rw [fX,hp,List.foldl_append]
 rfl
theorem Ou (t:List aQ) (ag:Int):(kk t ag).length ≤ t.length:=kJ
theorem uQ:dI h m=true ↔ eu h=true∧0 ≤ m∧m < h.ai.length:=by simp [dI]
theorem fD:ee h m p=true ↔ eu h=true∧(0 ≤ m∧m < h.ai.length)∧0 ≤ p∧p ≤ 7:=by simp [ee,and_assoc]
theorem mL (b:List bP) (host:Int) [Q (c4 b)]:aF Tryz.prog 430 [L 4 (b.map aC),I host] (RL 4 ((dc b host).map aC)):=by
 refine aF.w 29 Tryz.func430 fun w g0 hM=> ?_
 have eW:=hM.1.map
 refine ck [0,1,4,5] [5] [5] (fun (i:Nat)=>[.set 6 (I i)]) (fun (i:Nat)=>[(5,⟨false,[.own (.sl 4 ((dc (b.take i) host).map aC))]⟩)]) (fun (i:Nat)=>i ≤ b.length) (fun (i:Nat)=>b.length - i) (0) (bG _) ?_
 refine ⟨hda,fun i hyp N1 bq=> ?_⟩
 have hyp:i ≤ b.length:=hyp
 have hfl:= @C4 (b.take i) host
 have JO:(b.take i).length ≤ b.length:=by rw [e_];omega
 have hbl:=(inferInstance:cX b 1048576).h
 refine len ?_
 refine aB ?_ ?_ <;> intro hb
 ·obtain ⟨y,hy⟩:∃ y,b[i]? = some y:=⟨_,bg (by omega)⟩
  refine dM hy ?_
  skip
  refine aB ?_ ?_ <;> intro iz
  ·refine dM hy ?_
   skip
   refine Gt ?_
   refine cg ?_
   refine bq _ _ _ ?_
   refine hY (i + 1) (by omega) (by repeat' first|exact rfl|constructor|(refine dL ?_;rw [KM hy (by omega)];done))
  ·refine cg ?_
   refine bq _ _ _ ?_
   refine hY (i + 1) (by omega) (by repeat' first|exact rfl|constructor|(refine dL ?_;rw [Ot hy (by omega)];done))
 ·refine bq _ _ _ ?_
  exact (by rw [fu (by omega)];rfl)
theorem BT (e:bP) (host:Int):aF Tryz.prog 417 [A (tW e), .one (.b9 [.v (.int .i64 host)])] (RV (.bool (decide (e.Host=host)))):=by
 refine aF.w 8 Tryz.func417 fun w g0 _=> ?_
 exact ay (by rfl)
theorem AO (b:List bP) (host:Int) [Q (c4 b)]:aF Tryz.prog 400 [L 4 (b.map aC), .fn 417 [.b9 [.v (.int .i64 host)]]] (RL 4 ((dc b host).map aC)):=by
 refine aF.w 25 Tryz.func400 fun w g0 hM=> ?_
 have eW:=hM.1.map
 refine len ?_
 refine ck [1,4,5,9,10] [5] [5] (fun (i:Nat)=>[.set 11 (I i)]) (fun (i:Nat)=>[(5,⟨false,[.own (.sl 4 ((dc (b.take i) host).map aC))]⟩)]) (fun (i:Nat)=>i ≤ b.length) (fun (i:Nat)=>b.length - i) (0) (bG _) ?_
 refine ⟨hda,fun i hyp N1 bq=> ?_⟩
 have hyp:i ≤ b.length:=hyp
 have hfl:= @C4 (b.take i) host
 have JO:(b.take i).length ≤ b.length:=by rw [e_];omega
 have hbl:=(inferInstance:cX b 1048576).h
 refine aB ?_ ?_ <;> intro hb
 ·obtain ⟨y,hy⟩:∃ y,b[i]? = some y:=⟨_,bg (by omega)⟩
  refine dM hy ?_
  skip
  refine VT (BT y host).k ?_
  refine aB ?_ ?_ <;> intro iz
  ·refine Gt ?_
   refine cg ?_
   refine bq _ _ _ ?_
   refine hY (i + 1) (by omega) (by repeat' first|exact rfl|constructor|(refine dL ?_;rw [KM hy (by omega)];done))
  ·refine cg ?_
   refine bq _ _ _ ?_
   refine hY (i + 1) (by omega) (by repeat' first|exact rfl|constructor|(refine dL ?_;rw [Ot hy (by omega)];done))
 ·refine bq _ _ _ ?_
  exact (by rw [fu (by omega)];rfl)
theorem uR (b:List bP) (host:Int) [Q (c4 b)]:aF Tryz.prog 305 [L 4 (b.map aC),I host] (RL 4 ((dc b host).map aC)):=by
 refine aF.w 8 Tryz.func305 fun w g0 _=> ?_
 refine bu (AO b host).k ?_
 exact rfl
theorem uc (k:cE) (ag:Int):aF Tryz.prog 450 [A (ia k),I ag] (RV (.bool (fk k ag))):=by
 refine aF.w 18 Tryz.func450 fun w g0 hM=> ?_
 have eW:=hM.1.1.map
 have F3:=hM.1.2.1.map
 refine len ?_
 refine cg ?_
 refine ah (aE _ _ _).k ?_
 refine aB ?_ ?_ <;> intro YO
 refine len ?_
 exact ay (by first|(refine congrArg Value.bool ?_;rw [dX];simp [fk];omega))
 exact ay (by first|(refine congrArg Value.bool ?_;rw [dX];simp [fk];omega))
theorem ud (k:cE) (ag:Int) [Q (dR k)]:aF Tryz.prog 185 [A (ia k),I ag] (RG [.a (ia (forget k ag))]):=by
 refine aF.w 30 Tryz.func185 fun w g0 hM=> ?_
 have eW:=hM.1.1.map
 have F3:=hM.1.2.1.map
 refine an (k_ _).k ?_
 refine len ?_
 refine ah (bM _ _).k ?_
 refine aB ?_ ?_ <;> intro Py
 refine len ?_
 refine ah (bM _ _).k ?_
 refine aB ?_ ?_ <;> intro hb
 obtain ⟨a,ha⟩:∃ a,k.cG[ag.toNat]? = some a:=⟨_,bg (by omega)⟩
 obtain ⟨z,hz⟩:∃ z,k.dQ[ag.toNat]? = some z:=⟨_,bg (by omega)⟩
 refine bl ?_
 refine aL ‹_› ?_
 refine cI [5] [(0,0),(1,0),(2,0),(3,1),(4,0),(5,1)] ?_
 refine ah (eS).k ?_
 refine bl ?_
 refine aL ‹_› ?_
 exact (by rw [C5 (by omega),show ia ⟨k.cG.set ag.toNat false,k.dQ.set ag.toNat bE⟩=[.sl 1 ((k.cG.map bO).set ag.toNat (bO false)), .sl 2 ((k.dQ.map aT).set ag.toNat (aT bE))] from by simp [ia,bL]];rfl)
 exact (by rw [vE (by omega)];rfl)
 exact (by rw [vE (by omega)];rfl)
theorem uf (k:cE) (ag:Int) [Q (dR k)]:aF Tryz.prog 346 [A (ia k),I ag] (RG [.a (ia (forget k ag))]):=by
 refine aF.w 20 Tryz.func346 fun w g0 hM=> ?_
 have eW:=hM.1.1.map
 have F3:=hM.1.2.1.map
 refine an (lY _).k ?_
 refine ah (uc _ _).k ?_
 refine aB ?_ ?_ <;> intro hb
 have hkp:0 ≤ ag∧ag < k.cG.length∧ag < k.dQ.length:=by simpa [fk] using (by assumption:fk k ag=true)
 obtain ⟨a,ha⟩:∃ a,k.cG[ag.toNat]? = some a:=⟨_,bg (by omega)⟩
 obtain ⟨z,hz⟩:∃ z,k.dQ[ag.toNat]? = some z:=⟨_,bg (by omega)⟩
 refine bl ?_
 refine aL ‹_› ?_
 refine cI [5] [(0,0),(1,0),(2,0),(3,1),(4,0),(5,1)] ?_
 refine ah (cW).k ?_
 refine bl ?_
 refine aL ‹_› ?_
 have hkq:∀ h:fk k ag=false,¬ (0 ≤ ag∧ag < k.cG.length∧ag < k.dQ.length):=fun h=>by simpa [fk] using h
 exact (by rw [C5 (by omega),show ia ⟨k.cG.set ag.toNat false,k.dQ.set ag.toNat bE⟩=[.sl 1 ((k.cG.map bO).set ag.toNat (bO false)), .sl 2 ((k.dQ.map aT).set ag.toNat (aT bE))] from by simp [ia,bL]];rfl)
 have hkq:∀ h:fk k ag=false,¬ (0 ≤ ag∧ag < k.cG.length∧ag < k.dQ.length):=fun h=>by simpa [fk] using h
 exact (by rw [vE (hkq ‹_›)];rfl)
theorem BU (k:cE) (t:List aQ) (ag:Int) [Q (dR k)] [Q (eM t)]:aF Tryz.prog 304 [A (ia k),L 2 (t.map aT),I ag] (RG [.a (ia (iB k t ag))]):=by
 refine aF.w 25 Tryz.func304 fun w g0 _=> ?_
 refine an (k_ _).k ?_
 refine bu (Jb t ag).k ?_
 refine len ?_
 refine ck [6,7,14,15] [] [7,11] (fun (i:Nat)=>[.set 16 (I i)]) (fun (i:Nat)=>[(7,⟨true,[.own (.sl 1 ((gQ k ((kk t ag).take i)).cG.map bO)), .own (.sl 2 ((gQ k ((kk t ag).take i)).dQ.map aT))]⟩)]) (fun (i:Nat)=>i ≤ (kk t ag).length) (fun (i:Nat)=>(kk t ag).length - i) (0) (bG _) ?_
 refine ⟨hda,fun i hyp N1 bq=> ?_⟩
 have hyp:i ≤ (kk t ag).length:=hyp
 have Rp:=Ou t ag
 have JO:=(inferInstance:cX t 1048576).h
 refine aB ?_ ?_ <;> intro hb
 obtain ⟨p,hp⟩:∃ p,(kk t ag)[i]? = some p:=⟨_,bg (by omega)⟩
 refine di ?_
 refine aL ‹_› ?_
 refine an (ud (gQ k ((kk t ag).take i)) p).k ?_
 refine cg ?_
 refine bq _ _ _ ?_
 refine hY (i + 1) (by omega) (by repeat' first|exact rfl|constructor|(refine dL ?_;rw [D1 hp];done))
 refine bq _ _ _ ?_
 exact (by rw [show iB k t ag=(gQ k ((kk t ag).take i)) from by unfold iB gQ;rw [fu (by omega)]];rfl)
theorem tt (k:cE) (t:List aQ) (ag:Int) [Q (dR k)] [Q (eM t)]:aF Tryz.prog 429 [A (ia k),L 2 (t.map aT),I ag] (RG [.a (ia (iB k t ag))]):=by
 refine aF.w 27 Tryz.func429 fun w g0 _=> ?_
 refine an (lY _).k ?_
 refine bu (Ja t ag).k ?_
 refine ck [3,6,7] [] [3,10] (fun (i:Nat)=>[.set 8 (I i)]) (fun (i:Nat)=>[(3,⟨true,[.own (.sl 1 ((gQ k ((kk t ag).take i)).cG.map bO)), .own (.sl 2 ((gQ k ((kk t ag).take i)).dQ.map aT))]⟩)]) (fun (i:Nat)=>i ≤ (kk t ag).length) (fun (i:Nat)=>(kk t ag).length - i) (0) (bG _) ?_
 refine ⟨hda,fun i hyp N1 bq=> ?_⟩
 have hyp:i ≤ (kk t ag).length:=hyp
 have Rp:=Ou t ag
 have JO:=(inferInstance:cX t 1048576).h
 refine len ?_
 refine aB ?_ ?_ <;> intro hb
 obtain ⟨p,hp⟩:∃ p,(kk t ag)[i]? = some p:=⟨_,bg (by omega)⟩
 refine cI [6] [(0,0),(1,0),(2,0),(3,0),(4,0),(5,1),(6,1)] ?_
 refine di ?_
 refine aL ‹_› ?_
 refine an (uf (gQ k ((kk t ag).take i)) p).k ?_
 refine cg ?_
 refine bq _ _ _ ?_
 refine hY (i + 1) (by omega) (by repeat' first|exact rfl|constructor|(refine dL ?_;rw [D1 hp];done))
 refine bq _ _ _ ?_
 exact (by rw [show iB k t ag=(gQ k ((kk t ag).take i)) from by unfold iB gQ;rw [fu (by omega)]];rfl)
theorem sI (h:ap) (m:Int) (ag:Int):aF Tryz.prog 188 [A (aq h),I m,I ag] (RV (.bool (ee h m ag))):=by
 refine aF.w 20 Tryz.func188 fun w g0 hM=> ?_
 have eW:=hM.1.2.1.map
 refine ah (gX _).k ?_
 refine aB ?_ ?_ <;> intro oe
 refine len ?_
 refine ah (bM _ _).k ?_
 refine aB ?_ ?_ <;> intro hg9
 refine ah (bM _ _).k ?_
 exact ay (by refine congrArg Value.bool ?_;rw [dX,fD];simp [*];omega)
 exact ay (by refine congrArg Value.bool ?_;rw [dX,fD];simp [*];done)
 exact ay (by refine congrArg Value.bool ?_;rw [dX,fD];simp [*];done)
theorem rI (h:ap) (m:Int) (ag:Int):aF Tryz.prog 330 [A (aq h),I m,I ag] (RV (.bool (ee h m ag))):=by
 refine aF.w 21 Tryz.func330 fun w g0 hM=> ?_
 have eW:=hM.1.2.1.map
 refine ah (lA _).k ?_
 refine aB ?_ ?_ <;> intro oe
 refine len ?_
 refine cg ?_
 refine ah (aE _ _ _).k ?_
 refine aB ?_ ?_ <;> intro TB
 refine ah (aE _ _ _).k ?_
 exact ay (by refine congrArg Value.bool ?_;rw [dX,fD];simp [*];omega)
 exact ay (by refine congrArg Value.bool ?_;rw [dX,fD];simp [*];omega)
 exact ay (by refine congrArg Value.bool ?_;rw [dX,fD];simp [*];done)
theorem iN (h:ap) (m:Int):aF Tryz.prog 214 [A (aq h),I m] (RV (.bool (dI h m))):=by
 refine aF.w 15 Tryz.func214 fun w g0 hM=> ?_
 have eW:=hM.1.2.1.map
 refine ah (lA _).k ?_
 refine aB ?_ ?_ <;> intro oe
 refine len ?_
 refine cg ?_
 refine ah (aE _ _ _).k ?_
 exact ay (by refine congrArg Value.bool ?_;rw [dX,uQ];simp [*];omega)
 exact ay (by refine congrArg Value.bool ?_;rw [dX,uQ];simp [*];done)
end
section
variable {ag:Int} {i p:Nat} {h:ap}
set_option maxRecDepth 100000
set_option maxHeartbeats 8000000
section
variable {t:List aQ} {ag:Int} {k i:Nat} {s:aQ} {l:List aV} {u:aV} {r:Option (Nat×Nat)}
theorem oi_hit (h:∀ y ∈ t.take k,¬ y.aN=ag) (hs:t[k]? = some s) (hp:s.aN=ag):nA t ag=some k:=by
 obtain ⟨hk,he⟩:=aM.1 hs
 unfold nA
 rw [List.findIdx?_eq_some_iff_getElem]
 refine ⟨hk,by rw [he];exact decide_eq_true hp,fun j hj=> ?_⟩
 have h1:t[j]'(by omega) ∈ t.take k:=by
  rw [List.mem_take_iff_getElem]
  exact ⟨j,by omega,rfl⟩
 simpa using h _ h1
theorem Sb (h:∀ y ∈ t.take k,¬ y.aN=ag) (hk:t.length ≤ k):nA t ag=none:=by
 rw [fu hk] at h
 unfold nA
 rw [List.findIdx?_eq_none_iff]
 exact fun y hy=>decide_eq_false (h y hy)
theorem Sc (h:∀ y ∈ t.take k,¬ y.aN=ag) (hs:t[k]? = some s) (hp:¬ s.aN=ag):∀ y ∈ t.take (k + 1),¬ y.aN=ag:=by
 rw [fX,hs]
 intro y hy
 rcases xa.1 hy with hy|hy
 exact h y hy
 rw [o5.1 hy];exact hp
theorem Sd (hu:l[i]? = some u):l.drop i=u :: l.drop (i + 1):=by
 obtain ⟨hi,he⟩:=aM.1 hu
 rw [Bg hi,he]
theorem ot_hit (h:fp (l.drop i) ag i=r) (hu:l[i]? = some u) (ho:nA u.ak ag=some k):r=some (i,k):=by
 rw [Sd hu] at h
 rw [← h]
 unfold fp
 rw [ho]
theorem Se (h:fp (l.drop i) ag i=r) (hu:l[i]? = some u) (ho:nA u.ak ag=none):fp (l.drop (i + 1)) ag (i + 1)=r:=by
 rw [Sd hu] at h
 rw [← h]
 conv=>rhs;unfold fp
 rw [ho]
theorem ot_end (h:fp (l.drop i) ag i=r) (hi:l.length ≤ i):r=none:=by
 rw [List.drop_of_length_le hi] at h
 exact h.symm
end
def oM (q:Option (Nat×Nat)):Int:=(q.map fun a=>(a.1:Int)).getD (-1)
def oP (q:Option (Nat×Nat)):Int:=(q.map fun a=>(a.2:Int)).getD (-1)
theorem Wt {q:Option (Nat×Nat)}:oM q < 0 ↔ q=none:=by
 cases q with
 | none=>simp [oM]
 | some a=>simp [oM]
theorem Sf (hp:¬ 0 ≤ ag):bV h ag=none:=if_neg hp
theorem Wu (hp:0 ≤ ag):bV h ag=fp h.ai ag 0:=if_pos hp
theorem Sg {k:Nat} {u:aV} {s:aQ} (hp:0 ≤ ag) (h1:fp (h.ai.drop i) ag i=fp h.ai ag 0) (hu:h.ai[i]? = some u) (h2:∀ y ∈ u.ak.take k,¬ y.aN=ag) (hs:u.ak[k]? = some s) (he:s.aN=ag):bV h ag=some (i,k):=by
 rw [Wu hp]
 exact ot_hit h1 hu (oi_hit h2 hs he)
theorem Sh (h1:fp (h.ai.drop i) ag i=fp h.ai ag 0) (hi:h.ai.length ≤ i):bV h ag=none:=by
 unfold bV
 rw [ot_end h1 hi]
 split <;> rfl
theorem Ov (hp:oM (bV h p) < 0):(dn (oU h) (p + 1)).map bS=(dn (oU h) p).map bS ++ [bS p]:=by
 have e:oU h p=true:=by unfold oU;rw [Wt.1 hp];rfl
 rw [c_,e,iW]
 rfl
theorem Si (hp:¬ oM (bV h p) < 0):(dn (oU h) (p + 1)).map bS=(dn (oU h) p).map bS:=by
 have e:oU h p=false:=by
  cases h1:bV h p with
  | none=>exact absurd (Wt.2 h1) hp
  | some a=>unfold oU;rw [h1];rfl
 rw [c_,e]
 simp
theorem Ox (h1:i ≤ h.au.length) (h2:h.au.length ≤ i):fj h=dn (oU h) i:=by rw [show i=h.au.length from Nat.le_antisymm h1 h2];rfl
theorem nV (h:ap) (ag:Int) [Q (aj h)]:aF Tryz.prog 485 [A (aq h),I ag] (RG [.c (.v (.int .i64 (oM (bV h ag)))), .c (.v (.int .i64 (oP (bV h ag))))]):=by
 refine aF.w 44 Tryz.func485 fun w g0 hM=> ?_
 have eW:=hM.1.2.1.map
 refine ck [1,2] [] [] (fun (i:Nat)=>[.set 6 (I i)]) (fun (i:Nat)=>[]) (fun (i:Nat)=>(i ≤ h.ai.length)∧(fp (h.ai.drop i) ag i=fp h.ai ag 0)) (fun (i:Nat)=>h.ai.length - i) (0) (⟨bG _,rfl⟩) ?_
 refine ⟨hda,fun i hyp N1 bq=> ?_⟩
 have hyp:(i ≤ h.ai.length)∧(fp (h.ai.drop i) ag i=fp h.ai ag 0):=hyp
 have Es:=hyp.1
 refine len ?_
 refine aB ?_ ?_ <;> intro Py
 ·refine aB ?_ ?_ <;> intro hb
  ·obtain ⟨u,hu⟩:∃ u,h.ai[i]? = some u:=⟨_,bg (by omega)⟩
   have qx:Q (bt u):=⟨jW.h u (aH hu)⟩
   have Rp:=(inferInstance:cX u.ak 1048576).h
   refine ck [1,2,6] [] [] (fun (k:Nat)=>[.set 7 (I k)]) (fun (k:Nat)=>[]) (fun (k:Nat)=>k ≤ u.ak.length∧∀ y ∈ u.ak.take k,¬ y.aN=ag) (fun (k:Nat)=>u.ak.length - k) (0) (⟨bG _,by simp⟩) ?_
   refine ⟨hda,fun k fq N2 oL=> ?_⟩
   have fq:k ≤ u.ak.length∧∀ y ∈ u.ak.take k,¬ y.aN=ag:=fq
   have On:=fq.1
   refine dM hu ?_
   skip
   skip
   refine len ?_
   refine aB ?_ ?_ <;> intro iz
   ·obtain ⟨s,hs⟩:∃ s,u.ak[k]? = some s:=⟨_,bg (by omega)⟩
    refine dM hu ?_
    skip
    skip
    refine dM hs ?_
    skip
    skip
    refine aB ?_ ?_ <;> intro tr
    ·refine oL _ _ _ ?_
     refine bq _ _ _ ?_
     exact (by rw [Sg (by omega) hyp.2 hu fq.2 hs ‹_›];rfl)
    ·refine cg ?_
     refine oL _ _ _ ?_
     refine hY (k + 1) (⟨by omega,Sc fq.2 hs ‹_›⟩)
   ·refine oL _ _ _ ?_
    refine cg ?_
    refine bq _ _ _ ?_
    refine hY (i + 1) (⟨by omega,Se hyp.2 hu (Sb fq.2 (by omega))⟩)
  ·refine bq _ _ _ ?_
   exact (by rw [Sf (by omega)];rfl)
 ·refine bq _ _ _ ?_
  exact (by rw [Sh hyp.2 (by omega)];rfl)
theorem sJ (h:ap) (ag:Int) [Q (aj h)]:aF Tryz.prog 478 [A (aq h),I ag] (RG [.c (.v (.int .i64 (oM (bV h ag)))), .c (.v (.int .i64 (oP (bV h ag))))]):=by
 refine aF.w 36 Tryz.func478 fun w g0 hM=> ?_
 have eW:=hM.1.2.1.map
 refine aB ?_ ?_ <;> intro hb
 ·exact (by rw [Sf (by omega)];rfl)
 ·refine len ?_
  refine ck [1,13,14] [] [] (fun (i:Nat)=>[.set 15 (I i)]) (fun (i:Nat)=>[]) (fun (i:Nat)=>(i ≤ h.ai.length)∧(fp (h.ai.drop i) ag i=fp h.ai ag 0)) (fun (i:Nat)=>h.ai.length - i) (0) (⟨bG _,rfl⟩) ?_
  refine ⟨hda,fun i hyp N1 bq=> ?_⟩
  have hyp:(i ≤ h.ai.length)∧(fp (h.ai.drop i) ag i=fp h.ai ag 0):=hyp
  have Es:=hyp.1
  refine aB ?_ ?_ <;> intro iz
  ·obtain ⟨u,hu⟩:∃ u,h.ai[i]? = some u:=⟨_,bg (by omega)⟩
   have qx:Q (bt u):=⟨jW.h u (aH hu)⟩
   have Rp:=(inferInstance:cX u.ak 1048576).h
   refine dM hu ?_
   skip
   refine len ?_
   refine ck [1,6,13,14,15,21,22] [] [] (fun (k:Nat)=>[.set 23 (I k)]) (fun (k:Nat)=>[]) (fun (k:Nat)=>k ≤ u.ak.length∧∀ y ∈ u.ak.take k,¬ y.aN=ag) (fun (k:Nat)=>u.ak.length - k) (0) (⟨bG _,by simp⟩) ?_
   refine ⟨hda,fun k fq N2 oL=> ?_⟩
   have fq:k ≤ u.ak.length∧∀ y ∈ u.ak.take k,¬ y.aN=ag:=fq
   have On:=fq.1
   refine aB ?_ ?_ <;> intro tr
   ·obtain ⟨s,hs⟩:∃ s,u.ak[k]? = some s:=⟨_,bg (by omega)⟩
    refine dM hs ?_
    skip
    refine aB ?_ ?_ <;> intro AJ
    ·refine oL _ _ _ ?_
     refine bq _ _ _ ?_
     exact (by rw [Sg (by omega) hyp.2 hu fq.2 hs ‹_›];rfl)
    ·refine cg ?_
     refine oL _ _ _ ?_
     refine hY (k + 1) (⟨by omega,Sc fq.2 hs ‹_›⟩)
   ·refine oL _ _ _ ?_
    refine cg ?_
    refine bq _ _ _ ?_
    refine hY (i + 1) (⟨by omega,Se hyp.2 hu (Sb fq.2 (by omega))⟩)
  ·refine bq _ _ _ ?_
   exact (by rw [Sh hyp.2 (by omega)];rfl)
theorem lB (h:ap) [Q (aj h)]:aF Tryz.prog 484 [A (aq h)] (RL 1 ((fj h).map bS)):=by
 refine aF.w 28 Tryz.func484 fun w g0 hM=> ?_
 have eW:=hM.1.1.map
 refine ck [1,2,3] [3] [3] (fun (i:Nat)=>[.set 4 (I i)]) (fun (i:Nat)=>[(3,⟨false,[.own (.sl 1 ((dn (oU h) i).map bS))]⟩)]) (fun (i:Nat)=>i ≤ h.au.length) (fun (i:Nat)=>h.au.length - i) (0) (bG _) ?_
 refine ⟨hda,fun i hyp N1 bq=> ?_⟩
 have hyp:i ≤ h.au.length:=hyp
 have hr:= @kJ (oU h) i
 have hml:=(inferInstance:cX h.au 1048576).h
 refine len ?_
 refine aB ?_ ?_ <;> intro hb
 refine an (nV h i).k ?_
 refine aB ?_ ?_ <;> intro iz
 refine Gt ?_
 refine cg ?_
 refine bq _ _ _ ?_
 refine hY (i + 1) (by omega) (by repeat' first|exact rfl|constructor|(refine dL ?_;rw [Ov ‹_›];done))
 refine cg ?_
 refine bq _ _ _ ?_
 refine hY (i + 1) (by omega) (by repeat' first|exact rfl|constructor|(refine dL ?_;rw [Si ‹_›];done))
 refine bq _ _ _ ?_
 exact (by rw [Ox hyp (by omega)];rfl)
theorem ug (h:ap) [Q (aj h)]:aF Tryz.prog 410 [A (aq h)] (RL 1 ((fj h).map bS)):=by
 refine aF.w 28 Tryz.func410 fun w g0 hM=> ?_
 have eW:=hM.1.1.map
 refine len ?_
 refine ck [1,2,3,10] [3] [3] (fun (i:Nat)=>[.set 11 (I i)]) (fun (i:Nat)=>[(3,⟨false,[.own (.sl 1 ((dn (oU h) i).map bS))]⟩)]) (fun (i:Nat)=>i ≤ h.au.length) (fun (i:Nat)=>h.au.length - i) (0) (bG _) ?_
 refine ⟨hda,fun i hyp N1 bq=> ?_⟩
 have hyp:i ≤ h.au.length:=hyp
 have hr:= @kJ (oU h) i
 have hml:=(inferInstance:cX h.au 1048576).h
 refine aB ?_ ?_ <;> intro hb
 refine an (sJ h i).k ?_
 refine aB ?_ ?_ <;> intro iz
 refine Gt ?_
 refine cg ?_
 refine bq _ _ _ ?_
 refine hY (i + 1) (by omega) (by repeat' first|exact rfl|constructor|(refine dL ?_;rw [Ov ‹_›];done))
 refine cg ?_
 refine bq _ _ _ ?_
 refine hY (i + 1) (by omega) (by repeat' first|exact rfl|constructor|(refine dL ?_;rw [Si ‹_›];done))
 refine bq _ _ _ ?_
 exact (by rw [Ox hyp (by omega)];rfl)
end
section
variable {p:Int} {k m:Nat} {g:ax} {h:ap} {t:cE} {x:aV} {s:aQ}
set_option maxRecDepth 100000
set_option maxHeartbeats 8000000
def q7 (x:aV) (p:Int) (k:Nat):List cE:=(fm x p).take k ++ x.Tables.drop k
theorem oA (h:x.Tables.length=x.aa.length):(fm x p).length=x.aa.length:=by simp [fm,h]
theorem Oy (ht:x.Tables[k]? = some t) (hg:x.aa[k]? = some g):(fm x p)[k]? = some (iB t g.Live p):=by
 unfold fm
 rw [List.getElem?_zipWith,ht,hg]
theorem Oz:q7 x p 0=x.Tables:=by simp [q7]
theorem AP (h:x.Tables.length=x.aa.length) (hk:k ≤ x.aa.length):(q7 x p k).length=x.aa.length:=by
 simp only [q7,o4,e_,oA h,List.length_drop]
 omega
theorem AQ (h:x.Tables.length=x.aa.length) (ht:x.Tables[k]? = some t):(q7 x p k)[k]? = some t:=by
 have hk:=(aM.1 ht).1
 unfold q7
 rw [nO (by rw [e_,oA h];omega),e_,oA h,Nat.min_eq_left (by omega),Nat.sub_self,List.getElem?_drop]
 exact ht
theorem OA (h:x.Tables.length=x.aa.length) (ht:x.Tables[k]? = some t) (hg:x.aa[k]? = some g):q7 x p (k + 1)=(q7 x p k).set k (iB t g.Live p):=by
 have hk:=(aM.1 ht).1
 have hl:((fm x p).take k).length=k:=by rw [e_,oA h];omega
 unfold q7
 rw [fX,Oy ht hg,List.set_append_right _ _ (by omega),hl,Nat.sub_self,Bg hk,List.set_cons_zero,rX]
 rfl
theorem vF (h:x.Tables.length=x.aa.length) (hk:k=x.aa.length):q7 x p k=fm x p:=by
 subst hk
 unfold q7
 rw [fu (by rw [oA h];omega),List.drop_eq_nil_of_le (by omega),List.append_nil]
def dy (x:aV) (p:Int) (k:Nat):aV:={ x with Tables:=q7 x p k }
theorem C6:dy x p 0=x:=by unfold dy;rw [Oz]
theorem Hf {α:Type} {xs:List α} {x: α} (h:xs[m]? = some x):xs.set m x=xs:=by
 apply List.ext_getElem?
 intro j
 rw [nN]
 split
 rename_i e
 subst e
 rw [h]
 split
 rfl
 rename_i hl
 exact absurd (aM.1 h).1 hl
 rfl
theorem dS {α:Type} {xs:List α} {x y: α} (h:xs[m]? = some x):(xs.set m y)[m]? = some y:=by
 have:=(aM.1 h).1
 rw [nN,if_pos rfl,if_pos this]
def spoilt (h:ap) (m:Nat) (x:aV) (p:Int) (s:aQ):ap:=
 {h with ai:=h.ai.set m { x with Tables:=fm x p },Buffer:=if s.aN= -1 then h.Buffer else dc h.Buffer s.aN,aD:=if s.aN= -1 then h.aD else dc h.aD s.aN }
theorem C7 (p_:x.Tables.length=x.aa.length) (ht:x.Tables[k]? = some t) (hg:x.aa[k]? = some g):
  (h.ai.set m (dy x p (k + 1))).map bA=((h.ai.set m (dy x p k)).map bA).set m (.st [.sl 2 ((dy x p k).ak.map aT), .sl 1 ((dy x p k).Out.map aP), .sl 1 ((dy x p k).bI.map bO), .sl 15 ((dy x p k).aa.map bp), .sl 1 ((dy x p k).cm.map bS),
   .v (.int .i64 (dy x p k).av), .v (.int .i64 (dy x p k).bn), .sl 2 (((dy x p k).Tables.map cz).set k (.st [.sl 1 ((iB t g.Live p).cG.map bO), .sl 2 ((iB t g.Live p).dQ.map aT)])), .v (.int .i64 (dy x p k).Own)]):=by
 rw [bL,bL,cS]
 congr 1
 unfold dy
 rw [OA p_ ht hg]
 show D.st _=D.st _
 simp only [vv,bL]
theorem Wv (p_:x.Tables.length=x.aa.length) (hk:k=x.aa.length) (hs:s.aN= -1):
  aq (spoilt h m x p s)=[.sl 1 (h.au.map aP), .sl 9 ((h.ai.set m (dy x p k)).map bA), .sl 4 (h.Buffer.map aC), .sl 4 (h.aD.map aC)]:=by
 unfold spoilt dy
 rw [vF p_ hk,if_pos hs,if_pos hs]
theorem Ww (p_:x.Tables.length=x.aa.length) (hk:k=x.aa.length) (hs:¬ s.aN= -1):
  aq (spoilt h m x p s)=[.sl 1 (h.au.map aP), .sl 9 ((h.ai.set m (dy x p k)).map bA), .sl 4 ((dc h.Buffer s.aN).map aC), .sl 4 ((dc h.aD s.aN).map aC)]:=by
 unfold spoilt dy
 rw [vF p_ hk,if_neg hs,if_neg hs]
theorem tu (h:ap) (m:Nat) (x:aV) (p:Int) (s:aQ) (hx:h.ai[m]? = some x) (p_:x.Tables.length=x.aa.length) [Q (aj h)]:wg Tryz.prog 189 (aq h) 1 [.one (.ptr ⟨1000001,[],0⟩),I m,I p,A (iF s)] (zx (aq (spoilt h m x p s)) (.mj [])):=by
 refine wg.w 71 Tryz.func189 rfl fun w g0 _=> ?_
 have qx:Q (bt x):=⟨jW.h x (aH hx)⟩
 have hml:=(aM.1 hx).1
 have QC:=(inferInstance:cX x.aa 1048576).h
 refine di ?_
 refine aL ‹_› ?_
 refine aL ‹_› ?_
 refine len ?_
 refine ck [0,2,7,8,20] [] [1000001] (fun (k:Nat)=>[.set 21 (I k)]) (fun (k:Nat)=>[(1000001,⟨true,[.own (.sl 1 (h.au.map aP)), .own (.sl 9 (((h.ai.set m (dy x p k)).map bA))), .own (.sl 4 (h.Buffer.map aC)), .own (.sl 4 (h.aD.map aC))]⟩)]) (fun (k:Nat)=>k ≤ x.aa.length) (fun (k:Nat)=>x.aa.length - k) (0) (bG _) ?_
 refine ⟨(hda (by repeat' first|exact rfl|constructor|(refine dL ?_;rw [C6,Hf hx];done))),fun k hyp N1 bq=> ?_⟩
 have hyp:k ≤ x.aa.length:=hyp
 have hm:=dS (y:=dy x p k) hx
 have JO:(dy x p k).Tables.length=x.aa.length:=AP (p:=p) p_ hyp
 have hgk:(dy x p k).aa.length=x.aa.length:=rfl
 refine aB ?_ ?_ <;> intro hb
 obtain ⟨t,ht⟩:∃ t,x.Tables[k]? = some t:=⟨_,bg (by omega)⟩
 obtain ⟨g,hg⟩:∃ g,x.aa[k]? = some g:=⟨_,bg (by omega)⟩
 have htk:(dy x p k).Tables[k]? = some t:=AQ p_ ht
 have hgk2:(dy x p k).aa[k]? = some g:=hg
 have qt:Q (dR t):=⟨jW.h t (aH ht)⟩
 have qg:Q (aJ g):=⟨jW.h g (aH hg)⟩
 refine cI [23] [(0,0),(1,0),(2,0),(3,0),(4,0),(5,0),(6,0),(7,0),(8,0),(9,0),(10,0),(11,0),(12,0),(13,0),(14,0),(15,0),(16,0),(17,0),(18,0),(19,0),(20,0),(21,1),(22,0),(23,1)] ?_
 refine aL ‹_› ?_
 refine aL ‹_› ?_
 refine aL ‹_› ?_
 refine di ?_
 refine aL ‹_› ?_
 refine aL ‹_› ?_
 refine aL ‹_› ?_
 refine aL ‹_› ?_
 refine di ?_
 refine aL ‹_› ?_
 refine aL ‹_› ?_
 refine an (BU t g.Live p).k ?_ (by repeat first|exact rfl|refine fi.mk (by exact WD.w) ?_|refine aL ‹_› ?_)
 refine aL ‹_› ?_
 refine di ?_
 refine aL ‹_› ?_
 refine aL ‹_› ?_
 refine cg ?_
 refine bq _ _ _ ?_
 refine hY (k + 1) (by omega) (by repeat' first|exact rfl|constructor|(refine dL ?_;rw [C7 p_ ht hg];done))
 refine bq _ _ _ ?_
 refine aB ?_ ?_ <;> intro iz
 refine cI [10] [(0,0),(1,0),(2,0),(3,0),(4,0),(5,0),(6,0),(7,1),(8,0),(9,0),(10,1)] ?_
 refine bu (uR _ s.aN).k ?_
 refine cI [10] [(0,0),(1,0),(2,0),(3,0),(4,0),(5,0),(6,0),(7,1),(8,0),(9,0),(10,1)] ?_
 refine bu (uR _ s.aN).k ?_
 exact ⟨by (rw [Ww (k:=k) p_ (by omega) (by omega)];done),rfl⟩
 exact ⟨by (rw [Wv (k:=k) p_ (by omega) (by omega)];done),rfl⟩
end
end Go.Proofs.YtdliggkohdnipaaGreat.T
