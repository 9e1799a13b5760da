import Derived.Test.YtdliggkohdnipaaGreatNsr
set_option linter.unusedVariables false
set_option linter.unusedSimpArgs false
namespace Go.Proofs.YtdliggkohdnipaaGreat.T
open Go
section
variable {host m p ag:Int} {b:List bt} {i:Nat} {y:bt} {h:an} {k:bQ}
set_option maxRecDepth 100000
set_option maxHeartbeats 8000000
theorem Fu (hy:b[i]? = some y):cV (b.take (i + 1)) host=cV (b.take i) host ++ if y.Host=host then [] else [y]:=by
 unfold cV
 rw [List.take_add_one,hy,List.filter_append]
 by_cases h:y.Host=host <;> simp [h]
theorem BN {b:List bt} {host:Int}:(cV b host).length ≤ b.length:=List.length_filter_le _ _
theorem Jc (hy:b[i]? = some y) (h:¬ y.Host=host):(cV (b.take (i + 1)) host).map aA=(cV (b.take i) host).map aA ++ [aA y]:=by rw [Fu hy,if_neg h,List.map_append];rfl
theorem MV (hy:b[i]? = some y) (h:y.Host=host):(cV (b.take (i + 1)) host).map aA=(cV (b.take i) host).map aA:=by rw [Fu hy,if_pos h,List.append_nil]
theorem BO (h:0 ≤ ag∧ag < k.bY.length∧ag < k.c8.length):forget k ag=⟨k.bY.set ag.toNat false,k.c8.set ag.toNat bu⟩:=by
 unfold forget eH put
 rw [decide_eq_true h,if_pos rfl,if_pos h.1,if_pos h.1]
theorem ua (h:¬ (0 ≤ ag∧ag < k.bY.length∧ag < k.c8.length)):forget k ag=k:=by
 unfold forget eH
 rw [decide_eq_false h]
 rfl
theorem RZ (ag:Int) (h:de k):de (forget k ag):=by
 by_cases hh:0 ≤ ag∧ag < k.bY.length∧ag < k.c8.length
 rw [BO hh]
 exact ⟨by show (k.bY.set _ _).length ≤ _;rw [List.length_set];exact h.1,by show (k.c8.set _ _).length ≤ _;rw [List.length_set];exact h.2⟩
 rw [ua hh];exact h
def gh (k:bQ) (l:List Int):bQ:=l.foldl forget k
theorem xg:∀ (l:List Int) {k:bQ},de k→de (gh k l)
 | [],k,h=>h
 | p :: l,k,h=>xg l (RZ p h)
instance (k:bQ) (l:List Int) [h:Q (de k)]:Q (de (gh k l)):=⟨xg l h.h⟩
theorem CG {l:List Int} (hp:l[i]? = some p):gh k (l.take (i + 1))=forget (gh k (l.take i)) p:=by
 unfold gh
 rw [List.take_add_one,hp,List.foldl_append]
 rfl
theorem MW (t:List aL) (ag:Int):(jx t ag).length ≤ t.length:=gQ
theorem s7:cO h m=true ↔ dL h=true∧0 ≤ m∧m < h.ap.length:=by simp [cO]
theorem eS:dG h m p=true ↔ dL h=true∧(0 ≤ m∧m < h.ap.length)∧0 ≤ p∧p ≤ 7:=by simp [dG,and_assoc]
theorem k7 (b:List bt) (host:Int) [Q (dh b)]:aF Tryz.prog 430 [L 4 (b.map aA),I host] (RL 4 ((cV b host).map aA)):=by
 refine aF.w 29 Tryz.func430 fun w g0 hM=> ?_
 have eK:=hM.1.map
 refine cI [0,1,4,5] [5] [5] (fun (i:Nat)=>[.set 6 (I i)]) (fun (i:Nat)=>[(5,⟨false,[.own (.sl 4 ((cV (b.take i) host).map aA))]⟩)]) (fun (i:Nat)=>i ≤ b.length) (fun (i:Nat)=>b.length - i) (0) (Nat.zero_le _) ?_
 refine ⟨hda,fun i hyp N1 bw=> ?_⟩
 have hyp:i ≤ b.length:=hyp
 have hfl:= @BN (b.take i) host
 have LG:(b.take i).length ≤ b.length:=by rw [List.length_take];omega
 have hbl:=(inferInstance:dc b 1048576).h
 refine len ?_
 refine aB ?_ ?_ <;> intro hb
 ·obtain ⟨y,hy⟩:∃ y,b[i]? = some y:=⟨_,List.getElem?_eq_getElem (by omega)⟩
  refine fN hy ?_
  skip
  refine aB ?_ ?_ <;> intro gY
  ·refine fN hy ?_
   skip
   refine ES ?_
   refine cD ?_
   refine bw _ _ _ ?_
   refine iF (i + 1) (by omega) (by repeat' first|exact rfl|refine And.intro ?_ ?_|exact True.intro|(refine eV ?_;rw [Jc hy (by omega)];done))
  ·refine cD ?_
   refine bw _ _ _ ?_
   refine iF (i + 1) (by omega) (by repeat' first|exact rfl|refine And.intro ?_ ?_|exact True.intro|(refine eV ?_;rw [MV hy (by omega)];done))
 ·refine bw _ _ _ ?_
  exact (by rw [List.take_of_length_le (by omega)];rfl)
theorem Av (e:bt) (host:Int):aF Tryz.prog 417 [A (nQ e), .one (.bV [.v (.int .i64 host)])] (RV (.bool (decide (e.Host=host)))):=by
 refine aF.w 8 Tryz.func417 fun w g0 _=> ?_
 exact ay (by rfl)
theorem y4 (b:List bt) (host:Int) [Q (dh b)]:aF Tryz.prog 400 [L 4 (b.map aA), .fn 417 [.bV [.v (.int .i64 host)]]] (RL 4 ((cV b host).map aA)):=by
 refine aF.w 25 Tryz.func400 fun w g0 hM=> ?_
 have eK:=hM.1.map
 refine len ?_
 refine cI [1,4,5,9,10] [5] [5] (fun (i:Nat)=>[.set 11 (I i)]) (fun (i:Nat)=>[(5,⟨false,[.own (.sl 4 ((cV (b.take i) host).map aA))]⟩)]) (fun (i:Nat)=>i ≤ b.length) (fun (i:Nat)=>b.length - i) (0) (Nat.zero_le _) ?_
 refine ⟨hda,fun i hyp N1 bw=> ?_⟩
 have hyp:i ≤ b.length:=hyp
 have hfl:= @BN (b.take i) host
 have LG:(b.take i).length ≤ b.length:=by rw [List.length_take];omega
 have hbl:=(inferInstance:dc b 1048576).h
 refine aB ?_ ?_ <;> intro hb
 ·obtain ⟨y,hy⟩:∃ y,b[i]? = some y:=⟨_,List.getElem?_eq_getElem (by omega)⟩
  refine fN hy ?_
  skip
  refine T8 (Av y host).k ?_
  refine aB ?_ ?_ <;> intro gY
  ·refine ES ?_
   refine cD ?_
   refine bw _ _ _ ?_
   refine iF (i + 1) (by omega) (by repeat' first|exact rfl|refine And.intro ?_ ?_|exact True.intro|(refine eV ?_;rw [Jc hy (by omega)];done))
  ·refine cD ?_
   refine bw _ _ _ ?_
   refine iF (i + 1) (by omega) (by repeat' first|exact rfl|refine And.intro ?_ ?_|exact True.intro|(refine eV ?_;rw [MV hy (by omega)];done))
 ·refine bw _ _ _ ?_
  exact (by rw [List.take_of_length_le (by omega)];rfl)
theorem s8 (b:List bt) (host:Int) [Q (dh b)]:aF Tryz.prog 305 [L 4 (b.map aA),I host] (RL 4 ((cV b host).map aA)):=by
 refine aF.w 8 Tryz.func305 fun w g0 _=> ?_
 refine bk (y4 b host).k ?_
 exact rfl
theorem sx (k:bQ) (ag:Int):aF Tryz.prog 450 [A (fU k),I ag] (RV (.bool (eH k ag))):=by
 refine aF.w 18 Tryz.func450 fun w g0 hM=> ?_
 have eK:=hM.1.1.map
 have Hg:=hM.1.2.1.map
 refine len ?_
 refine cD ?_
 refine ah (aE _ _ _).k ?_
 refine aB ?_ ?_ <;> intro W9
 refine len ?_
 exact ay (by first|(refine congrArg Value.bool ?_;rw [Bool.eq_iff_iff];simp [eH];omega))
 exact ay (by first|(refine congrArg Value.bool ?_;rw [Bool.eq_iff_iff];simp [eH];omega))
theorem sy (k:bQ) (ag:Int) [Q (de k)]:aF Tryz.prog 185 [A (fU k),I ag] (RG [.a (fU (forget k ag))]):=by
 refine aF.w 30 Tryz.func185 fun w g0 hM=> ?_
 have eK:=hM.1.1.map
 have Hg:=hM.1.2.1.map
 refine ak (j9 _).k ?_
 refine len ?_
 refine ah (bA _ _).k ?_
 refine aB ?_ ?_ <;> intro OT
 refine len ?_
 refine ah (bA _ _).k ?_
 refine aB ?_ ?_ <;> intro hb
 obtain ⟨a,ha⟩:∃ a,k.bY[ag.toNat]? = some a:=⟨_,List.getElem?_eq_getElem (by omega)⟩
 obtain ⟨z,hz⟩:∃ z,k.c8[ag.toNat]? = some z:=⟨_,List.getElem?_eq_getElem (by omega)⟩
 refine aZ ?_
 refine aI (by assumption) ?_
 refine cJ [5] [(0,0),(1,0),(2,0),(3,1),(4,0),(5,1)] ?_
 refine ah (eM).k ?_
 refine aZ ?_
 refine aI (by assumption) ?_
 exact (by rw [BO (by omega),show fU ⟨k.bY.set ag.toNat false,k.c8.set ag.toNat bu⟩=[.sl 1 ((k.bY.map bz).set ag.toNat (bz false)), .sl 2 ((k.c8.map aQ).set ag.toNat (aQ bu))] from by simp [fU,List.map_set]];rfl)
 exact (by rw [ua (by omega)];rfl)
 exact (by rw [ua (by omega)];rfl)
theorem sA (k:bQ) (ag:Int) [Q (de k)]:aF Tryz.prog 346 [A (fU k),I ag] (RG [.a (fU (forget k ag))]):=by
 refine aF.w 20 Tryz.func346 fun w g0 hM=> ?_
 have eK:=hM.1.1.map
 have Hg:=hM.1.2.1.map
 refine ak (kL _).k ?_
 refine ah (sx _ _).k ?_
 refine aB ?_ ?_ <;> intro hb
 have hkp:0 ≤ ag∧ag < k.bY.length∧ag < k.c8.length:=by simpa [eH] using (by assumption:eH k ag=true)
 obtain ⟨a,ha⟩:∃ a,k.bY[ag.toNat]? = some a:=⟨_,List.getElem?_eq_getElem (by omega)⟩
 obtain ⟨z,hz⟩:∃ z,k.c8[ag.toNat]? = some z:=⟨_,List.getElem?_eq_getElem (by omega)⟩
 refine aZ ?_
 refine aI (by assumption) ?_
 refine cJ [5] [(0,0),(1,0),(2,0),(3,1),(4,0),(5,1)] ?_
 refine ah (cW).k ?_
 refine aZ ?_
 refine aI (by assumption) ?_
 have hkq:∀ h:eH k ag=false,¬ (0 ≤ ag∧ag < k.bY.length∧ag < k.c8.length):=fun h=>by simpa [eH] using h
 exact (by rw [BO (by omega),show fU ⟨k.bY.set ag.toNat false,k.c8.set ag.toNat bu⟩=[.sl 1 ((k.bY.map bz).set ag.toNat (bz false)), .sl 2 ((k.c8.map aQ).set ag.toNat (aQ bu))] from by simp [fU,List.map_set]];rfl)
 have hkq:∀ h:eH k ag=false,¬ (0 ≤ ag∧ag < k.bY.length∧ag < k.c8.length):=fun h=>by simpa [eH] using h
 exact (by rw [ua (hkq (by assumption))];rfl)
theorem Aw (k:bQ) (t:List aL) (ag:Int) [Q (de k)] [Q (dZ t)]:aF Tryz.prog 304 [A (fU k),L 2 (t.map aQ),I ag] (RG [.a (fU (gR k t ag))]):=by
 refine aF.w 25 Tryz.func304 fun w g0 _=> ?_
 refine ak (j9 _).k ?_
 refine bk (Hq t ag).k ?_
 refine len ?_
 refine cI [6,7,14,15] [] [7,11] (fun (i:Nat)=>[.set 16 (I i)]) (fun (i:Nat)=>[(7,⟨true,[.own (.sl 1 ((gh k ((jx t ag).take i)).bY.map bz)), .own (.sl 2 ((gh k ((jx t ag).take i)).c8.map aQ))]⟩)]) (fun (i:Nat)=>i ≤ (jx t ag).length) (fun (i:Nat)=>(jx t ag).length - i) (0) (Nat.zero_le _) ?_
 refine ⟨hda,fun i hyp N1 bw=> ?_⟩
 have hyp:i ≤ (jx t ag).length:=hyp
 have PY:=MW t ag
 have LG:=(inferInstance:dc t 1048576).h
 refine aB ?_ ?_ <;> intro hb
 obtain ⟨p,hp⟩:∃ p,(jx t ag)[i]? = some p:=⟨_,List.getElem?_eq_getElem (by omega)⟩
 refine cS ?_
 refine aI (by assumption) ?_
 refine ak (sy (gh k ((jx t ag).take i)) p).k ?_
 refine cD ?_
 refine bw _ _ _ ?_
 refine iF (i + 1) (by omega) (by repeat' first|exact rfl|refine And.intro ?_ ?_|exact True.intro|(refine eV ?_;rw [CG hp];done))
 refine bw _ _ _ ?_
 exact (by rw [show gR k t ag=(gh k ((jx t ag).take i)) from by unfold gR gh;rw [List.take_of_length_le (by omega)]];rfl)
theorem rO (k:bQ) (t:List aL) (ag:Int) [Q (de k)] [Q (dZ t)]:aF Tryz.prog 429 [A (fU k),L 2 (t.map aQ),I ag] (RG [.a (fU (gR k t ag))]):=by
 refine aF.w 27 Tryz.func429 fun w g0 _=> ?_
 refine ak (kL _).k ?_
 refine bk (Hp t ag).k ?_
 refine cI [3,6,7] [] [3,10] (fun (i:Nat)=>[.set 8 (I i)]) (fun (i:Nat)=>[(3,⟨true,[.own (.sl 1 ((gh k ((jx t ag).take i)).bY.map bz)), .own (.sl 2 ((gh k ((jx t ag).take i)).c8.map aQ))]⟩)]) (fun (i:Nat)=>i ≤ (jx t ag).length) (fun (i:Nat)=>(jx t ag).length - i) (0) (Nat.zero_le _) ?_
 refine ⟨hda,fun i hyp N1 bw=> ?_⟩
 have hyp:i ≤ (jx t ag).length:=hyp
 have PY:=MW t ag
 have LG:=(inferInstance:dc t 1048576).h
 refine len ?_
 refine aB ?_ ?_ <;> intro hb
 obtain ⟨p,hp⟩:∃ p,(jx t ag)[i]? = some p:=⟨_,List.getElem?_eq_getElem (by omega)⟩
 refine cJ [6] [(0,0),(1,0),(2,0),(3,0),(4,0),(5,1),(6,1)] ?_
 refine cS ?_
 refine aI (by assumption) ?_
 refine ak (sA (gh k ((jx t ag).take i)) p).k ?_
 refine cD ?_
 refine bw _ _ _ ?_
 refine iF (i + 1) (by omega) (by repeat' first|exact rfl|refine And.intro ?_ ?_|exact True.intro|(refine eV ?_;rw [CG hp];done))
 refine bw _ _ _ ?_
 exact (by rw [show gR k t ag=(gh k ((jx t ag).take i)) from by unfold gR gh;rw [List.take_of_length_le (by omega)]];rfl)
theorem qW (h:an) (m:Int) (ag:Int):aF Tryz.prog 188 [A (aq h),I m,I ag] (RV (.bool (dG h m ag))):=by
 refine aF.w 20 Tryz.func188 fun w g0 hM=> ?_
 have eK:=hM.1.2.1.map
 refine ah (fo _).k ?_
 refine aB ?_ ?_ <;> intro mS
 refine len ?_
 refine ah (bA _ _).k ?_
 refine aB ?_ ?_ <;> intro hg9
 refine ah (bA _ _).k ?_
 exact ay (by refine congrArg Value.bool ?_;rw [Bool.eq_iff_iff,eS];simp [*];omega)
 exact ay (by refine congrArg Value.bool ?_;rw [Bool.eq_iff_iff,eS];simp [*];done)
 exact ay (by refine congrArg Value.bool ?_;rw [Bool.eq_iff_iff,eS];simp [*];done)
theorem pT (h:an) (m:Int) (ag:Int):aF Tryz.prog 330 [A (aq h),I m,I ag] (RV (.bool (dG h m ag))):=by
 refine aF.w 21 Tryz.func330 fun w g0 hM=> ?_
 have eK:=hM.1.2.1.map
 refine ah (ko _).k ?_
 refine aB ?_ ?_ <;> intro mS
 refine len ?_
 refine cD ?_
 refine ah (aE _ _ _).k ?_
 refine aB ?_ ?_ <;> intro Uv
 refine ah (aE _ _ _).k ?_
 exact ay (by refine congrArg Value.bool ?_;rw [Bool.eq_iff_iff,eS];simp [*];omega)
 exact ay (by refine congrArg Value.bool ?_;rw [Bool.eq_iff_iff,eS];simp [*];omega)
 exact ay (by refine congrArg Value.bool ?_;rw [Bool.eq_iff_iff,eS];simp [*];done)
theorem gq (h:an) (m:Int):aF Tryz.prog 214 [A (aq h),I m] (RV (.bool (cO h m))):=by
 refine aF.w 15 Tryz.func214 fun w g0 hM=> ?_
 have eK:=hM.1.2.1.map
 refine ah (ko _).k ?_
 refine aB ?_ ?_ <;> intro mS
 refine len ?_
 refine cD ?_
 refine ah (aE _ _ _).k ?_
 exact ay (by refine congrArg Value.bool ?_;rw [Bool.eq_iff_iff,s7];simp [*];omega)
 exact ay (by refine congrArg Value.bool ?_;rw [Bool.eq_iff_iff,s7];simp [*];done)
end
section
variable {ag:Int} {i p:Nat} {h:an}
set_option maxRecDepth 100000
set_option maxHeartbeats 8000000
section
variable {t:List aL} {ag:Int} {k i:Nat} {s:aL} {l:List aO} {u:aO} {r:Option (Nat×Nat)}
theorem oi_hit (h:∀ y ∈ t.take k,¬ y.aJ=ag) (hs:t[k]? = some s) (hp:s.aJ=ag):l_ t ag=some k:=by
 obtain ⟨hk,he⟩:=List.getElem?_eq_some_iff.1 hs
 unfold l_
 rw [List.findIdx?_eq_some_iff_getElem]
 refine ⟨hk,by rw [he];exact decide_eq_true hp,fun j hj=> ?_⟩
 have h1:t[j]'(by omega) ∈ t.take k:=by
  rw [List.mem_take_iff_getElem]
  exact ⟨j,by omega,rfl⟩
 simpa using h _ h1
theorem QA (h:∀ y ∈ t.take k,¬ y.aJ=ag) (hk:t.length ≤ k):l_ t ag=none:=by
 rw [List.take_of_length_le hk] at h
 unfold l_
 rw [List.findIdx?_eq_none_iff]
 exact fun y hy=>decide_eq_false (h y hy)
theorem QB (h:∀ y ∈ t.take k,¬ y.aJ=ag) (hs:t[k]? = some s) (hp:¬ s.aJ=ag):∀ y ∈ t.take (k + 1),¬ y.aJ=ag:=by
 rw [List.take_add_one,hs]
 intro y hy
 rcases List.mem_append.1 hy with hy|hy
 exact h y hy
 rw [List.mem_singleton.1 hy];exact hp
theorem QC (hu:l[i]? = some u):l.drop i=u :: l.drop (i + 1):=by
 obtain ⟨hi,he⟩:=List.getElem?_eq_some_iff.1 hu
 rw [List.drop_eq_getElem_cons hi,he]
theorem ot_hit (h:eN (l.drop i) ag i=r) (hu:l[i]? = some u) (ho:l_ u.ai ag=some k):r=some (i,k):=by
 rw [QC hu] at h
 rw [← h]
 unfold eN
 rw [ho]
theorem QD (h:eN (l.drop i) ag i=r) (hu:l[i]? = some u) (ho:l_ u.ai ag=none):eN (l.drop (i + 1)) ag (i + 1)=r:=by
 rw [QC hu] at h
 rw [← h]
 conv=>rhs;unfold eN
 rw [ho]
theorem ot_end (h:eN (l.drop i) ag i=r) (hi:l.length ≤ i):r=none:=by
 rw [List.drop_of_length_le hi] at h
 exact h.symm
end
def oM (q:Option (Nat×Nat)):Int:=(q.map fun a=>(a.1:Int)).getD (-1)
def oP (q:Option (Nat×Nat)):Int:=(q.map fun a=>(a.2:Int)).getD (-1)
theorem UH {q:Option (Nat×Nat)}:oM q < 0 ↔ q=none:=by
 cases q with
 | none=>simp [oM]
 | some a=>simp [oM]
theorem QE (hp:¬ 0 ≤ ag):bN h ag=none:=if_neg hp
theorem UI (hp:0 ≤ ag):bN h ag=eN h.ap ag 0:=if_pos hp
theorem QF {k:Nat} {u:aO} {s:aL} (hp:0 ≤ ag) (h1:eN (h.ap.drop i) ag i=eN h.ap ag 0) (hu:h.ap[i]? = some u) (h2:∀ y ∈ u.ai.take k,¬ y.aJ=ag) (hs:u.ai[k]? = some s) (he:s.aJ=ag):bN h ag=some (i,k):=by
 rw [UI hp]
 exact ot_hit h1 hu (oi_hit h2 hs he)
theorem QG (h1:eN (h.ap.drop i) ag i=eN h.ap ag 0) (hi:h.ap.length ≤ i):bN h ag=none:=by
 unfold bN
 rw [ot_end h1 hi]
 split <;> rfl
theorem MX (hp:oM (bN h p) < 0):(cz (nC h) (p + 1)).map bH=(cz (nC h) p).map bH ++ [bH p]:=by
 have e:nC h p=true:=by unfold nC;rw [UH.1 hp];rfl
 rw [eG,e,List.map_append]
 rfl
theorem QH (hp:¬ oM (bN h p) < 0):(cz (nC h) (p + 1)).map bH=(cz (nC h) p).map bH:=by
 have e:nC h p=false:=by
  cases h1:bN h p with
  | none=>exact absurd (UH.2 h1) hp
  | some a=>unfold nC;rw [h1];rfl
 rw [eG,e]
 simp
theorem MY (h1:i ≤ h.au.length) (h2:h.au.length ≤ i):eE h=cz (nC h) i:=by rw [show i=h.au.length from Nat.le_antisymm h1 h2];rfl
theorem mE (h:an) (ag:Int) [Q (aj h)]:aF Tryz.prog 485 [A (aq h),I ag] (RG [.c (.v (.int .i64 (oM (bN h ag)))), .c (.v (.int .i64 (oP (bN h ag))))]):=by
 refine aF.w 44 Tryz.func485 fun w g0 hM=> ?_
 have eK:=hM.1.2.1.map
 refine cI [1,2] [] [] (fun (i:Nat)=>[.set 6 (I i)]) (fun (i:Nat)=>[]) (fun (i:Nat)=>(i ≤ h.ap.length)∧(eN (h.ap.drop i) ag i=eN h.ap ag 0)) (fun (i:Nat)=>h.ap.length - i) (0) (⟨Nat.zero_le _,rfl⟩) ?_
 refine ⟨hda,fun i hyp N1 bw=> ?_⟩
 have hyp:(i ≤ h.ap.length)∧(eN (h.ap.drop i) ag i=eN h.ap ag 0):=hyp
 have MJ:=hyp.1
 refine len ?_
 refine aB ?_ ?_ <;> intro OT
 ·refine aB ?_ ?_ <;> intro hb
  ·obtain ⟨u,hu⟩:∃ u,h.ap[i]? = some u:=⟨_,List.getElem?_eq_getElem (by omega)⟩
   have qx:Q (bf u):=⟨j6.h u (List.mem_of_getElem? hu)⟩
   have PY:=(inferInstance:dc u.ai 1048576).h
   refine cI [1,2,6] [] [] (fun (k:Nat)=>[.set 7 (I k)]) (fun (k:Nat)=>[]) (fun (k:Nat)=>k ≤ u.ai.length∧∀ y ∈ u.ai.take k,¬ y.aJ=ag) (fun (k:Nat)=>u.ai.length - k) (0) (⟨Nat.zero_le _,by simp⟩) ?_
   refine ⟨hda,fun k gb N2 oY=> ?_⟩
   have gb:k ≤ u.ai.length∧∀ y ∈ u.ai.take k,¬ y.aJ=ag:=gb
   have MT:=gb.1
   refine fN hu ?_
   skip
   skip
   refine len ?_
   refine aB ?_ ?_ <;> intro gY
   ·obtain ⟨s,hs⟩:∃ s,u.ai[k]? = some s:=⟨_,List.getElem?_eq_getElem (by omega)⟩
    refine fN hu ?_
    skip
    skip
    refine fN hs ?_
    skip
    skip
    refine aB ?_ ?_ <;> intro tY
    ·refine oY _ _ _ ?_
     refine bw _ _ _ ?_
     exact (by rw [QF (by omega) hyp.2 hu gb.2 hs (by assumption)];rfl)
    ·refine cD ?_
     refine oY _ _ _ ?_
     refine iF (k + 1) (⟨by omega,QB gb.2 hs (by assumption)⟩)
   ·refine oY _ _ _ ?_
    refine cD ?_
    refine bw _ _ _ ?_
    refine iF (i + 1) (⟨by omega,QD hyp.2 hu (QA gb.2 (by omega))⟩)
  ·refine bw _ _ _ ?_
   exact (by rw [QE (by omega)];rfl)
 ·refine bw _ _ _ ?_
  exact (by rw [QG hyp.2 (by omega)];rfl)
theorem qX (h:an) (ag:Int) [Q (aj h)]:aF Tryz.prog 478 [A (aq h),I ag] (RG [.c (.v (.int .i64 (oM (bN h ag)))), .c (.v (.int .i64 (oP (bN h ag))))]):=by
 refine aF.w 36 Tryz.func478 fun w g0 hM=> ?_
 have eK:=hM.1.2.1.map
 refine aB ?_ ?_ <;> intro hb
 ·exact (by rw [QE (by omega)];rfl)
 ·refine len ?_
  refine cI [1,13,14] [] [] (fun (i:Nat)=>[.set 15 (I i)]) (fun (i:Nat)=>[]) (fun (i:Nat)=>(i ≤ h.ap.length)∧(eN (h.ap.drop i) ag i=eN h.ap ag 0)) (fun (i:Nat)=>h.ap.length - i) (0) (⟨Nat.zero_le _,rfl⟩) ?_
  refine ⟨hda,fun i hyp N1 bw=> ?_⟩
  have hyp:(i ≤ h.ap.length)∧(eN (h.ap.drop i) ag i=eN h.ap ag 0):=hyp
  have MJ:=hyp.1
  refine aB ?_ ?_ <;> intro gY
  ·obtain ⟨u,hu⟩:∃ u,h.ap[i]? = some u:=⟨_,List.getElem?_eq_getElem (by omega)⟩
   have qx:Q (bf u):=⟨j6.h u (List.mem_of_getElem? hu)⟩
   have PY:=(inferInstance:dc u.ai 1048576).h
   refine fN hu ?_
   skip
   refine len ?_
   refine cI [1,6,13,14,15,21,22] [] [] (fun (k:Nat)=>[.set 23 (I k)]) (fun (k:Nat)=>[]) (fun (k:Nat)=>k ≤ u.ai.length∧∀ y ∈ u.ai.take k,¬ y.aJ=ag) (fun (k:Nat)=>u.ai.length - k) (0) (⟨Nat.zero_le _,by simp⟩) ?_
   refine ⟨hda,fun k gb N2 oY=> ?_⟩
   have gb:k ≤ u.ai.length∧∀ y ∈ u.ai.take k,¬ y.aJ=ag:=gb
   have MT:=gb.1
   refine aB ?_ ?_ <;> intro tY
   ·obtain ⟨s,hs⟩:∃ s,u.ai[k]? = some s:=⟨_,List.getElem?_eq_getElem (by omega)⟩
    refine fN hs ?_
    skip
    refine aB ?_ ?_ <;> intro yW
    ·refine oY _ _ _ ?_
     refine bw _ _ _ ?_
     exact (by rw [QF (by omega) hyp.2 hu gb.2 hs (by assumption)];rfl)
    ·refine cD ?_
     refine oY _ _ _ ?_
     refine iF (k + 1) (⟨by omega,QB gb.2 hs (by assumption)⟩)
   ·refine oY _ _ _ ?_
    refine cD ?_
    refine bw _ _ _ ?_
    refine iF (i + 1) (⟨by omega,QD hyp.2 hu (QA gb.2 (by omega))⟩)
  ·refine bw _ _ _ ?_
   exact (by rw [QG hyp.2 (by omega)];rfl)
theorem kq (h:an) [Q (aj h)]:aF Tryz.prog 484 [A (aq h)] (RL 1 ((eE h).map bH)):=by
 refine aF.w 28 Tryz.func484 fun w g0 hM=> ?_
 have eK:=hM.1.1.map
 refine cI [1,2,3] [3] [3] (fun (i:Nat)=>[.set 4 (I i)]) (fun (i:Nat)=>[(3,⟨false,[.own (.sl 1 ((cz (nC h) i).map bH))]⟩)]) (fun (i:Nat)=>i ≤ h.au.length) (fun (i:Nat)=>h.au.length - i) (0) (Nat.zero_le _) ?_
 refine ⟨hda,fun i hyp N1 bw=> ?_⟩
 have hyp:i ≤ h.au.length:=hyp
 have hr:= @gQ (nC h) i
 have hml:=(inferInstance:dc h.au 1048576).h
 refine len ?_
 refine aB ?_ ?_ <;> intro hb
 refine ak (mE h i).k ?_
 refine aB ?_ ?_ <;> intro gY
 refine ES ?_
 refine cD ?_
 refine bw _ _ _ ?_
 refine iF (i + 1) (by omega) (by repeat' first|exact rfl|refine And.intro ?_ ?_|exact True.intro|(refine eV ?_;rw [MX (by assumption)];done))
 refine cD ?_
 refine bw _ _ _ ?_
 refine iF (i + 1) (by omega) (by repeat' first|exact rfl|refine And.intro ?_ ?_|exact True.intro|(refine eV ?_;rw [QH (by assumption)];done))
 refine bw _ _ _ ?_
 exact (by rw [MY hyp (by omega)];rfl)
theorem sB (h:an) [Q (aj h)]:aF Tryz.prog 410 [A (aq h)] (RL 1 ((eE h).map bH)):=by
 refine aF.w 28 Tryz.func410 fun w g0 hM=> ?_
 have eK:=hM.1.1.map
 refine len ?_
 refine cI [1,2,3,10] [3] [3] (fun (i:Nat)=>[.set 11 (I i)]) (fun (i:Nat)=>[(3,⟨false,[.own (.sl 1 ((cz (nC h) i).map bH))]⟩)]) (fun (i:Nat)=>i ≤ h.au.length) (fun (i:Nat)=>h.au.length - i) (0) (Nat.zero_le _) ?_
 refine ⟨hda,fun i hyp N1 bw=> ?_⟩
 have hyp:i ≤ h.au.length:=hyp
 have hr:= @gQ (nC h) i
 have hml:=(inferInstance:dc h.au 1048576).h
 refine aB ?_ ?_ <;> intro hb
 refine ak (qX h i).k ?_
 refine aB ?_ ?_ <;> intro gY
 refine ES ?_
 refine cD ?_
 refine bw _ _ _ ?_
 refine iF (i + 1) (by omega) (by repeat' first|exact rfl|refine And.intro ?_ ?_|exact True.intro|(refine eV ?_;rw [MX (by assumption)];done))
 refine cD ?_
 refine bw _ _ _ ?_
 refine iF (i + 1) (by omega) (by repeat' first|exact rfl|refine And.intro ?_ ?_|exact True.intro|(refine eV ?_;rw [QH (by assumption)];done))
 refine bw _ _ _ ?_
 exact (by rw [MY hyp (by omega)];rfl)
end
section
variable {p:Int} {k m:Nat} {g:av} {h:an} {t:bQ} {x:aO} {s:aL}
set_option maxRecDepth 100000
set_option maxHeartbeats 8000000
def pe (x:aO) (p:Int) (k:Nat):List bQ:=(eL x p).take k ++ x.Tables.drop k
theorem ng (h:x.Tables.length=x.aa.length):(eL x p).length=x.aa.length:=by simp [eL,h]
theorem MZ (ht:x.Tables[k]? = some t) (hg:x.aa[k]? = some g):(eL x p)[k]? = some (gR t g.Live p):=by
 unfold eL
 rw [List.getElem?_zipWith,ht,hg]
theorem M0:pe x p 0=x.Tables:=by simp [pe]
theorem y5 (h:x.Tables.length=x.aa.length) (hk:k ≤ x.aa.length):(pe x p k).length=x.aa.length:=by
 simp only [pe,List.length_append,List.length_take,ng h,List.length_drop]
 omega
theorem y6 (h:x.Tables.length=x.aa.length) (ht:x.Tables[k]? = some t):(pe x p k)[k]? = some t:=by
 have hk:=(List.getElem?_eq_some_iff.1 ht).1
 unfold pe
 rw [List.getElem?_append_right (by rw [List.length_take,ng h];omega),List.length_take,ng h,Nat.min_eq_left (by omega),Nat.sub_self,List.getElem?_drop]
 exact ht
theorem M1 (h:x.Tables.length=x.aa.length) (ht:x.Tables[k]? = some t) (hg:x.aa[k]? = some g):pe x p (k + 1)=(pe x p k).set k (gR t g.Live p):=by
 have hk:=(List.getElem?_eq_some_iff.1 ht).1
 have hl:((eL x p).take k).length=k:=by rw [List.length_take,ng h];omega
 unfold pe
 rw [List.take_add_one,MZ ht hg,List.set_append_right _ _ (by omega),hl,Nat.sub_self,List.drop_eq_getElem_cons hk,List.set_cons_zero,List.append_assoc]
 rfl
theorem uc (h:x.Tables.length=x.aa.length) (hk:k=x.aa.length):pe x p k=eL x p:=by
 subst hk
 unfold pe
 rw [List.take_of_length_le (by rw [ng h];omega),List.drop_eq_nil_of_le (by omega),List.append_nil]
def c6 (x:aO) (p:Int) (k:Nat):aO:={ x with Tables:=pe x p k }
theorem BP:c6 x p 0=x:=by unfold c6;rw [M0]
theorem Fv {α:Type} {xs:List α} {x: α} (h:xs[m]? = some x):xs.set m x=xs:=by
 apply List.ext_getElem?
 intro j
 rw [List.getElem?_set]
 split
 rename_i e
 subst e
 rw [h]
 split
 rfl
 rename_i hl
 exact absurd (List.getElem?_eq_some_iff.1 h).1 hl
 rfl
theorem dz {α:Type} {xs:List α} {x y: α} (h:xs[m]? = some x):(xs.set m y)[m]? = some y:=by
 have:=(List.getElem?_eq_some_iff.1 h).1
 rw [List.getElem?_set,if_pos rfl,if_pos this]
def spoilt (h:an) (m:Nat) (x:aO) (p:Int) (s:aL):an:=
 {h with ap:=h.ap.set m { x with Tables:=eL x p },Buffer:=if s.aJ= -1 then h.Buffer else cV h.Buffer s.aJ,aC:=if s.aJ= -1 then h.aC else cV h.aC s.aJ }
theorem BQ (ov:x.Tables.length=x.aa.length) (ht:x.Tables[k]? = some t) (hg:x.aa[k]? = some g):
  (h.ap.set m (c6 x p (k + 1))).map bh=((h.ap.set m (c6 x p k)).map bh).set m (.st [.sl 2 ((c6 x p k).ai.map aQ), .sl 1 ((c6 x p k).Out.map aN), .sl 1 ((c6 x p k).a_.map bz), .sl 15 ((c6 x p k).aa.map aY), .sl 1 ((c6 x p k).bX.map bH),
   .v (.int .i64 (c6 x p k).ax), .v (.int .i64 (c6 x p k).bq), .sl 2 (((c6 x p k).Tables.map bS).set k (.st [.sl 1 ((gR t g.Live p).bY.map bz), .sl 2 ((gR t g.Live p).c8.map aQ)])), .v (.int .i64 (c6 x p k).Own)]):=by
 rw [List.map_set,List.map_set,List.set_set]
 congr 1
 unfold c6
 rw [M1 ov ht hg]
 show D.st _=D.st _
 simp only [va,List.map_set]
theorem UJ (ov:x.Tables.length=x.aa.length) (hk:k=x.aa.length) (hs:s.aJ= -1):
  aq (spoilt h m x p s)=[.sl 1 (h.au.map aN), .sl 9 ((h.ap.set m (c6 x p k)).map bh), .sl 4 (h.Buffer.map aA), .sl 4 (h.aC.map aA)]:=by
 unfold spoilt c6
 rw [uc ov hk,if_pos hs,if_pos hs]
theorem UK (ov:x.Tables.length=x.aa.length) (hk:k=x.aa.length) (hs:¬ s.aJ= -1):
  aq (spoilt h m x p s)=[.sl 1 (h.au.map aN), .sl 9 ((h.ap.set m (c6 x p k)).map bh), .sl 4 ((cV h.Buffer s.aJ).map aA), .sl 4 ((cV h.aC s.aJ).map aA)]:=by
 unfold spoilt c6
 rw [uc ov hk,if_neg hs,if_neg hs]
theorem rP (h:an) (m:Nat) (x:aO) (p:Int) (s:aL) (hx:h.ap[m]? = some x) (ov:x.Tables.length=x.aa.length) [Q (aj h)]:uE Tryz.prog 189 (aq h) 1 [.one (.ptr ⟨1000001,[],0⟩),I m,I p,A (gB s)] (zF (aq (spoilt h m x p s)) (.lp [])):=by
 refine uE.w 71 Tryz.func189 rfl fun w g0 _=> ?_
 have qx:Q (bf x):=⟨j6.h x (List.mem_of_getElem? hx)⟩
 have hml:=(List.getElem?_eq_some_iff.1 hx).1
 have O2:=(inferInstance:dc x.aa 1048576).h
 refine cS ?_
 refine aI (by assumption) ?_
 refine aI (by assumption) ?_
 refine len ?_
 refine cI [0,2,7,8,20] [] [1000001] (fun (k:Nat)=>[.set 21 (I k)]) (fun (k:Nat)=>[(1000001,⟨true,[.own (.sl 1 (h.au.map aN)), .own (.sl 9 (((h.ap.set m (c6 x p k)).map bh))), .own (.sl 4 (h.Buffer.map aA)), .own (.sl 4 (h.aC.map aA))]⟩)]) (fun (k:Nat)=>k ≤ x.aa.length) (fun (k:Nat)=>x.aa.length - k) (0) (Nat.zero_le _) ?_
 refine ⟨(hda (by repeat' first|exact rfl|refine And.intro ?_ ?_|exact True.intro|(refine eV ?_;rw [BP,Fv hx];done))),fun k hyp N1 bw=> ?_⟩
 have hyp:k ≤ x.aa.length:=hyp
 have hm:=dz (y:=c6 x p k) hx
 have LG:(c6 x p k).Tables.length=x.aa.length:=y5 (p:=p) ov hyp
 have hgk:(c6 x p k).aa.length=x.aa.length:=rfl
 refine aB ?_ ?_ <;> intro hb
 obtain ⟨t,ht⟩:∃ t,x.Tables[k]? = some t:=⟨_,List.getElem?_eq_getElem (by omega)⟩
 obtain ⟨g,hg⟩:∃ g,x.aa[k]? = some g:=⟨_,List.getElem?_eq_getElem (by omega)⟩
 have htk:(c6 x p k).Tables[k]? = some t:=y6 ov ht
 have hgk2:(c6 x p k).aa[k]? = some g:=hg
 have qt:Q (de t):=⟨j6.h t (List.mem_of_getElem? ht)⟩
 have qg:Q (aG g):=⟨j6.h g (List.mem_of_getElem? hg)⟩
 refine cJ [23] [(0,0),(1,0),(2,0),(3,0),(4,0),(5,0),(6,0),(7,0),(8,0),(9,0),(10,0),(11,0),(12,0),(13,0),(14,0),(15,0),(16,0),(17,0),(18,0),(19,0),(20,0),(21,1),(22,0),(23,1)] ?_
 refine aI (by assumption) ?_
 refine aI (by assumption) ?_
 refine aI (by assumption) ?_
 refine cS ?_
 refine aI (by assumption) ?_
 refine aI (by assumption) ?_
 refine aI (by assumption) ?_
 refine aI (by assumption) ?_
 refine cS ?_
 refine aI (by assumption) ?_
 refine aI (by assumption) ?_
 refine ak (Aw t g.Live p).k ?_ (by repeat first|exact rfl|refine eB.mk (by exact WD.w) ?_|refine aI (by assumption) ?_)
 refine aI (by assumption) ?_
 refine cS ?_
 refine aI (by assumption) ?_
 refine aI (by assumption) ?_
 refine cD ?_
 refine bw _ _ _ ?_
 refine iF (k + 1) (by omega) (by repeat' first|exact rfl|refine And.intro ?_ ?_|exact True.intro|(refine eV ?_;rw [BQ ov ht hg];done))
 refine bw _ _ _ ?_
 refine aB ?_ ?_ <;> intro gY
 refine cJ [10] [(0,0),(1,0),(2,0),(3,0),(4,0),(5,0),(6,0),(7,1),(8,0),(9,0),(10,1)] ?_
 refine bk (s8 _ s.aJ).k ?_
 refine cJ [10] [(0,0),(1,0),(2,0),(3,0),(4,0),(5,0),(6,0),(7,1),(8,0),(9,0),(10,1)] ?_
 refine bk (s8 _ s.aJ).k ?_
 exact ⟨by (rw [UK (k:=k) ov (by omega) (by omega)];done),rfl⟩
 exact ⟨by (rw [UJ (k:=k) ov (by omega) (by omega)];done),rfl⟩
end
end Go.Proofs.YtdliggkohdnipaaGreat.T
