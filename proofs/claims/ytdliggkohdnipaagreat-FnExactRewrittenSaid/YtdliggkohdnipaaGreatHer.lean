import Derived.Test.YtdliggkohdnipaaGreatHdr
set_option linter.unusedVariables false
set_option linter.unusedSimpArgs false
namespace Go.Proofs.YtdliggkohdnipaaGreat.T
open Go
set_option maxRecDepth 100000
set_option maxHeartbeats 8000000
theorem mo (xs:List Int) (k:Int) (h1:0 ≤ k) (h2:k + eI xs ≤ 1000000000000000) (jg:c4 xs):eA Tryz.prog 52 (⟨false,[.sl 1 (xs.map bH)]⟩) [.one (.c (.ref ⟨1000000,[],0⟩)),I k] (zF [.sl 1 ((lD k xs).map bH)] (I (k + eI xs))):=by
 refine eA.w 19 Tryz.func52 fun w g0 _=> ?_
 refine gA [] [] [] (fun (i:Nat)=>[.set 0 (.one (.c (.ref ⟨1000000,[],0⟩))), .set 1 (I (k + aU fS (xs.take i))), .set 5 (I i)]) (fun (i:Nat)=>[(1000000,⟨false,[.own (.sl 1 ((kD (lD k xs) xs i).map bH))]⟩)]) (fun (i:Nat)=>i ≤ xs.length) (fun (i:Nat)=>xs.length - i) (0) (by simp) ?_
 refine ⟨(vv (by repeat' first|exact rfl|refine And.intro ?_ ?_|exact True.intro|(refine eV ?_;simp [aU,lK]))),fun i hyp N1 bw=> ?_⟩
 have hyp:i ≤ xs.length:=hyp
 refine len ?_
 refine eJ (fun hb=> ?_) (fun hb=> ?_)
 have hi:i < xs.length:=by simpa [dM (kN k xs)] using hb
 have hlen:xs.length ≤ 2097152:=Nat.le_trans (show xs.length ≤ 1048576 from jg) (by decide)
 obtain ⟨x,hx⟩:=ev (xs:=xs) (k:=i) hi
 have hcs:=fG (c:=fS) hx
 have xF:=iA q5 xs (i + 1)
 have hc0:=cP q5 (xs.take i)
 have hcd:aU fS xs=eI xs:=rfl
 have hg:((kD (lD k xs) xs i).map bH)[i]? = some (bH x):=by simp [List.getElem?_map,n_ (kN k xs),hx]
 have hs:((kD (lD k xs) xs i).map bH).set i (bH (za (k + aU fS (xs.take i)) x))=((kD (lD k xs) xs (i + 1)).map bH):=by rw [← oa (kN k xs) (gT za fS k hx),List.map_set]
 have oZ:((kD (lD k xs) xs i).map bH).length=xs.length:=by simp [dM (kN k xs)]
 generalize ((kD (lD k xs) xs i).map bH)=L at *
 simp only [bH,za,fS] at hg hs hcs
 generalize Wc:aU fS (xs.take i)=m at *
 refine cS ?_ (by simp only [List.length_set,oZ];omega)
 refine xT hg ?_
 refine cD ?_
 refine cD ?_
 refine bw _ _ _ ?_
 refine vu [] (i + 1) (by omega) (by repeat' first|exact rfl|refine And.intro ?_ ?_|exact True.intro|(refine eV ?_;first|exact congrArg (fun z:Int=>(I z:TS)) (by rw [hcs];omega)|(simp only [List.set_set, ← hs])))
 refine bw _ _ _ ?_
 have hn:i=xs.length:=(by simp [dM (kN k xs)] at hb;omega)
 subst hn
 rw [oc (kN k xs) (Nat.le_refl _),List.take_length]
 exact ⟨rfl,rfl⟩
theorem s9 (xs:List (List Int)) (k:Int) (h1:0 ≤ k) (h2:k + di xs ≤ 1000000000000000) (jg:dY xs):eA Tryz.prog 136 (⟨false,[.sl 1 (xs.map aN)]⟩) [.one (.c (.ref ⟨1000000,[],0⟩)),I k] (zF [.sl 1 ((oy k xs).map aN)] (I (k + di xs))):=by
 refine eA.w 19 Tryz.func136 fun w g0 _=> ?_
 refine gA [] [] [] (fun (i:Nat)=>[.set 0 (.one (.c (.ref ⟨1000000,[],0⟩))), .set 1 (I (k + aU eI (xs.take i))), .set 5 (I i)]) (fun (i:Nat)=>[(1000000,⟨false,[.own (.sl 1 ((kD (oy k xs) xs i).map aN))]⟩)]) (fun (i:Nat)=>i ≤ xs.length) (fun (i:Nat)=>xs.length - i) (0) (by simp) ?_
 refine ⟨(vv (by repeat' first|exact rfl|refine And.intro ?_ ?_|exact True.intro|(refine eV ?_;simp [aU,lK]))),fun i hyp N1 bw=> ?_⟩
 have hyp:i ≤ xs.length:=hyp
 refine len ?_
 refine eJ (fun hb=> ?_) (fun hb=> ?_)
 have hi:i < xs.length:=by simpa [dM (mK k xs)] using hb
 have hlen:xs.length ≤ 2097152:=Nat.le_trans (show xs.length ≤ 1048576 from jg.1) (by decide)
 obtain ⟨x,hx⟩:=ev (xs:=xs) (k:=i) hi
 have hcs:=fG (c:=eI) hx
 have xF:=iA jV xs (i + 1)
 have hc0:=cP jV (xs.take i)
 have hcd:aU eI xs=di xs:=rfl
 have BT:c4 x:=jg.2 x (List.mem_of_getElem? hx)
 have hn0:=jV x
 have hg:((kD (oy k xs) xs i).map aN)[i]? = some (aN x):=by simp [List.getElem?_map,n_ (mK k xs),hx]
 have hs:((kD (oy k xs) xs i).map aN).set i (aN (lD (k + aU eI (xs.take i)) x))=((kD (oy k xs) xs (i + 1)).map aN):=by rw [← oa (mK k xs) (gT lD eI k hx),List.map_set]
 have oZ:((kD (oy k xs) xs i).map aN).length=xs.length:=by simp [dM (mK k xs)]
 generalize ((kD (oy k xs) xs i).map aN)=L at *
 simp only [aN] at hg hs
 generalize Wc:aU eI (xs.take i)=m at *
 refine cS ?_ (by simp only [List.length_set,oZ];omega)
 refine xT hg ?_
 refine qG 1000000 0 i 0 (mo x ((k + m)) (by omega) (by omega) BT) ?_
 refine xT hg ?_
 refine And.intro rfl ?_
 refine cD ?_
 refine bw _ _ _ ?_
 refine vu [] (i + 1) (by omega) (by repeat' first|exact rfl|refine And.intro ?_ ?_|exact True.intro|(refine eV ?_;first|exact congrArg (fun z:Int=>(I z:TS)) (by rw [hcs];omega)|(simp only [List.set_set, ← hs])))
 refine bw _ _ _ ?_
 have hn:i=xs.length:=(by simp [dM (mK k xs)] at hb;omega)
 subst hn
 rw [oc (mK k xs) (Nat.le_refl _),List.take_length]
 exact ⟨rfl,rfl⟩
theorem lg (xs:List aL) (k:Int) (h1:0 ≤ k) (h2:k + bI xs ≤ 1000000000000000) (jg:dZ xs):eA Tryz.prog 236 (⟨false,[.sl 2 (xs.map aQ)]⟩) [.one (.c (.ref ⟨1000000,[],0⟩)),I k] (zF [.sl 2 ((mm k xs).map aQ)] (I (k + bI xs))):=by
 refine eA.w 27 Tryz.func236 fun w g0 _=> ?_
 refine gA [] [] [] (fun (i:Nat)=>[.set 0 (.one (.c (.ref ⟨1000000,[],0⟩))), .set 1 (I (k + aU jC (xs.take i))), .set 5 (I i)]) (fun (i:Nat)=>[(1000000,⟨false,[.own (.sl 2 ((kD (mm k xs) xs i).map aQ))]⟩)]) (fun (i:Nat)=>i ≤ xs.length) (fun (i:Nat)=>xs.length - i) (0) (by simp) ?_
 refine ⟨(vv (by repeat' first|exact rfl|refine And.intro ?_ ?_|exact True.intro|(refine eV ?_;simp [aU,lK]))),fun i hyp N1 bw=> ?_⟩
 have hyp:i ≤ xs.length:=hyp
 refine len ?_
 refine eJ (fun hb=> ?_) (fun hb=> ?_)
 have hi:i < xs.length:=by simpa [dM (mL k xs)] using hb
 have hlen:xs.length ≤ 2097152:=Nat.le_trans (show xs.length ≤ 1048576 from jg) (by decide)
 obtain ⟨x,hx⟩:=ev (xs:=xs) (k:=i) hi
 have hcs:=fG (c:=jC) hx
 have xF:=iA vZ xs (i + 1)
 have hc0:=cP vZ (xs.take i)
 have hcd:aU jC xs=bI xs:=rfl
 have hg:((kD (mm k xs) xs i).map aQ)[i]? = some (aQ x):=by simp [List.getElem?_map,n_ (mL k xs),hx]
 have hs:((kD (mm k xs) xs i).map aQ).set i (aQ (DY (k + aU jC (xs.take i)) x))=((kD (mm k xs) xs (i + 1)).map aQ):=by rw [← oa (mL k xs) (gT DY jC k hx),List.map_set]
 have oZ:((kD (mm k xs) xs i).map aQ).length=xs.length:=by simp [dM (mL k xs)]
 generalize ((kD (mm k xs) xs i).map aQ)=L at *
 simp only [aQ,gB,DY,jC] at hg hs hcs
 generalize Wc:aU jC (xs.take i)=m at *
 refine cS ?_ (by simp only [List.length_set,oZ];omega)
 refine xT hg ?_
 refine cD ?_
 refine cS ?_ (by simp only [List.length_set,oZ];omega)
 refine cA ?_
 refine cD ?_
 refine cD ?_
 refine bw _ _ _ ?_
 refine vu [] (i + 1) (by omega) (by repeat' first|exact rfl|refine And.intro ?_ ?_|exact True.intro|(refine eV ?_;first|exact congrArg (fun z:Int=>(I z:TS)) (by rw [hcs];omega)|(simp only [List.set_set];rw [← hs])))
 refine bw _ _ _ ?_
 have hn:i=xs.length:=(by simp [dM (mL k xs)] at hb;omega)
 subst hn
 rw [oc (mL k xs) (Nat.le_refl _),List.take_length]
 exact ⟨rfl,rfl⟩
theorem s_ (xs:List Bool) (k:Int) (h1:0 ≤ k) (h2:k + fI xs ≤ 1000000000000000) (jg:m4 xs):eA Tryz.prog 237 (⟨false,[.sl 1 (xs.map bz)]⟩) [.one (.c (.ref ⟨1000000,[],0⟩)),I k] (zF [.sl 1 ((oz k xs).map bz)] (I (k + fI xs))):=by
 refine eA.w 21 Tryz.func237 fun w g0 _=> ?_
 refine gA [] [] [] (fun (i:Nat)=>[.set 0 (.one (.c (.ref ⟨1000000,[],0⟩))), .set 1 (I (k + aU jD (xs.take i))), .set 5 (I i)]) (fun (i:Nat)=>[(1000000,⟨false,[.own (.sl 1 ((kD (oz k xs) xs i).map bz))]⟩)]) (fun (i:Nat)=>i ≤ xs.length) (fun (i:Nat)=>xs.length - i) (0) (by simp) ?_
 refine ⟨(vv (by repeat' first|exact rfl|refine And.intro ?_ ?_|exact True.intro|(refine eV ?_;simp [aU,lK]))),fun i hyp N1 bw=> ?_⟩
 have hyp:i ≤ xs.length:=hyp
 refine len ?_
 refine eJ (fun hb=> ?_) (fun hb=> ?_)
 have hi:i < xs.length:=by simpa [dM (mM k xs)] using hb
 have hlen:xs.length ≤ 2097152:=Nat.le_trans (show xs.length ≤ 1048576 from jg) (by decide)
 obtain ⟨x,hx⟩:=ev (xs:=xs) (k:=i) hi
 have hcs:=fG (c:=jD) hx
 have xF:=iA v7 xs (i + 1)
 have hc0:=cP v7 (xs.take i)
 have hcd:aU jD xs=fI xs:=rfl
 have hg:((kD (oz k xs) xs i).map bz)[i]? = some (bz x):=by simp [List.getElem?_map,n_ (mM k xs),hx]
 have hs:((kD (oz k xs) xs i).map bz).set i (bz (DZ (k + aU jD (xs.take i)) x))=((kD (oz k xs) xs (i + 1)).map bz):=by rw [← oa (mM k xs) (gT DZ jD k hx),List.map_set]
 have oZ:((kD (oz k xs) xs i).map bz).length=xs.length:=by simp [dM (mM k xs)]
 generalize ((kD (oz k xs) xs i).map bz)=L at *
 simp only [bz,DZ,jD] at hg hs hcs
 generalize Wc:aU jD (xs.take i)=m at *
 refine nz ?_
 refine cS ?_ (by simp only [List.length_set,oZ];omega)
 refine xT hg ?_
 refine cD ?_
 refine cD ?_
 refine bw _ _ _ ?_
 refine vu [] (i + 1) (by omega) (by repeat' first|exact rfl|refine And.intro ?_ ?_|exact True.intro|(refine eV ?_;first|exact congrArg (fun z:Int=>(I z:TS)) (by rw [hcs];omega)|(simp only [List.set_set, ← hs])))
 refine bw _ _ _ ?_
 have hn:i=xs.length:=(by simp [dM (mM k xs)] at hb;omega)
 subst hn
 rw [oc (mM k xs) (Nat.le_refl _),List.take_length]
 exact ⟨rfl,rfl⟩
theorem Da (xs:List iK) (k:Int) (h1:0 ≤ k) (h2:k + ff xs ≤ 1000000000000000) (jg:qI xs):eA Tryz.prog 245 (⟨false,[.sl 2 (xs.map jt)]⟩) [.one (.c (.ref ⟨1000000,[],0⟩)),I k] (zF [.sl 2 ((ug k xs).map jt)] (I (k + ff xs))):=by
 refine eA.w 27 Tryz.func245 fun w g0 _=> ?_
 refine gA [] [] [] (fun (i:Nat)=>[.set 0 (.one (.c (.ref ⟨1000000,[],0⟩))), .set 1 (I (k + aU k8 (xs.take i))), .set 5 (I i)]) (fun (i:Nat)=>[(1000000,⟨false,[.own (.sl 2 ((kD (ug k xs) xs i).map jt))]⟩)]) (fun (i:Nat)=>i ≤ xs.length) (fun (i:Nat)=>xs.length - i) (0) (by simp) ?_
 refine ⟨(vv (by repeat' first|exact rfl|refine And.intro ?_ ?_|exact True.intro|(refine eV ?_;simp [aU,lK]))),fun i hyp N1 bw=> ?_⟩
 have hyp:i ≤ xs.length:=hyp
 refine len ?_
 refine eJ (fun hb=> ?_) (fun hb=> ?_)
 have hi:i < xs.length:=by simpa [dM (nT k xs)] using hb
 have hlen:xs.length ≤ 2097152:=Nat.le_trans (show xs.length ≤ 1048576 from jg) (by decide)
 obtain ⟨x,hx⟩:=ev (xs:=xs) (k:=i) hi
 have hcs:=fG (c:=k8) hx
 have xF:=iA zb xs (i + 1)
 have hc0:=cP zb (xs.take i)
 have hcd:aU k8 xs=ff xs:=rfl
 have hg:((kD (ug k xs) xs i).map jt)[i]? = some (jt x):=by simp [List.getElem?_map,n_ (nT k xs),hx]
 have hs:((kD (ug k xs) xs i).map jt).set i (jt (KR (k + aU k8 (xs.take i)) x))=((kD (ug k xs) xs (i + 1)).map jt):=by rw [← oa (nT k xs) (gT KR k8 k hx),List.map_set]
 have oZ:((kD (ug k xs) xs i).map jt).length=xs.length:=by simp [dM (nT k xs)]
 generalize ((kD (ug k xs) xs i).map jt)=L at *
 simp only [jt,E3,KR,k8] at hg hs hcs
 generalize Wc:aU k8 (xs.take i)=m at *
 refine cS ?_ (by simp only [List.length_set,oZ];omega)
 refine xT hg ?_
 refine cD ?_
 refine cS ?_ (by simp only [List.length_set,oZ];omega)
 refine cA ?_
 refine cD ?_
 refine cD ?_
 refine bw _ _ _ ?_
 refine vu [] (i + 1) (by omega) (by repeat' first|exact rfl|refine And.intro ?_ ?_|exact True.intro|(refine eV ?_;first|exact congrArg (fun z:Int=>(I z:TS)) (by rw [hcs];omega)|(simp only [List.set_set];rw [← hs])))
 refine bw _ _ _ ?_
 have hn:i=xs.length:=(by simp [dM (nT k xs)] at hb;omega)
 subst hn
 rw [oc (nT k xs) (Nat.le_refl _),List.take_length]
 exact ⟨rfl,rfl⟩
theorem AG (xs:List av) (k:Int) (h1:0 ≤ k) (h2:k + gN xs ≤ 1000000000000000) (jg:ju xs):eA Tryz.prog 238 (⟨false,[.sl 15 (xs.map aY)]⟩) [.one (.c (.ref ⟨1000000,[],0⟩)),I k] (zF [.sl 15 ((nq k xs).map aY)] (I (k + gN xs))):=by
 refine eA.w 131 Tryz.func238 fun w g0 _=> ?_
 refine gA [] [] [] (fun (i:Nat)=>[.set 0 (.one (.c (.ref ⟨1000000,[],0⟩))), .set 1 (I (k + aU gM (xs.take i))), .set 5 (I i)]) (fun (i:Nat)=>[(1000000,⟨false,[.own (.sl 15 ((kD (nq k xs) xs i).map aY))]⟩)]) (fun (i:Nat)=>i ≤ xs.length) (fun (i:Nat)=>xs.length - i) (0) (by simp) ?_
 refine ⟨(vv (by repeat' first|exact rfl|refine And.intro ?_ ?_|exact True.intro|(refine eV ?_;simp [aU,lK]))),fun i hyp N1 bw=> ?_⟩
 have hyp:i ≤ xs.length:=hyp
 refine len ?_
 refine eJ (fun hb=> ?_) (fun hb=> ?_)
 have hi:i < xs.length:=by simpa [dM (k9 k xs)] using hb
 have hlen:xs.length ≤ 2097152:=Nat.le_trans (show xs.length ≤ 1048576 from jg.1) (by decide)
 obtain ⟨x,hx⟩:=ev (xs:=xs) (k:=i) hi
 have hcs:=fG (c:=gM) hx
 have xF:=iA uh xs (i + 1)
 have hc0:=cP uh (xs.take i)
 have hcd:aU gM xs=gN xs:=rfl
 have BT:aG x:=jg.2 x (List.mem_of_getElem? hx)
 have hn0:=FP x.Prog
 have hn1:=jK x.Written
 have hn2:=jK x.Live
 have hn3:=jV x.Seen
 have hg:((kD (nq k xs) xs i).map aY)[i]? = some (aY x):=by simp [List.getElem?_map,n_ (k9 k xs),hx]
 have hs:((kD (nq k xs) xs i).map aY).set i (aY (AB (k + aU gM (xs.take i)) x))=((kD (nq k xs) xs (i + 1)).map aY):=by rw [← oa (k9 k xs) (gT AB gM k hx),List.map_set]
 have oZ:((kD (nq k xs) xs i).map aY).length=xs.length:=by simp [dM (k9 k xs)]
 generalize ((kD (nq k xs) xs i).map aY)=L at *
 simp only [aY,bB,AB,gM] at hg hs hcs
 generalize Wc:aU gM (xs.take i)=m at *
 refine cS ?_ (by simp only [List.length_set,oZ];omega)
 refine xT hg ?_
 refine qG 1000000 0 i 0 (Da x.Prog ((k + m)) (by omega) (by omega) (BT.1)) ?_
 refine xT hg ?_
 refine And.intro rfl ?_
 refine cS ?_ (by simp only [List.length_set,oZ];omega)
 refine cA ?_
 refine cD ?_
 refine cS ?_ (by simp only [List.length_set,oZ];omega)
 refine cA ?_
 refine cD ?_
 refine cS ?_ (by simp only [List.length_set,oZ];omega)
 refine cA ?_
 refine qG 1000000 0 i 3 (lg x.Written ((k + m) + ff x.Prog + 1 + 1) (by omega) (by omega) (BT.2.1)) ?_
 refine cA ?_
 refine And.intro rfl ?_
 refine cS ?_ (by simp only [List.length_set,oZ];omega)
 refine cA ?_
 refine qG 1000000 0 i 4 (lg x.Live ((k + m) + ff x.Prog + 1 + 1 + bI x.Written) (by omega) (by omega) (BT.2.2.1)) ?_
 refine cA ?_
 refine And.intro rfl ?_
 refine cS ?_ (by simp only [List.length_set,oZ];omega)
 refine cA ?_
 refine cD ?_
 refine cS ?_ (by simp only [List.length_set,oZ];omega)
 refine cA ?_
 refine cD ?_
 refine nz ?_
 refine cS ?_ (by simp only [List.length_set,oZ];omega)
 refine cA ?_
 refine cD ?_
 refine cS ?_ (by simp only [List.length_set,oZ];omega)
 refine cA ?_
 refine cD ?_
 refine cS ?_ (by simp only [List.length_set,oZ];omega)
 refine cA ?_
 refine cD ?_
 refine cS ?_ (by simp only [List.length_set,oZ];omega)
 refine cA ?_
 refine cD ?_
 refine nz ?_
 refine cS ?_ (by simp only [List.length_set,oZ];omega)
 refine cA ?_
 refine cD ?_
 refine cS ?_ (by simp only [List.length_set,oZ];omega)
 refine cA ?_
 refine cD ?_
 refine nz ?_
 refine cS ?_ (by simp only [List.length_set,oZ];omega)
 refine cA ?_
 refine cD ?_
 refine cS ?_ (by simp only [List.length_set,oZ];omega)
 refine cA ?_
 refine qG 1000000 0 i 14 (mo x.Seen ((k + m) + ff x.Prog + 1 + 1 + bI x.Written + bI x.Live + 1 + 1 + 1 + 1 + 1 + 1 + 1 + 1 + 1) (by omega) (by omega) (BT.2.2.2)) ?_
 refine cA ?_
 refine And.intro rfl ?_
 refine cD ?_
 refine bw _ _ _ ?_
 refine vu [] (i + 1) (by omega) (by repeat' first|exact rfl|refine And.intro ?_ ?_|exact True.intro|(refine eV ?_;first|exact congrArg (fun z:Int=>(I z:TS)) (by rw [hcs];omega)|(simp only [List.set_set];rw [← hs])))
 refine bw _ _ _ ?_
 have hn:i=xs.length:=(by simp [dM (k9 k xs)] at hb;omega)
 subst hn
 rw [oc (k9 k xs) (Nat.le_refl _),List.take_length]
 exact ⟨rfl,rfl⟩
theorem BU (xs:List bQ) (k:Int) (h1:0 ≤ k) (h2:k + oT xs ≤ 1000000000000000) (jg:rI xs):eA Tryz.prog 239 (⟨false,[.sl 2 (xs.map bS)]⟩) [.one (.c (.ref ⟨1000000,[],0⟩)),I k] (zF [.sl 2 ((pV k xs).map bS)] (I (k + oT xs))):=by
 refine eA.w 27 Tryz.func239 fun w g0 _=> ?_
 refine gA [] [] [] (fun (i:Nat)=>[.set 0 (.one (.c (.ref ⟨1000000,[],0⟩))), .set 1 (I (k + aU iZ (xs.take i))), .set 5 (I i)]) (fun (i:Nat)=>[(1000000,⟨false,[.own (.sl 2 ((kD (pV k xs) xs i).map bS))]⟩)]) (fun (i:Nat)=>i ≤ xs.length) (fun (i:Nat)=>xs.length - i) (0) (by simp) ?_
 refine ⟨(vv (by repeat' first|exact rfl|refine And.intro ?_ ?_|exact True.intro|(refine eV ?_;simp [aU,lK]))),fun i hyp N1 bw=> ?_⟩
 have hyp:i ≤ xs.length:=hyp
 refine len ?_
 refine eJ (fun hb=> ?_) (fun hb=> ?_)
 have hi:i < xs.length:=by simpa [dM (mN k xs)] using hb
 have hlen:xs.length ≤ 2097152:=Nat.le_trans (show xs.length ≤ 1048576 from jg.1) (by decide)
 obtain ⟨x,hx⟩:=ev (xs:=xs) (k:=i) hi
 have hcs:=fG (c:=iZ) hx
 have xF:=iA v8 xs (i + 1)
 have hc0:=cP v8 (xs.take i)
 have hcd:aU iZ xs=oT xs:=rfl
 have BT:de x:=jg.2 x (List.mem_of_getElem? hx)
 have hn0:=rQ x.bY
 have hn1:=jK x.c8
 have hg:((kD (pV k xs) xs i).map bS)[i]? = some (bS x):=by simp [List.getElem?_map,n_ (mN k xs),hx]
 have hs:((kD (pV k xs) xs i).map bS).set i (bS (D0 (k + aU iZ (xs.take i)) x))=((kD (pV k xs) xs (i + 1)).map bS):=by rw [← oa (mN k xs) (gT D0 iZ k hx),List.map_set]
 have oZ:((kD (pV k xs) xs i).map bS).length=xs.length:=by simp [dM (mN k xs)]
 generalize ((kD (pV k xs) xs i).map bS)=L at *
 simp only [bS,fU,D0,iZ] at hg hs hcs
 generalize Wc:aU iZ (xs.take i)=m at *
 refine cS ?_ (by simp only [List.length_set,oZ];omega)
 refine xT hg ?_
 refine qG 1000000 0 i 0 (s_ x.bY ((k + m)) (by omega) (by omega) (BT.1)) ?_
 refine xT hg ?_
 refine And.intro rfl ?_
 refine cS ?_ (by simp only [List.length_set,oZ];omega)
 refine cA ?_
 refine qG 1000000 0 i 1 (lg x.c8 ((k + m) + fI x.bY) (by omega) (by omega) (BT.2)) ?_
 refine cA ?_
 refine And.intro rfl ?_
 refine cD ?_
 refine bw _ _ _ ?_
 refine vu [] (i + 1) (by omega) (by repeat' first|exact rfl|refine And.intro ?_ ?_|exact True.intro|(refine eV ?_;first|exact congrArg (fun z:Int=>(I z:TS)) (by rw [hcs];omega)|(simp only [List.set_set];rw [← hs])))
 refine bw _ _ _ ?_
 have hn:i=xs.length:=(by simp [dM (mN k xs)] at hb;omega)
 subst hn
 rw [oc (mN k xs) (Nat.le_refl _),List.take_length]
 exact ⟨rfl,rfl⟩
theorem Db (xs:List aO) (k:Int) (h1:0 ≤ k) (h2:k + kA xs ≤ 1000000000000000) (jg:tR xs):eA Tryz.prog 137 (⟨false,[.sl 9 (xs.map bh)]⟩) [.one (.c (.ref ⟨1000000,[],0⟩)),I k] (zF [.sl 9 ((uj k xs).map bh)] (I (k + kA xs))):=by
 refine eA.w 76 Tryz.func137 fun w g0 _=> ?_
 refine gA [] [] [] (fun (i:Nat)=>[.set 0 (.one (.c (.ref ⟨1000000,[],0⟩))), .set 1 (I (k + aU kz (xs.take i))), .set 5 (I i)]) (fun (i:Nat)=>[(1000000,⟨false,[.own (.sl 9 ((kD (uj k xs) xs i).map bh))]⟩)]) (fun (i:Nat)=>i ≤ xs.length) (fun (i:Nat)=>xs.length - i) (0) (by simp) ?_
 refine ⟨(vv (by repeat' first|exact rfl|refine And.intro ?_ ?_|exact True.intro|(refine eV ?_;simp [aU,lK]))),fun i hyp N1 bw=> ?_⟩
 have hyp:i ≤ xs.length:=hyp
 refine len ?_
 refine eJ (fun hb=> ?_) (fun hb=> ?_)
 have hi:i < xs.length:=by simpa [dM (nU k xs)] using hb
 have hlen:xs.length ≤ 2097152:=Nat.le_trans (show xs.length ≤ 1048576 from jg.1) (by decide)
 obtain ⟨x,hx⟩:=ev (xs:=xs) (k:=i) hi
 have hcs:=fG (c:=kz) hx
 have xF:=iA zc xs (i + 1)
 have hc0:=cP zc (xs.take i)
 have hcd:aU kz xs=kA xs:=rfl
 have BT:bf x:=jg.2 x (List.mem_of_getElem? hx)
 have hn0:=jK x.ai
 have hn1:=oS x.Out
 have hn2:=rQ x.a_
 have hn3:=AD x.aa
 have hn4:=jV x.bX
 have hn5:=CK x.Tables
 have hg:((kD (uj k xs) xs i).map bh)[i]? = some (bh x):=by simp [List.getElem?_map,n_ (nU k xs),hx]
 have hs:((kD (uj k xs) xs i).map bh).set i (bh (KS (k + aU kz (xs.take i)) x))=((kD (uj k xs) xs (i + 1)).map bh):=by rw [← oa (nU k xs) (gT KS kz k hx),List.map_set]
 have oZ:((kD (uj k xs) xs i).map bh).length=xs.length:=by simp [dM (nU k xs)]
 generalize ((kD (uj k xs) xs i).map bh)=L at *
 simp only [bh,va,KS,kz] at hg hs hcs
 generalize Wc:aU kz (xs.take i)=m at *
 refine cS ?_ (by simp only [List.length_set,oZ];omega)
 refine xT hg ?_
 refine qG 1000000 0 i 0 (lg x.ai ((k + m)) (by omega) (by omega) (BT.1)) ?_
 refine xT hg ?_
 refine And.intro rfl ?_
 refine cS ?_ (by simp only [List.length_set,oZ];omega)
 refine cA ?_
 refine qG 1000000 0 i 1 (s9 x.Out ((k + m) + bI x.ai) (by omega) (by omega) (BT.2.1)) ?_
 refine cA ?_
 refine And.intro rfl ?_
 refine cS ?_ (by simp only [List.length_set,oZ];omega)
 refine cA ?_
 refine qG 1000000 0 i 2 (s_ x.a_ ((k + m) + bI x.ai + di x.Out) (by omega) (by omega) (BT.2.2.1)) ?_
 refine cA ?_
 refine And.intro rfl ?_
 refine cS ?_ (by simp only [List.length_set,oZ];omega)
 refine cA ?_
 refine qG 1000000 0 i 3 (AG x.aa ((k + m) + bI x.ai + di x.Out + fI x.a_) (by omega) (by omega) (BT.2.2.2.1)) ?_
 refine cA ?_
 refine And.intro rfl ?_
 refine cS ?_ (by simp only [List.length_set,oZ];omega)
 refine cA ?_
 refine qG 1000000 0 i 4 (mo x.bX ((k + m) + bI x.ai + di x.Out + fI x.a_ + gN x.aa) (by omega) (by omega) (BT.2.2.2.2.1)) ?_
 refine cA ?_
 refine And.intro rfl ?_
 refine cS ?_ (by simp only [List.length_set,oZ];omega)
 refine cA ?_
 refine cD ?_
 refine cS ?_ (by simp only [List.length_set,oZ];omega)
 refine cA ?_
 refine cD ?_
 refine cS ?_ (by simp only [List.length_set,oZ];omega)
 refine cA ?_
 refine qG 1000000 0 i 7 (BU x.Tables ((k + m) + bI x.ai + di x.Out + fI x.a_ + gN x.aa + eI x.bX + 1 + 1) (by omega) (by omega) (BT.2.2.2.2.2)) ?_
 refine cA ?_
 refine And.intro rfl ?_
 refine cS ?_ (by simp only [List.length_set,oZ];omega)
 refine cA ?_
 refine cD ?_
 refine cD ?_
 refine bw _ _ _ ?_
 refine vu [] (i + 1) (by omega) (by repeat' first|exact rfl|refine And.intro ?_ ?_|exact True.intro|(refine eV ?_;first|exact congrArg (fun z:Int=>(I z:TS)) (by rw [hcs];omega)|(simp only [List.set_set];rw [← hs])))
 refine bw _ _ _ ?_
 have hn:i=xs.length:=(by simp [dM (nU k xs)] at hb;omega)
 subst hn
 rw [oc (nU k xs) (Nat.le_refl _),List.take_length]
 exact ⟨rfl,rfl⟩
theorem rS (xs:List bt) (k:Int) (h1:0 ≤ k) (h2:k + fK xs ≤ 1000000000000000) (jg:dh xs):eA Tryz.prog 138 (⟨false,[.sl 4 (xs.map aA)]⟩) [.one (.c (.ref ⟨1000000,[],0⟩)),I k] (zF [.sl 4 ((lW k xs).map aA)] (I (k + fK xs))):=by
 refine eA.w 41 Tryz.func138 fun w g0 _=> ?_
 refine gA [] [] [] (fun (i:Nat)=>[.set 0 (.one (.c (.ref ⟨1000000,[],0⟩))), .set 1 (I (k + aU ic (xs.take i))), .set 5 (I i)]) (fun (i:Nat)=>[(1000000,⟨false,[.own (.sl 4 ((kD (lW k xs) xs i).map aA))]⟩)]) (fun (i:Nat)=>i ≤ xs.length) (fun (i:Nat)=>xs.length - i) (0) (by simp) ?_
 refine ⟨(vv (by repeat' first|exact rfl|refine And.intro ?_ ?_|exact True.intro|(refine eV ?_;simp [aU,lK]))),fun i hyp N1 bw=> ?_⟩
 have hyp:i ≤ xs.length:=hyp
 refine len ?_
 refine eJ (fun hb=> ?_) (fun hb=> ?_)
 have hi:i < xs.length:=by simpa [dM (ld k xs)] using hb
 have hlen:xs.length ≤ 2097152:=Nat.le_trans (show xs.length ≤ 1048576 from jg) (by decide)
 obtain ⟨x,hx⟩:=ev (xs:=xs) (k:=i) hi
 have hcs:=fG (c:=ic) hx
 have xF:=iA uk xs (i + 1)
 have hc0:=cP uk (xs.take i)
 have hcd:aU ic xs=fK xs:=rfl
 have hg:((kD (lW k xs) xs i).map aA)[i]? = some (aA x):=by simp [List.getElem?_map,n_ (ld k xs),hx]
 have hs:((kD (lW k xs) xs i).map aA).set i (aA (AE (k + aU ic (xs.take i)) x))=((kD (lW k xs) xs (i + 1)).map aA):=by rw [← oa (ld k xs) (gT AE ic k hx),List.map_set]
 have oZ:((kD (lW k xs) xs i).map aA).length=xs.length:=by simp [dM (ld k xs)]
 generalize ((kD (lW k xs) xs i).map aA)=L at *
 simp only [aA,nQ,AE,ic] at hg hs hcs
 generalize Wc:aU ic (xs.take i)=m at *
 refine cS ?_ (by simp only [List.length_set,oZ];omega)
 refine xT hg ?_
 refine cD ?_
 refine cS ?_ (by simp only [List.length_set,oZ];omega)
 refine cA ?_
 refine cD ?_
 refine cS ?_ (by simp only [List.length_set,oZ];omega)
 refine cA ?_
 refine cD ?_
 refine cS ?_ (by simp only [List.length_set,oZ];omega)
 refine cA ?_
 refine cD ?_
 refine cD ?_
 refine bw _ _ _ ?_
 refine vu [] (i + 1) (by omega) (by repeat' first|exact rfl|refine And.intro ?_ ?_|exact True.intro|(refine eV ?_;first|exact congrArg (fun z:Int=>(I z:TS)) (by rw [hcs];omega)|(simp only [List.set_set];rw [← hs])))
 refine bw _ _ _ ?_
 have hn:i=xs.length:=(by simp [dM (ld k xs)] at hb;omega)
 subst hn
 rw [oc (ld k xs) (Nat.le_refl _),List.take_length]
 exact ⟨rfl,rfl⟩
theorem Dc (x:an) (k:Int) (h1:0 ≤ k) (h2:k + q6 x ≤ 1000000000000000) (jg:aj x):eA Tryz.prog 50 (⟨false,[.sl 1 (x.au.map aN), .sl 9 (x.ap.map bh), .sl 4 (x.Buffer.map aA), .sl 4 (x.aC.map aA)]⟩) [.one (.agg [.ref ⟨1000000,[],0⟩, .ref ⟨1000000,[],1⟩, .ref ⟨1000000,[],2⟩, .ref ⟨1000000,[],3⟩]),I k] (zF [.sl 1 ((oy (k) x.au).map aN), .sl 9 ((uj (k + di x.au) x.ap).map bh), .sl 4 ((lW (k + di x.au + kA x.ap) x.Buffer).map aA), .sl 4 ((lW (k + di x.au + kA x.ap + fK x.Buffer) x.aC).map aA)] (I (k + di x.au + kA x.ap + fK x.Buffer + fK x.aC))):=by
 refine eA.w 22 Tryz.func50 fun w g0 _=> ?_
 have Sq:=oS x.au
 have SG:=ze x.ap
 have Yq:=k_ x.Buffer
 have hq3:=k_ x.aC
 simp only [q6] at h2
 refine Af [(1000000,0)] (s9 x.au (k) (by omega) (by omega) (jg.1)) ?_
 refine Af [(1000000,1)] (Db x.ap (k + di x.au) (by omega) (by omega) (jg.2.1)) ?_
 refine Af [(1000000,2)] (rS x.Buffer (k + di x.au + kA x.ap) (by omega) (by omega) (jg.2.2.1)) ?_
 refine Af [(1000000,3)] (rS x.aC (k + di x.au + kA x.ap + fK x.Buffer) (by omega) (by omega) (jg.2.2.2)) ?_
 exact ⟨rfl,rfl⟩
theorem Dd (xs:List gn) (k:Int) (h1:0 ≤ k) (h2:k + xj xs ≤ 1000000000000000) (jg:vw xs):eA Tryz.prog 51 (⟨false,[.sl 6 (xs.map lP)]⟩) [.one (.c (.ref ⟨1000000,[],0⟩)),I k] (zF [.sl 6 ((v_ k xs).map lP)] (I (k + xj xs))):=by
 refine eA.w 55 Tryz.func51 fun w g0 _=> ?_
 refine gA [] [] [] (fun (i:Nat)=>[.set 0 (.one (.c (.ref ⟨1000000,[],0⟩))), .set 1 (I (k + aU lf (xs.take i))), .set 5 (I i)]) (fun (i:Nat)=>[(1000000,⟨false,[.own (.sl 6 ((kD (v_ k xs) xs i).map lP))]⟩)]) (fun (i:Nat)=>i ≤ xs.length) (fun (i:Nat)=>xs.length - i) (0) (by simp) ?_
 refine ⟨(vv (by repeat' first|exact rfl|refine And.intro ?_ ?_|exact True.intro|(refine eV ?_;simp [aU,lK]))),fun i hyp N1 bw=> ?_⟩
 have hyp:i ≤ xs.length:=hyp
 refine len ?_
 refine eJ (fun hb=> ?_) (fun hb=> ?_)
 have hi:i < xs.length:=by simpa [dM (nV k xs)] using hb
 have hlen:xs.length ≤ 2097152:=Nat.le_trans (show xs.length ≤ 1048576 from jg) (by decide)
 obtain ⟨x,hx⟩:=ev (xs:=xs) (k:=i) hi
 have hcs:=fG (c:=lf) hx
 have xF:=iA zf xs (i + 1)
 have hc0:=cP zf (xs.take i)
 have hcd:aU lf xs=xj xs:=rfl
 have hg:((kD (v_ k xs) xs i).map lP)[i]? = some (lP x):=by simp [List.getElem?_map,n_ (nV k xs),hx]
 have hs:((kD (v_ k xs) xs i).map lP).set i (lP (KT (k + aU lf (xs.take i)) x))=((kD (v_ k xs) xs (i + 1)).map lP):=by rw [← oa (nV k xs) (gT KT lf k hx),List.map_set]
 have oZ:((kD (v_ k xs) xs i).map lP).length=xs.length:=by simp [dM (nV k xs)]
 generalize ((kD (v_ k xs) xs i).map lP)=L at *
 simp only [lP,BG,KT,lf] at hg hs hcs
 generalize Wc:aU lf (xs.take i)=m at *
 refine cS ?_ (by simp only [List.length_set,oZ];omega)
 refine xT hg ?_
 refine cD ?_
 refine cS ?_ (by simp only [List.length_set,oZ];omega)
 refine cA ?_
 refine cD ?_
 refine cS ?_ (by simp only [List.length_set,oZ];omega)
 refine cA ?_
 refine cD ?_
 refine cS ?_ (by simp only [List.length_set,oZ];omega)
 refine cA ?_
 refine cD ?_
 refine cS ?_ (by simp only [List.length_set,oZ];omega)
 refine cA ?_
 refine cD ?_
 refine cS ?_ (by simp only [List.length_set,oZ];omega)
 refine cA ?_
 refine cD ?_
 refine cD ?_
 refine bw _ _ _ ?_
 refine vu [] (i + 1) (by omega) (by repeat' first|exact rfl|refine And.intro ?_ ?_|exact True.intro|(refine eV ?_;first|exact congrArg (fun z:Int=>(I z:TS)) (by rw [hcs];omega)|(simp only [List.set_set];rw [← hs])))
 refine bw _ _ _ ?_
 have hn:i=xs.length:=(by simp [dM (nV k xs)] at hb;omega)
 subst hn
 rw [oc (nV k xs) (Nat.le_refl _),List.take_length]
 exact ⟨rfl,rfl⟩
end Go.Proofs.YtdliggkohdnipaaGreat.T
