import Derived.Test.YtdliggkohdnipaaGreatNsq
import Derived.Test.YtdliggkohdnipaaGreatHbq
import Derived.Test.YtdliggkohdnipaaGreatHdq
import Derived.Test.YtdliggkohdnipaaGreatHeq
import Derived.Test.YtdliggkohdnipaaGreatOfq
import Derived.Test.YtdliggkohdnipaaGreatQlq
import Derived.Test.YtdliggkohdnipaaGreatOeq
import Derived.Test.YtdliggkohdnipaaGreatPfq
import Derived.Test.YtdliggkohdnipaaGreatRvq
import Derived.Test.YtdliggkohdnipaaGreatRaq
set_option linter.unusedVariables false
set_option linter.unusedSimpArgs false
namespace Go.Proofs.YtdliggkohdnipaaGreat.T
open Go
section
variable {s:lF}
set_option maxRecDepth 100000
set_option maxHeartbeats 8000000
theorem yt (h:jH s=true):s.bn.length=s.ai.length∧s.Own.length=s.ai.length∧s.ai.length ≤ 3:=by
 have h1:=(C2 h).1
 simp only [ig,bh,decide_eq_true_eq] at h1
 omega
theorem Pn {k:Nat} {u:aS} {t o:Int} (h:jH s=true) (hu:s.ai[k]? = some u) (ht:s.bn[k]? = some t) (ho:s.Own[k]? = some o):u.aa.length ≤ 2:=by
 have h1:=(C2 h).2 k (aM.1 hu).1
 rw [jQ hu ht ho] at h1
 simp only [bh,dg,decide_eq_true_eq] at h1
 omega
theorem IG (h:jH s=false):nU s=none:=by unfold nU;rw [h];rfl
theorem Dz (h:jH s=true):nU s=some ⟨jc 12,mF s s.ai.length,[],[]⟩:=by unfold nU;rw [h];rfl
instance (s:lF) (n:Nat):cX (mF s n) n:=⟨by simp [mF]⟩
abbrev um (s:lF):nQ→Prop:=RG [.a (aq ((nU s).getD GH)), .c (.v (.bool (nU s).isSome))]
theorem M0 (s:lF) [Q (yR s)]:aF Tryz.prog 22 [A (xy s)] (um s):=by
 refine aF.w 70 Tryz.func22 fun w g0 hM=> ?_
 have eW:=hM.1.1.map
 refine ah (G8 s).k ?_
 refine aB ?_ ?_ <;> intro hb
 ·exact (by show um s _;unfold um;rw [IG ‹_›];rfl)
 ·have hok:jH s=true:=by assumption
  have oQ:=yt hok
  refine bu (t_ 12 (by omega)).k ?_
  refine len ?_
  refine ck [1,2,3,4,15,16] [] [4,13] (fun (i:Nat)=>[.set 17 (I i)]) (fun (i:Nat)=>[(4,⟨true,[.own (.sl 1 ((jc 12).map aP)), .own (.sl 9 ((mF s i).map bA)), .own (.sl 4 []), .own (.sl 4 [])]⟩)]) (fun (i:Nat)=>i ≤ s.ai.length) (fun (i:Nat)=>s.ai.length - i) (0) (bG _) ?_
  refine ⟨hda,fun i hyp N1 bq=> ?_⟩
  have hyp:i ≤ s.ai.length:=hyp
  refine aB ?_ ?_ <;> intro iz
  ·obtain ⟨u,hu⟩:∃ u,s.ai[i]? = some u:=⟨_,bg (by omega)⟩
   obtain ⟨t,ht⟩:∃ t,s.bn[i]? = some t:=⟨_,bg (by omega)⟩
   obtain ⟨o,ho⟩:∃ o,s.Own[i]? = some o:=⟨_,bg (by omega)⟩
   have hug:=Pn hok hu ht ho
   have qu:Q (a_ u):=⟨jW.h u (aH hu)⟩
   refine dM hu ?_
   skip
   refine an ((Ab []).nilArg).k ?_
   refine bu (ko u.au).k ?_
   refine bu (gq u.aa).k ?_
   refine bu (iC u.cm).k ?_
   refine dM ht ?_
   skip
   refine dM ho ?_
   skip
   refine len ?_
   refine ck [1,2,3,4,7,15,16,17,52] [] [7,22] (fun (k:Nat)=>[.set 53 (I k)]) (fun (k:Nat)=>[(7,⟨true,[.own (.sl 2 ((gI 8).map aT)), .own (.sl 1 (u.au.map aP)), .own (.sl 1 ((List.replicate 8 false).map bO)), .own (.sl 15 (u.aa.map bp)), .own (.sl 1 (u.cm.map bS)), .own (.v (.int .i64 u.av)), .own (.v (.int .i64 t)), .own (.sl 2 ((List.replicate k mC).map cz)), .own (.v (.int .i64 o))]⟩)]) (fun (k:Nat)=>k ≤ u.aa.length) (fun (k:Nat)=>u.aa.length - k) (0) (bG _) ?_
   refine ⟨hda,fun k fq N2 oL=> ?_⟩
   have fq:k ≤ u.aa.length:=fq
   refine aB ?_ ?_ <;> intro tr
   ·refine cI [4,6] [(0,0),(1,0),(2,1),(3,1),(4,1),(5,0),(6,1)] ?_
    refine an (xV).k ?_
    refine lH ?_
    refine cg ?_
    refine oL _ _ _ ?_
    refine hY (k + 1) (by omega) (by repeat' first|exact rfl|constructor|(refine dL ?_;simp [fX,cS,c_,List.replicate_succ', *];done))
   ·refine oL _ _ _ ?_
    refine lH ?_
    refine cg ?_
    refine bq _ _ _ ?_
    refine hY (i + 1) (by omega) (by repeat' first|exact rfl|constructor|(refine dL ?_;rw [G5 hu ht ho, ← KI (u:=u) (t:=t) (o:=o) (k:=k) (by omega)];simp [R_,lU];done))
  ·refine bq _ _ _ ?_
   exact (by show um s _;unfold um;rw [Dz hok,show s.ai.length=i by omega];rfl)
theorem M1 (s:lF) [Q (yR s)]:aF Tryz.prog 142 [A (xy s)] (um s):=by
 refine aF.w 69 Tryz.func142 fun w g0 hM=> ?_
 have eW:=hM.1.1.map
 refine ah (G7 s).k ?_
 refine aB ?_ ?_ <;> intro hb
 ·exact (by show um s _;unfold um;rw [IG ‹_›];rfl)
 ·have hok:jH s=true:=by assumption
  have oQ:=yt hok
  refine bu (p6 12 (by omega)).k ?_
  refine ck [1,2,3,4] [] [4,14] (fun (i:Nat)=>[.set 5 (I i)]) (fun (i:Nat)=>[(4,⟨true,[.own (.sl 1 ((jc 12).map aP)), .own (.sl 9 ((mF s i).map bA)), .own (.sl 4 []), .own (.sl 4 [])]⟩)]) (fun (i:Nat)=>i ≤ s.ai.length) (fun (i:Nat)=>s.ai.length - i) (0) (bG _) ?_
  refine ⟨hda,fun i hyp N1 bq=> ?_⟩
  have hyp:i ≤ s.ai.length:=hyp
  refine len ?_
  refine aB ?_ ?_ <;> intro iz
  ·obtain ⟨u,hu⟩:∃ u,s.ai[i]? = some u:=⟨_,bg (by omega)⟩
   obtain ⟨t,ht⟩:∃ t,s.bn[i]? = some t:=⟨_,bg (by omega)⟩
   obtain ⟨o,ho⟩:∃ o,s.Own[i]? = some o:=⟨_,bg (by omega)⟩
   have hug:=Pn hok hu ht ho
   have qu:Q (a_ u):=⟨jW.h u (aH hu)⟩
   refine dM hu ?_
   skip
   refine an (gr u).k ?_
   refine xP [22] [] [] (.quiet 1 0 (.quiet 2 0 (.quiet 4 0 (.quiet 5 0 (.quiet 6 0 (.quiet 7 0 (.quiet 8 0 (.quiet 9 0 (.quiet 10 0 (.quiet 11 0 (.quiet 12 0 (.quiet 13 0 (.quiet 14 0 (.quiet 15 0 (.quiet 16 0 (.quiet 17 0 (.quiet 18 0 (.quiet 19 0 (.fork (.alt 0 (.fork (.alt 3 (.fork (.alt 20 (.fa 21 (.fa 22 .done)) (.alt 21 (.fa 20 (.fa 22 .done)) .stop))) (.alt 21 (.fa 3 (.fa 20 (.fa 22 .done))) .stop))) (.alt 3 (.fork (.alt 0 (.fork (.alt 20 (.fa 21 (.fa 22 .done)) (.alt 21 (.fa 20 (.fa 22 .done)) .stop))) (.alt 21 (.fa 0 (.fa 20 (.fa 22 .done))) .stop))) (.alt 21 (.fork (.alt 0 (.fa 3 (.fa 20 (.fa 22 .done))) (.alt 3 (.fa 0 (.fa 20 (.fa 22 .done))) .stop))) .stop)))))))))))))))))))))) [1,2,3,4,5,6] [] [7,6] [.set 7 (.one (.ptr ⟨7,[],0⟩))] [(7,⟨true,[.own (.sl 2 ((gI 8).map aT)), .own (.sl 1 (u.au.map aP)), .own (.sl 1 ((List.replicate 8 false).map bO)), .own (.sl 15 (u.aa.map bp)), .own (.sl 1 (u.cm.map bS)), .own (.v (.int .i64 u.av)), .own (.v (.int .i64 t)), .own (.sl 2 ([])), .own (.v (.int .i64 o))]⟩),(6,⟨true,[.ref ⟨7,[],1⟩, .ref ⟨7,[],3⟩, .ref ⟨7,[],4⟩, .own (.v (.int .i64 u.av))]⟩)] ?_
   refine ⟨?_, ?_⟩
   ·repeat' first|exact True.intro|refine And.intro ?_ ?_|(intro _ _)|refine bu (k9 8 (by omega)).k ?_|refine Tv 8 ?_|refine dM ht ?_|refine dM ho ?_|exact rfl
   refine ck [1,2,3,4,5,6,7] [] [7,48] (fun (k:Nat)=>[.set 8 (I k)]) (fun (k:Nat)=>[(7,⟨true,[.own (.sl 2 ((gI 8).map aT)), .own (.sl 1 (u.au.map aP)), .own (.sl 1 ((List.replicate 8 false).map bO)), .own (.sl 15 (u.aa.map bp)), .own (.sl 1 (u.cm.map bS)), .own (.v (.int .i64 u.av)), .own (.v (.int .i64 t)), .own (.sl 2 ((List.replicate k mC).map cz)), .own (.v (.int .i64 o))]⟩)]) (fun (k:Nat)=>k ≤ u.aa.length) (fun (k:Nat)=>u.aa.length - k) (0) (bG _) ?_
   refine ⟨hda,fun k fq N2 oL=> ?_⟩
   have fq:k ≤ u.aa.length:=fq
   refine len ?_
   refine aB ?_ ?_ <;> intro tr
   ·refine cI [4,6] [(0,0),(1,0),(2,1),(3,1),(4,1),(5,0),(6,1)] ?_
    refine an (xU).k ?_
    refine lH ?_
    refine cg ?_
    refine oL _ _ _ ?_
    refine hY (k + 1) (by omega) (by repeat' first|exact rfl|constructor|(refine dL ?_;simp [fX,cS,c_,List.replicate_succ', *];done))
   ·refine oL _ _ _ ?_
    refine lH ?_
    refine cg ?_
    refine bq _ _ _ ?_
    refine hY (i + 1) (by omega) (by repeat' first|exact rfl|constructor|(refine dL ?_;rw [G5 hu ht ho, ← KI (u:=u) (t:=t) (o:=o) (k:=k) (by omega)];simp [R_,lU];done))
  ·refine bq _ _ _ ?_
   exact (by show um s _;unfold um;rw [Dz hok,show s.ai.length=i by omega];rfl)
end
set_option maxRecDepth 100000
set_option maxHeartbeats 8000000
theorem DA (n:Nat) (h:n ≤ 1048576):eD (jc n):=⟨by simp [jc,h],fun x hx=>by rw [List.eq_of_mem_replicate hx];simp [dP]⟩
theorem Ud {u:aS} {t o:Int} (h:a_ u):bt (lU u t o):=by
 refine ⟨by simp [lU,eM,gI],h.1,by simp [lU,ou],h.2.1,h.2.2, ?_⟩
 have hg:=h.2.1.1
 rw [G6]
 refine ⟨by simpa using hg,fun x hx=> ?_⟩
 rw [List.eq_of_mem_replicate hx]
 exact ⟨by simp [mC,ou],by simp [mC,eM]⟩
theorem Xt {s:lF} (hs:yR s):aj ((nU s).getD GH):=by
 cases h:jH s with
 | false=>rw [IG h];exact ⟨⟨by simp,fun x hx=>by cases hx⟩,⟨by simp,fun x hx=>by cases hx⟩,by simp [c4],by simp [c4]⟩
 | true=>
  have hp:=yt h
  rw [Dz h]
  refine ⟨DA 12 (by omega),⟨by simp [mF];omega,fun x hx=> ?_⟩,by simp [c4],by simp [c4]⟩
  simp only [Option.getD_some,mF,j7,List.mem_range] at hx
  obtain ⟨k,hk,rfl⟩:=hx
  have hu:s.ai[k]? = some s.ai[k]:=bg hk
  rw [hu]
  exact Ud (hs.1.2 _ (aH hu))
section
variable {i:Nat}
set_option maxRecDepth 100000
set_option maxHeartbeats 8000000
def Rd (all:List (List (List bZ))) (i:Nat):ap:=⟨jc 12,(all.take i).map pn,[],[]⟩
theorem II {all:List (List (List bZ))} (h:i=min all.length 3):Rd all i=gj all:=by
 have e:all.take i=all.take 3:=by
  subst h
  rcases Nat.le_total all.length 3 with h|h
  rw [Nat.min_eq_left h,fu (gL _),fu h]
  rw [Nat.min_eq_right h]
 unfold Rd gj
 rw [e]
theorem IJ {ps:List (List bZ)} (h:i ≤ 2∧i ≤ ps.length) (h2:¬ i < ps.length ∨ ¬ i < 2):Sa ps i=pn ps:=KJ (by omega)
theorem Ed {ps:List (List (List bZ))} (h:i ≤ 3∧i ≤ ps.length) (h2:¬ i < ps.length ∨ ¬ i < 3):Rd ps i=gj ps:=II (by omega)
theorem Po {p:List bZ} (hp:ju p):aJ (qF p):=⟨hp,by show (gI 4).length ≤ _;decide,by show (gI 4).length ≤ _;decide,by show ([]:List Int).length ≤ _;decide⟩
theorem Ue {ps:List (List bZ)} (hp:kK ps):bt (pn ps):=by
 refine ⟨by show (gI 8).length ≤ _;decide,DA 8 (by decide),by show (List.replicate 8 false).length ≤ _;decide,⟨?_,fun x hx=> ?_⟩,by show ([]:List Int).length ≤ _;decide,⟨?_,fun x hx=> ?_⟩⟩
 show ((ps.take 2).map qF).length ≤ _
 rw [aI,e_]
 omega
 obtain ⟨y,hy,rfl⟩:=j7.1 hx
 exact Po (hp.2 y (List.mem_of_mem_take hy))
 show ((ps.take 2).map _).length ≤ _
 rw [aI,e_]
 omega
 obtain ⟨y,hy,rfl⟩:=j7.1 hx
 exact ⟨by show (List.replicate 4 false).length ≤ _;decide,by show (List.replicate 4 bE).length ≤ _;decide⟩
theorem IK {all:List (List (List bZ))} (hp:dY all):aj (gj all):=by
 refine ⟨DA 12 (by decide),⟨?_,fun x hx=> ?_⟩,by show (0:Nat) ≤ _;decide,by show (0:Nat) ≤ _;decide⟩
 show ((all.take 3).map pn).length ≤ _
 rw [aI,e_]
 omega
 obtain ⟨y,hy,rfl⟩:=j7.1 hx
 exact Ue (hp.2 y (List.mem_of_mem_take hy))
instance (all:List (List (List bZ))) [h:Q (dY all)]:Q (aj (gj all)):=⟨IK h.h⟩
theorem JF (ps:List (List bZ)) [Q (kK ps)]:aF Tryz.prog 112 [L 1 (ps.map h_)] (RG [.a (vv (pn ps))]):=by
 refine aF.w 36 Tryz.func112 fun w g0 hM=> ?_
 have eW:=hM.1.map
 refine xP [5] [] [] (.fork (.alt 0 (.fork (.alt 1 (.fork (.alt 2 (.fork (.alt 3 (.fa 4 (.fa 5 .done)) (.alt 4 (.fa 3 (.fa 5 .done)) .stop))) (.alt 4 (.fa 2 (.fa 3 (.fa 5 .done))) .stop))) (.alt 2 (.fork (.alt 1 (.fork (.alt 3 (.fa 4 (.fa 5 .done)) (.alt 4 (.fa 3 (.fa 5 .done)) .stop))) (.alt 4 (.fa 1 (.fa 3 (.fa 5 .done))) .stop))) (.alt 4 (.fork (.alt 1 (.fa 2 (.fa 3 (.fa 5 .done))) (.alt 2 (.fa 1 (.fa 3 (.fa 5 .done))) .stop))) .stop)))) (.alt 2 (.fork (.alt 0 (.fork (.alt 1 (.fork (.alt 3 (.fa 4 (.fa 5 .done)) (.alt 4 (.fa 3 (.fa 5 .done)) .stop))) (.alt 4 (.fa 1 (.fa 3 (.fa 5 .done))) .stop))) (.alt 4 (.fa 0 (.fa 1 (.fa 3 (.fa 5 .done)))) .stop))) (.alt 4 (.fork (.alt 0 (.fork (.alt 1 (.fa 2 (.fa 3 (.fa 5 .done))) (.alt 2 (.fa 1 (.fa 3 (.fa 5 .done))) .stop))) (.alt 2 (.fa 0 (.fa 1 (.fa 3 (.fa 5 .done)))) .stop))) .stop)))) [0,2] [] [3] [.set 3 (.one (.ptr ⟨3,[],0⟩))] [(3,⟨true,[.own (.sl 2 ((gI 8).map aT)), .own (.sl 1 ((jc 8).map aP)), .own (.sl 1 ((List.replicate 8 false).map bO)), .own (.sl 15 ([])), .own (.sl 1 []), .own (.v (.int .i64 0)), .own (.v (.int .i64 0)), .own (.sl 2 ([])), .own (.v (.int .i64 0))]⟩)] ?_
 refine ⟨?_, ?_⟩
 ·repeat' first|exact True.intro|refine And.intro ?_ ?_|(intro _ _)|refine bu (k9 8 (by decide)).k ?_|refine bu (p6 8 (by decide)).k ?_|refine Tv 8 ?_|exact rfl
 refine ck [0,2,3] [] [3] (fun (i:Nat)=>[.set 4 (I i)]) (fun (i:Nat)=>[(3,⟨true,[.own (.sl 2 ((gI 8).map aT)), .own (.sl 1 ((jc 8).map aP)), .own (.sl 1 ((List.replicate 8 false).map bO)), .own (.sl 15 (((ps.take i).map qF).map bp)), .own (.sl 1 []), .own (.v (.int .i64 0)), .own (.v (.int .i64 0)), .own (.sl 2 ((List.replicate i mC).map cz)), .own (.v (.int .i64 0))]⟩)]) (fun (i:Nat)=>i ≤ 2∧i ≤ ps.length) (fun (i:Nat)=>2 - i) (0) (⟨by omega,by omega⟩) ?_
 refine ⟨hda,fun i hyp N1 bq=> ?_⟩
 have hyp:i ≤ 2∧i ≤ ps.length:=hyp
 have Es:=hyp.1
 have hyp2:=hyp.2
 refine len ?_
 refine aB ?_ ?_ <;> intro Fu
 ·refine aB ?_ ?_ <;> intro hb
  ·obtain ⟨p,hp⟩:∃ p,ps[i]? = some p:=⟨_,bg (by omega)⟩
   have qp:Q (ju p):=⟨jW.h p (aH hp)⟩
   refine cI [8,10] [(0,0),(1,0),(2,0),(3,0),(4,0),(5,0),(6,1),(7,1),(8,1),(9,0),(10,1)] ?_
   refine dM hp ?_
   skip
   refine an (Eu p).k ?_
   refine lH ?_
   refine cI [4,6] [(0,0),(1,0),(2,1),(3,1),(4,1),(5,0),(6,1)] ?_
   refine an (xU).k ?_
   refine lH ?_
   refine cg ?_
   refine bq _ _ _ ?_
   refine hY (i + 1) (⟨by omega,by omega⟩) (by repeat' first|exact rfl|constructor|(refine dL ?_;simp [fX,cS,c_,List.replicate_succ',fX,hp, *];done))
  ·refine bq _ _ _ ?_
   exact (by rw [← IJ hyp (by omega)];rfl)
 ·refine bq _ _ _ ?_
  exact (by rw [← IJ hyp (by omega)];rfl)
theorem IL (al:List (List (List bZ))) [Q (dY al)]:aF Tryz.prog 34 [L 1 (al.map de)] (RG [.a (aq (gj al))]):=by
 refine aF.w 28 Tryz.func34 fun w g0 hM=> ?_
 have eW:=hM.1.map
 refine bu (p6 12 (by decide)).k ?_
 refine ck [0,2,3] [] [3,6] (fun (i:Nat)=>[.set 4 (I i)]) (fun (i:Nat)=>[(3,⟨true,[.own (.sl 1 ((jc 12).map aP)), .own (.sl 9 (((al.take i).map pn).map bA)), .own (.sl 4 []), .own (.sl 4 [])]⟩)]) (fun (i:Nat)=>i ≤ 3∧i ≤ al.length) (fun (i:Nat)=>3 - i) (0) (⟨by omega,by omega⟩) ?_
 refine ⟨hda,fun i hyp N1 bq=> ?_⟩
 have hyp:i ≤ 3∧i ≤ al.length:=hyp
 have Es:=hyp.1
 have hyp2:=hyp.2
 refine len ?_
 refine aB ?_ ?_ <;> intro Fu
 ·refine aB ?_ ?_ <;> intro hb
  ·obtain ⟨p,hp⟩:∃ p,al[i]? = some p:=⟨_,bg (by omega)⟩
   have qp:Q (kK p):=⟨jW.h p (aH hp)⟩
   refine cI [8,10] [(0,0),(1,0),(2,0),(3,0),(4,0),(5,0),(6,1),(7,1),(8,1),(9,0),(10,1)] ?_
   refine dM hp ?_
   skip
   refine an (JF p).k ?_
   refine lH ?_
   refine cg ?_
   refine bq _ _ _ ?_
   refine hY (i + 1) (⟨by omega,by omega⟩) (by repeat' first|exact rfl|constructor|(refine dL ?_;simp [fX,cS,c_,fX,hp, *];done))
  ·refine bq _ _ _ ?_
   exact (by rw [← Ed hyp (by omega)];rfl)
 ·refine bq _ _ _ ?_
  exact (by rw [← Ed hyp (by omega)];rfl)
theorem IM (al:List (List (List bZ))) [Q (dY al)]:aF Tryz.prog 153 [L 1 (al.map de)] (RG [.a (aq (gj al))]):=by
 refine aF.w 27 Tryz.func153 fun w g0 hM=> ?_
 have eW:=hM.1.map
 refine bu (t_ 12 (by decide)).k ?_
 refine len ?_
 refine cut 0 (min al.length 3) ?_ rfl (by split <;> omega) (by omega) (by simp;omega)
 refine LU (min al.length 3) ?_ (by show ((al.map de).take (min al.length 3)).length=_;rw [e_,aI];omega)
 refine ck [2,3,12,13] [] [3,7] (fun (i:Nat)=>[.set 14 (I i)]) (fun (i:Nat)=>[(3,⟨true,[.own (.sl 1 ((jc 12).map aP)), .own (.sl 9 (((al.take i).map pn).map bA)), .own (.sl 4 []), .own (.sl 4 [])]⟩)]) (fun (i:Nat)=>i ≤ 3∧i ≤ al.length) (fun (i:Nat)=>3 - i) (0) (⟨by omega,by omega⟩) ?_
 refine ⟨hda,fun i hyp N1 bq=> ?_⟩
 have hyp:i ≤ 3∧i ≤ al.length:=hyp
 have Es:=hyp.1
 have hyp2:=hyp.2
 refine aB ?_ ?_ <;> intro hb
 ·obtain ⟨p,hp⟩:∃ p,al[i]? = some p:=⟨_,bg (by omega)⟩
  have qp:Q (kK p):=⟨jW.h p (aH hp)⟩
  refine ixd (m:=i) (d:=de p) (by show ((al.map de).take (min al.length 3))[i]? = _;rw [List.getElem?_take,if_pos (by omega),ec,hp];rfl) ?_
  skip
  refine cI [5,7] [(0,0),(1,0),(2,0),(3,1),(4,1),(5,1),(6,0),(7,1)] ?_
  refine an (Ab p).k ?_
  refine lH ?_
  refine cg ?_
  refine bq _ _ _ ?_
  refine hY (i + 1) (⟨by omega,by omega⟩) (by repeat' first|exact rfl|constructor|(refine dL ?_;simp [fX,cS,c_,fX,hp, *];done))
 ·refine bq _ _ _ ?_
  exact (by rw [← II (all:=al) (i:=i) (by omega)];rfl)
end
section
variable {l:List dF} {i:Nat} {a:dF}
set_option maxRecDepth 100000
set_option maxHeartbeats 8000000
instance wlBares (xs:List aS):WL (xs.map wj):=⟨fun d hd=>by obtain ⟨x,_,rfl⟩:=j7.1 hd;exact ⟨YM x⟩⟩
section
variable {σ:Type} {f: σ→dF→ σ×jE}
theorem Pp {s: σ}:dJ f (l ++ [a]) s=(f (dJ f l s) a).1:=by unfold dJ;rw [List.foldl_append];rfl
theorem Ee {a:dF}:∀ {l:List dF} {s: σ},toldOf f (l ++ [a]) s=toldOf f l s ++ [(f (dJ f l s) a).2]
 | [],s=>rfl
 | b :: l,s=>by
  show (f s b).2 :: toldOf f (l ++ [a]) (f s b).1=_
  rw [Ee]
  rfl
theorem zm {s: σ} (h:l[i]? = some a):dJ f (l.take (i + 1)) s=(f (dJ f (l.take i) s) a).1:=by rw [fX,h];exact Pp
theorem DB {s: σ} (h:l[i]? = some a):toldOf f (l.take (i + 1)) s=toldOf f (l.take i) s ++ [(f (dJ f (l.take i) s) a).2]:=by rw [fX,h];exact Ee
theorem ve:∀ {l:List dF} {s: σ},(toldOf f l s).length=l.length
 | [],s=>rfl
 | a :: l,s=>by show (toldOf f l _).length + 1=_;rw [ve];rfl
instance (l:List dF) (s: σ) (n:Nat) [h:cX l n]:cX (toldOf f l s) n:=⟨by rw [ve];exact h.h⟩
end
end
section
variable {aX l:List dF} {n:Nat}
set_option maxRecDepth 100000
set_option maxHeartbeats 8000000
theorem Cx:∀ {l:List dF} {s:ap},aj s→aj (dJ aW l s)
 | [],s,h=>h
 | a :: l,s,h=>Cx (l:=l) (Rc h)
instance (l:List dF) (s:ap) [h:Q (aj s)]:Q (aj (dJ aW l s)):=⟨Cx h.h⟩
theorem Pq {all:List (List (List bZ))} (h:dY all):aj (je all aX).1:=Cx (IK h)
theorem yu {all:List (List (List bZ))} {j:Nat} (h:(aX.take 80).length ≤ j):je all aX=(dJ aW ((aX.take 80).take j) (gj all),toldOf aW ((aX.take 80).take j) (gj all)):=by
 unfold je
 rw [fu h]
abbrev EZ (l:List dF):Prop:=∀ a ∈ l,a.X ≤ 9223372036854775807
theorem IN (h:EZ l):EZ (l.take n):=fun a ha=>h a (List.mem_of_mem_take ha)
theorem Xu (h:EZ l):EZ (l.drop n):=fun a ha=>h a (List.mem_of_mem_drop ha)
theorem E0 (al:List (List (List bZ))) (aX:List dF) [Q (dY al)] [Q (ja aX)] (hr:EZ aX):aF Tryz.prog 73 [L 1 (al.map de),L 6 (aX.map gO)] (RG [.a (aq (je al aX).1), .c (.sl 2 ((je al aX).2.map gU))]):=by
 refine aF.w 36 Tryz.func73 fun w g0 _=> ?_
 refine an (IM al).k ?_
 refine KS (u_ aX) ?_
 refine len ?_
 refine ck [4,5,6,7,16,17] [7] [7,6,13] (fun (j:Nat)=>[.set 18 (I j)]) (fun (j:Nat)=>[(7,⟨false,[.own (.sl 2 ((toldOf aW ((aX.take 80).take j) (gj al)).map gU))]⟩),(6,⟨true,[.own (.sl 1 ((dJ aW ((aX.take 80).take j) (gj al)).au.map aP)), .own (.sl 9 ((dJ aW ((aX.take 80).take j) (gj al)).ai.map bA)), .own (.sl 4 ((dJ aW ((aX.take 80).take j) (gj al)).Buffer.map aC)), .own (.sl 4 ((dJ aW ((aX.take 80).take j) (gj al)).aD.map aC))]⟩)]) (fun (j:Nat)=>j ≤ (aX.take 80).length) (fun (j:Nat)=>(aX.take 80).length - j) (0) (bG _) ?_
 refine ⟨hda,fun j IP N1 bq=> ?_⟩
 have IP:j ≤ (aX.take 80).length:=IP
 have S8:=(inferInstance:cX (aX.take 80) 1048576).h
 refine aB ?_ ?_ <;> intro hb
 obtain ⟨a,ha⟩:∃ a,(aX.take 80)[j]? = some a:=⟨_,bg (by omega)⟩
 have qax:Q (a.X ≤ 9223372036854775807):=⟨hr a (List.mem_of_mem_take (aH ha))⟩
 refine dM ha ?_
 first|refine cJ ?_|refine aL ‹_› ?_|refine sn (fun z1 XP XQ XR=> ?_)|skip
 refine an (yq (dJ aW ((aX.take 80).take j) (gj al)) a).k ?_
 refine cD ?_
 refine cg ?_
 refine bq _ _ _ ?_
 refine hY (j + 1) (by omega) (by repeat' first|exact rfl|constructor|(refine dL ?_;(rw [zm ha];done))|(refine dL ?_;(rw [DB ha,iW];first|done|exact rfl)))
 refine bq _ _ _ ?_
 exact (by rw [yu (j:=j) (by omega)];rfl)
end
section
variable {c:Code} {fn:Func} {f:FuncId} {r0 wy:List (Nat×Nat)} {row:List D} {qs:List Nat} {pts:List TS} {P:Program}
theorem TC.marks {P:Program} {w0:World} {g0:Gh} {c:Code} {l:List TS} {rs:Rs} {Q:Exit→St→Prop}:∀ (mk:List Nat),(mk ++ rs.map (·.1)).Nodup→(∀ k ∈ mk,k < 1000000)→TC P w0 g0 c ⟨l,mk.map (fun k=>(k,⟨false,[]⟩)) ++ rs⟩ Q→TC P w0 g0 c ⟨l,rs⟩ Q
 | [],_,_,h=>h
 | k :: mk,hn,hlt,h=>by
  have hn':k ∉ mk ++ rs.map (·.1)∧(mk ++ rs.map (·.1)).Nodup:=List.nodup_cons.1 hn
  refine TC.marks mk hn'.2 (fun k' hk=>hlt k' (xb _ hk)) fun a w g hR=> ?_
  have hne:∀ x ∈ mk.map (fun k=>((k,⟨false,[]⟩):Nat×Rt)) ++ rs,x.1 ≠ k:=fun x hx e=>by
   rcases xa.1 hx with hx|hx
   obtain ⟨k',h1,rfl⟩:=j7.1 hx
   exact hn'.1 (List.mem_append_left _ (e ▸ h1))
   exact hn'.1 (List.mem_append_right _ (e ▸ List.mem_map_of_mem hx))
  have gT:(⟨l,mk.map (fun k=>((k,⟨false,[]⟩):Nat×Rt)) ++ rs⟩:St).root k=none:=by
   unfold St.root
   rw [List.find?_eq_none.2 fun x hx=>by simpa using hne x hx]
   rfl
  have h1:=hR.Fh (hlt k uy) gT (row:=[]) fun q d hq=>by simp at hq
  have h2:(⟨l,mk.map (fun k=>((k,⟨false,[]⟩):Nat×Rt)) ++ rs⟩:St).cw k ⟨false,([]:List D).map C.own⟩=⟨l,(k :: mk).map (fun k=>((k,⟨false,[]⟩):Nat×Rt)) ++ rs⟩:=by
   unfold St.cw
   rw [List.filter_eq_self.2 fun x hx=>by simpa using hne x hx]
   rfl
  rw [h2] at h1
  exact h a w g h1
def keptE (rs:Rs) (refs:List (Nat×Nat)) (nr:Nat) (wy:List (Nat×Nat)) (qs:List Nat):Prop:=∃ (jw i:Nat) (r:List (Nat×Nat)) (b q1:Nat) (m:Bool) (row:List C),wy=(jw,i) :: r∧refs[jw]? = some (b,q1)∧
 (⟨[],rs⟩:St).root 1000000=some ⟨m,row⟩∧row.drop nr=qs.map fun q=>C.ref ⟨b,(q1,i) :: r,q⟩
def Xv (P:Program) (n:Nat) (rv:List ResultVar) (nr:Nat) (wy:List (Nat×Nat)) (qs:List Nat) (R:nQ→Prop) (e:List En) (rs:Rs):Prop:=
 Kt P n e rs rv fun dm=>BR (Nat.ble rv.length 4 && CU (dm.flatMap fR)) (Gz rs (dm.flatMap fR) fun row=>R ⟨row,fun k=>oO (dm.map (jo (dm.flatMap fR) k))⟩∧keptE rs (dm.flatMap fR) nr wy qs) False
def SX (P:Program) (n:Nat) (rv:List ResultVar) (nr:Nat) (wy:List (Nat×Nat)) (qs:List Nat) (R:nQ→Prop):Kx:=fun ex e rs=>match ex with
 | .normal=>Xv P n rv nr wy qs R e rs
 | .ret=>Xv P n rv nr wy qs R e rs
 | _=>False
theorem Pr {n:Nat} {nr:Nat} {R:nQ→Prop} {ex:Exit} {st:St} (h:Lf n (SX P n fn.results.toList nr wy qs R) ex st):Vi P fn nr wy qs R ex st:=by
 obtain ⟨e,rs,rfl,h⟩:=h
 have key:Xv P n fn.results.toList nr wy qs R e rs→∀ ex,(ex= .normal ∨ ex= .ret)→Vi P fn nr wy qs R ex (aZ n e rs):=fun h ex hex=>by
  obtain ⟨dm,h1,h2⟩:=xu h
  obtain ⟨h3,h4⟩:=bQ h2
  simp only [bh] at h3
  obtain ⟨row,h5,h6,jw,i,r,b,q1,m,Ej,h7,h8,h9,mo⟩:=yP (n:=n) (e:=e) h4
  refine ⟨hex,fn.results.toList,dm,row,rfl,fA h3.1,h1,yO h3.2,h5,h6,jw,i,r,b,q1,⟨m,Ej⟩,h7,h8,h9,fun j q hj=> ?_⟩
  have qT:=congrArg (fun l:List C=>l[j]?) mo
  simp only [List.getElem?_drop,ec,hj,Option.map_some] at qT
  exact qT
 unfold SX at h
 split at h
 exact key h _ (.inl rfl)
 exact key h _ (.inr rfl)
 exact h.elim
noncomputable def mkR (mk:List Nat) (rs:Rs):Rs:= @List.rec Nat (fun _=>Rs) rs (fun k _ ih=>(k,⟨false,[]⟩) :: ih) mk
theorem IQ:∀ {mk:List Nat} {rs:Rs},mkR mk rs=mk.map (fun k=>(k,⟨false,[]⟩)) ++ rs
 | [],_=>rfl
 | k :: mk,rs=>by
  show ((k,⟨false,[]⟩):Nat×Rt) :: mkR mk rs=(k,⟨false,[]⟩) :: (mk.map (fun k=>((k,⟨false,[]⟩):Nat×Rt)) ++ rs)
  rw [IQ]
theorem kZ.w {x:Nat×Nat} {R:nQ→Prop} (mk:List Nat) (n:Nat) (hf:P.funcs[f]? = some fn) 
  (hh:∀ w g0,jq pts→sj 0 pts fun e=>f_ (row.map C.own ++ qs.map fun q=>C.ref ⟨1000000,x :: r0,q⟩) fun cs=>wC P w g0 n c e (mkR mk [(1000000,⟨false,cs⟩)]) (SX P n fn.results.toList row.length (x :: r0) qs R))
  (hp:pts.map (TS.kill (fun pl=>Nat.beq pl.k cu && (pl.p.isEmpty && Nat.ble row.length pl.q)) fun _=>false)=pts:=by exact rfl)
  (hb:fn.body=some c:=by exact rfl) (hn:fn.ntmps=n:=by exact rfl) (eW:Nat.ble pts.length n=true:=by exact rfl)
  (hmk:(mk ++ [1000000]).Nodup:=by decide) (hml:∀ k ∈ mk,k < 1000000:=by decide):kZ P f row (x :: r0) qs pts R:=by
 have hl:=fA eW
 subst hn
 refine kZ.of hf hb hl hp fun w g0=>TC.jq fun hM=>TC.marks mk hmk hml ?_
 obtain ⟨e,h1,h2⟩:=jC (m:=0) (hh w g0 hM)
 have h3:=dK.1 h2
 rw [← IQ]
 show TC P w g0 c ⟨pts ++ List.replicate (fn.ntmps - pts.length) (.one .dead),mkR mk [(1000000,⟨false,row.map C.own ++ qs.map fun q=>C.ref ⟨1000000,x :: r0,q⟩⟩)]⟩ _
 rw [mA hl h1]
 exact (n7 h3).mono fun ex st hl=>Pr hl
theorem kZ.wJ {x:Nat×Nat} {R:nQ→Prop} (mk:List Nat) (n:Nat) (hf:P.funcs[f]? = some fn) 
  (hh:∀ w g0,jq pts→sj 0 pts fun e=>f_ (row.map C.own ++ qs.map fun q=>C.ref ⟨1000000,x :: r0,q⟩) fun cs=>JW P w g0 n c e (mkR mk [(1000000,⟨false,cs⟩)]) (SX P n fn.results.toList row.length (x :: r0) qs R))
  (hp:pts.map (TS.kill (fun pl=>Nat.beq pl.k cu && (pl.p.isEmpty && Nat.ble row.length pl.q)) fun _=>false)=pts:=by exact rfl)
  (hb:fn.body=some c:=by exact rfl) (hn:fn.ntmps=n:=by exact rfl) (eW:Nat.ble pts.length n=true:=by exact rfl)
  (hmk:(mk ++ [1000000]).Nodup:=by decide) (hml:∀ k ∈ mk,k < 1000000:=by decide):kZ P f row (x :: r0) qs pts R:=by
 have hl:=fA eW
 subst hn
 refine kZ.of hf hb hl hp fun w g0=>TC.jq fun hM=>TC.marks mk hmk hml ?_
 obtain ⟨e,h1,h2⟩:=jC (m:=0) (hh w g0 hM)
 have h3:=dK.1 h2
 rw [← IQ]
 show TC P w g0 c ⟨pts ++ List.replicate (fn.ntmps - pts.length) (.one .dead),mkR mk [(1000000,⟨false,row.map C.own ++ qs.map fun q=>C.ref ⟨1000000,x :: r0,q⟩⟩)]⟩ _
 rw [mA hl h1]
 exact h3.h.mono fun ex st hl=>Pr hl
def setKR (rs:Rs) (k:Nat) (m:Bool) (row:List C):Rs:=((⟨[],rs⟩:St).cw k ⟨m,row⟩).roots
section
variable {P:Program} {w0:World} {g0:Gh} {n:Nat} {e:List En} {rs:Rs} {K:Kn} {f:FuncId} {ts pts:List TS} {fV:List TV} {d:Nat}
theorem sZ (K0:Nat) (aO:List (Nat×Nat)) {l:List RD} {m0 m1:Bool} {uv P3 Ej:List C} (hc:kZ P f row wy qs pts (RG l)) 
  (hk:k5 d rs (setKR (LX rs aO (row.map fun _=> .hole) d (((fh l).filter zw).map C.own)) K0 m1 Ej) fun rs=>nR (oO (s9 d 0 l)) fun t=>K (.set d t :: .app (TS.kill (wh aO false d) (Bn aO d)) :: e) rs)
  (hC:fO (aZ n e rs) ⟨false,row⟩ aO none d:=by exact .list rfl)
  (hs:bk (aZ n e rs) aO none 1000000 ts pts:=by (repeat first|exact .nil|refine bk.cons (.c (.ro _)) ?_|refine bk.cons (.c (.hand rfl)) ?_|refine bk.cons (.c (.deep rfl)) ?_|refine bk.cons (.c (.tS rfl WD.w rfl)) ?_|refine bk.cons (.b9 _) ?_|refine bk.cons (.fn _) ?_|refine bk.cons (.XY _ _ rfl) ?_|refine bk.cons (.agg (by repeat first|exact .nil|refine iA.cons (.ro _) ?_|refine iA.cons (.hand rfl) ?_|refine iA.cons (.deep rfl) ?_|refine iA.cons (.tS rfl WD.w rfl) ?_)) ?_);done)
  (hK0:(⟨[],rs⟩:St).root K0=some ⟨m0,uv⟩:=by exact rfl)
  (NL:(⟨[],LX rs aO (row.map fun _=> .hole) d (((fh l).filter zw).map C.own)⟩:St).root K0=some ⟨m1,P3⟩:=by exact rfl)
  (hrev:f_ P3 fun P3=>o8 d wy aO K0 0 uv P3 Ej qs:=by (conv=>whnf);(repeat first|exact o8.nil|(apply o8.rev (hw:=rfl) (hs:=rfl) (hn:=rfl))|apply o8.keep);done)
  (Al:Nat.beq K0 d=false:=by exact rfl)
  (hok:(fh l).all Uq=true:=by exact rfl) (hf:ep P f:=by exact .mk rfl rfl rfl):wi false P w0 g0 n e rs f ts (some d) K:=⟨fun o cx args qA ho m9 hd hx=>by
 obtain ⟨fn,h1,h2,h3⟩:=hf
 have h5:=hU hk
 refine gJ.call3K (T:=(c7 l).val) ho m9 h1 h2 h3 hx hc (fun r hr=>⟨by rw [hr],by rw [hr]⟩) hC hs (uD hok) hK0 Al NL (dK.1 hrev) rfl ?_
 show Lg n K _
 have h4:(((aZ n e rs).iJ aO false (row.map fun _=> .hole) d).cw d ⟨false,(c7 l).row.map C.own⟩).cw K0 ⟨m1,Ej⟩=
   aZ n (.app (TS.kill (wh aO false d) (Bn aO d)) :: e) (setKR (LX rs aO (row.map fun _=> .hole) d (((fh l).filter zw).map C.own)) K0 m1 Ej):=iY
 rw [h4,hd]
 exact .put (gN.1 h5)⟩
end
end
end Go.Proofs.YtdliggkohdnipaaGreat.T
