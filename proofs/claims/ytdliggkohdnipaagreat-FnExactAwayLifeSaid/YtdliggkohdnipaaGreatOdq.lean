import Derived.Test.YtdliggkohdnipaaGreatQxq
import Derived.Test.YtdliggkohdnipaaGreatQaq
import Derived.Test.YtdliggkohdnipaaGreatQlq
import Derived.Test.YtdliggkohdnipaaGreatNsq
import Derived.Test.YtdliggkohdnipaaGreatQiq
import Derived.Test.YtdliggkohdnipaaGreatQfq
import Derived.Test.YtdliggkohdnipaaGreatQdq
import Derived.Test.YtdliggkohdnipaaGreatRwq
import Derived.Test.YtdliggkohdnipaaGreatQcq
import Derived.Test.YtdliggkohdnipaaGreatOcq
import Derived.Test.YtdliggkohdnipaaGreatOfq
set_option linter.unusedVariables false
set_option linter.unusedSimpArgs false
namespace Go.Proofs.YtdliggkohdnipaaGreat.T
open Go
section
variable {g m:Nat} {u:ax} {h:ap}
set_option maxRecDepth 100000
set_option maxHeartbeats 8000000
theorem IV {row:List D} {mi gi:Int} (h:ap) (m:Nat) (x:aV) (g:Nat) (u:ax) (want:Int) [Q (aj h)] [DE:Q (-9223372036854775808 ≤ u.Pc)] (hr:row=aq h) (CA:mi=m) (hgi:gi=g) (ho:0 ≤ x.Own) (hx:h.ai[m]? = some x) (hu:x.aa[g]? = some u) (hw:want=5 ∨ want=6 ∨ want=7):
  ng Tryz.prog 341 row [.one (.agg [.ref ⟨1000000,[],0⟩, .ref ⟨1000000,[],1⟩, .ref ⟨1000000,[],2⟩, .ref ⟨1000000,[],3⟩]),I mi,I gi, .one (.agg [.ref ⟨1000000,[(1,m),(3,g)],0⟩, .ro (.v (.int .i64 u.A)), .ro (.v (.int .i64 u.Pc)), .ref ⟨1000000,[(1,m),(3,g)],3⟩, .ref ⟨1000000,[(1,m),(3,g)],4⟩, .ro (.v (.int .i64 u.jv.bn)), .ro (.v (.int .i64 u.jv.Post)), .ro (.v (.bool u.jv.Open)), .ro (.v (.int .i64 u.av)), .ro (.v (.int .i64 u.Exit.Kind)), .ro (.v (.int .i64 u.Exit.aN)), .ro (.v (.bool u.Exit.Write)), .ro (.v (.int .i64 u.Exit.N)), .ro (.v (.bool u.kg)), .ref ⟨1000000,[(1,m),(3,g)],14⟩]),I want] (RG [.a (aq { h with ai:=h.ai.set m (K3 x g u want) })]):=by
 subst hr CA hgi
 exact H_ h m x g u want ho hx hu hw
theorem Xw (h1:aK u=5 ∨ aK u=6 ∨ aK u=7):iM h m g u={ h with ai:=h.ai.set m (K3 (cK h m) g u (aK u)) }:=by
 unfold K3
 rcases h1 with h1|h1|h1
 rw [if_neg (by omega),FN (.inl h1)];rfl
 rw [if_pos h1]
 unfold iM
 rw [if_neg (by omega),if_neg (by omega),if_neg (by omega),if_neg (by omega),if_pos h1]
 rfl
 rw [if_neg (by omega),FN (.inr h1)];rfl
theorem hst_1 (h1:aK u=1):iM h m g u=iH h m g (interrupted u):=by unfold iM;rw [if_pos h1]
theorem hst_2 (h1:aK u=2):iM h m g u=iH h m g (ir u):=by unfold iM;rw [if_neg (by omega),if_pos h1]
theorem M3 (h:ap) (m:Int) (g:Int) [Q (aj h)]:aF Tryz.prog 336 [A (aq h),I m,I g] (RV (.bool (cM h m g))):=by
 refine aF.w 29 Tryz.func336 fun w g0 hM=> ?_
 have K4:=(inferInstance:cX h.ai 1048576).h
 have eW:=hM.1.2.1.map
 refine ah (lA h).k ?_
 refine aB ?_ ?_ <;> intro oe
 ·refine len ?_
  refine cg ?_
  refine ah (aE _ _ _).k ?_
  refine aB ?_ ?_ <;> intro TB
  ·have hx0:h.ai[m.toNat]? = some (cK h m.toNat):=cO (by omega)
   have qm0:Q (bt (cK h m.toNat)):=⟨jW.h _ (aH hx0)⟩
   have hlg:=(inferInstance:cX (cK h m.toNat).aa 1048576).h
   refine dM ‹_› ?_
   skip
   skip
   refine len ?_
   refine cg ?_
   refine ah (aE _ _ _).k ?_
   exact ay (by refine congrArg Value.bool ?_;rw [dX,bW];(simp [*];omega))
  ·exact ay (by refine congrArg Value.bool ?_;rw [dX,bW];(simp [*];omega))
 ·exact ay (by refine congrArg Value.bool ?_;rw [dX,bW];(simp [*];done))
theorem E2 (h:ap) (m:Int) (g:Int) [Q (aj h)]:aF Tryz.prog 218 [A (aq h),I m,I g] (RG [.a (aq ((cn h m g).getD h)), .c (.v (.bool (cn h m g).isSome))]):=by
 refine aF.wM [999997] 74 Tryz.func218 fun w g0 hM=> ?_
 have eW:=hM.1.2.1.map
 refine an (cF h).k ?_
 refine ah (M3 h m g).k ?_
 refine aB ?_ ?_ <;> intro hb
 exact (by rw [Ct (by simpa using hb)];rfl)
 have K9:cM h m g=true:=by assumption
 have Iq:=bW.1 K9
 have hx0:=cO Iq.2.1
 have oR:=eE Iq.1 hx0
 obtain ⟨y,hy⟩:∃ y,(cK h m.toNat).aa[g.toNat]? = some y:=⟨_,bg (by omega)⟩
 have qU:dB h m.toNat g.toNat=y:=kv hx0 hy
 have D5:bT y=true:=(by simp only [fy,bh] at oR;exact eY.1 oR.1.1.2 y (aH hy))
 have hml:=(aM.1 hx0).1
 have QC:=(aM.1 hy).1
 have u5:Q (bt (cK h m.toNat)):=⟨jW.h _ (aH hx0)⟩
 have qy:Q (aJ y):=⟨jW.h y (aH hy)⟩
 have hyr:=gS D5
 have hya:=FG D5
 have qp:Q (-9223372036854775808 ≤ y.Pc):=⟨by omega⟩
 have hwi:= @MX y
 have how:=Q_ oR
 have l3:m.toNat < (h.ai.map bA).length:=by rw [aI];exact hml
 have l4:g.toNat < ((cK h m.toNat).aa.map bp).length:=by rw [aI];exact QC
 refine bl ?_
 refine aL hx0 ?_
 refine aL hx0 ?_
 refine bl ?_
 refine aL hx0 ?_
 refine aL hy ?_
 refine ah (ua y).k ?_
 refine aB ?_ ?_ <;> intro iz
 exact (by rw [Iw (by rw [qU];omega)];rfl)
 refine aB ?_ ?_ <;> intro tr
 refine cI [10] [(0,0),(1,0),(2,0),(3,0),(4,0),(5,0),(6,0),(7,0),(8,1),(9,0),(10,1)] ?_
 refine bl ?_
 refine aL hx0 ?_
 refine an (AK y).k ?_
 refine aL hx0 ?_
 refine bl ?_
 refine aL hx0 ?_
 refine aL hy ?_
 exact (by show _=c7 [RD.a (aq ((cn h m g).getD h)),RD.c (.v (.bool (cn h m g).isSome))];rw [jz K9 qU (by omega)];show _=c7 [RD.a (aq (iM h m.toNat g.toNat y)),RD.c (.v (.bool true))];rw [hst_1 (by omega),oJ _ _ _ _ _ hx0];rfl)
 refine aB ?_ ?_ <;> intro AJ
 refine cI [10] [(0,0),(1,0),(2,0),(3,0),(4,0),(5,0),(6,0),(7,0),(8,1),(9,0),(10,1)] ?_
 refine bl ?_
 refine aL hx0 ?_
 refine an (GY y).k ?_
 refine aL hx0 ?_
 refine bl ?_
 refine aL hx0 ?_
 refine aL hy ?_
 exact (by show _=c7 [RD.a (aq ((cn h m g).getD h)),RD.c (.v (.bool (cn h m g).isSome))];rw [jz K9 qU (by omega)];show _=c7 [RD.a (aq (iM h m.toNat g.toNat y)),RD.c (.v (.bool true))];rw [hst_2 (by omega),oJ _ _ _ _ _ hx0];rfl)
 refine aB ?_ ?_ <;> intro D0
 refine kf [(11,0),(11,1),(11,2),(11,3)] (wS h m g y (aK y == 4) K9 qU) ?_
 exact (by show _=c7 [RD.a (aq ((cn h m g).getD h)),RD.c (.v (.bool (cn h m g).isSome))];rw [jz K9 qU (by omega)];show _=c7 [RD.a (aq (iM h m.toNat g.toNat y)),RD.c (.v (.bool true))];rw [Ub (w:=(aK y == 4)) (by omega) rfl];rfl)
 refine aB ?_ ?_ <;> intro Pz
 refine kf [(11,0),(11,1),(11,2),(11,3)] (wS h m g y (aK y == 4) K9 qU) ?_
 exact (by show _=c7 [RD.a (aq ((cn h m g).getD h)),RD.c (.v (.bool (cn h m g).isSome))];rw [jz K9 qU (by omega)];show _=c7 [RD.a (aq (iM h m.toNat g.toNat y)),RD.c (.v (.bool true))];rw [Ub (w:=(aK y == 4)) (by omega) rfl];rfl)
 refine kf [(11,0),(11,1),(11,2),(11,3)] (IV (row:=aq h) (mi:=m) (gi:=g) h m.toNat (cK h m.toNat) g.toNat y (aK y) rfl (by omega) (by omega) how hx0 hy (by omega)) ?_
 exact (by show _=c7 [RD.a (aq ((cn h m g).getD h)),RD.c (.v (.bool (cn h m g).isSome))];rw [jz K9 qU (by omega)];show _=c7 [RD.a (aq (iM h m.toNat g.toNat y)),RD.c (.v (.bool true))];rw [Xw (by omega)];rfl)
end
section
variable {k:Int} {a:dF}
set_option maxRecDepth 100000
set_option maxHeartbeats 8000000
theorem ZN (h:KA a=false):¬ (1 ≤ a.Kind∧a.Kind ≤ 17):=by simpa [KA] using h
theorem act_on (h:KA a=true):1 ≤ a.Kind∧a.Kind ≤ 17:=by simpa [KA] using h
theorem Xx (h:vz k=true):13 ≤ k∧k ≤ 17:=by simpa [vz] using h
theorem Uf (h:vz k=false):¬ (13 ≤ k∧k ≤ 17):=by simpa [vz] using h
theorem E3 (h:ap) (a:dF) [Q (aj h)] (ho:vz a.Kind=true):aF Tryz.prog 217 [A (aq h),A (CY a)] (RG [.a (aq (aW h a).1), .a (GF (aW h a).2)]):=by
 refine aF.w 59 Tryz.func217 fun w g0 _=> ?_
 have hko:=Xx ho
 refine aB ?_ ?_ <;> intro hb
 refine an (Ho h a.M a.X).k ?_
 exact (by rw [SR ‹_›];rfl)
 refine aB ?_ ?_ <;> intro iz
 refine an (Jy h a.M a.X).k ?_
 exact (by rw [SS ‹_›];rfl)
 refine aB ?_ ?_ <;> intro tr
 refine an (Mk h a.M a.X).k ?_
 exact (by rw [SU ‹_›];rfl)
 refine aB ?_ ?_ <;> intro AJ
 refine an (ER h a.M a.X).k ?_
 exact (by rw [SV ‹_›];rfl)
 refine an (Pk h).k ?_
 exact (by rw [SW (by omega)];rfl)
theorem yw (h:ap) (a:dF) [Q (aj h)]:aF Tryz.prog 124 [A (aq h),A (CY a)] (RG [.a (aq (aW h a).1), .a (GF (aW h a).2)]):=by
 refine aF.w 195 Tryz.func124 fun w g0 _=> ?_
 refine ah (MN a).k ?_
 refine aB ?_ ?_ <;> intro hb
 ·refine gp [0,2,3,4] [] [] (.fork (.alt 0 (.fork (.alt 1 (.fork (.alt 2 (.fa 3 (.fa 4 .done)) (.alt 3 (.fa 2 (.fa 4 .done)) .stop))) (.alt 2 (.fa 1 (.fa 3 (.fa 4 .done))) .stop))) (.alt 2 (.fa 0 (.fa 1 (.fa 3 (.fa 4 .done)))) .stop))) ?_
  repeat' first|exact True.intro|refine And.intro ?_ ?_|refine an (cF h).k ?_
  all_goals exact (by rw [ZM (ZN ‹_›)];rfl)
 ·refine ah (Ii a.Kind).k ?_
  refine aB ?_ ?_ <;> intro iz
  ·refine an (E3 h a ‹_›).k ?_
   exact rfl
  ·refine aB ?_ ?_ <;> intro tr
   ·refine an (E2 h a.M a.G).k ?_
    refine gp [0,1,2,3] [] [] (.fork (.alt 0 (.fork (.alt 1 (.fa 2 (.fa 3 .done)) (.alt 2 (.fa 1 (.fa 3 .done)) .stop))) (.alt 1 (.fa 0 (.fa 2 (.fa 3 .done))) .stop))) ?_
    repeat' first|exact True.intro|refine And.intro ?_ ?_
    all_goals exact (by rw [ZD ‹_›];rfl)
   ·refine aB ?_ ?_ <;> intro AJ
    ·refine an (Il h a.M a.G a.X ⟨a.Y,a.Z⟩).k ?_
     refine gp [0,1,2,3] [] [] (.fork (.alt 0 (.fork (.alt 1 (.fa 2 (.fa 3 .done)) (.alt 2 (.fa 1 (.fa 3 .done)) .stop))) (.alt 1 (.fa 0 (.fa 2 (.fa 3 .done))) .stop))) ?_
     repeat' first|exact True.intro|refine And.intro ?_ ?_
     all_goals exact (by rw [ZE ‹_›];rfl)
    ·refine aB ?_ ?_ <;> intro D0
     ·refine an (Dx h a.M a.G a.X).k ?_
      refine gp [0,1,2,3] [] [] (.fork (.alt 0 (.fork (.alt 1 (.fa 2 (.fa 3 .done)) (.alt 2 (.fa 1 (.fa 3 .done)) .stop))) (.alt 1 (.fa 0 (.fa 2 (.fa 3 .done))) .stop))) ?_
      repeat' first|exact True.intro|refine And.intro ?_ ?_
      all_goals exact (by rw [ZF ‹_›];rfl)
     ·refine aB ?_ ?_ <;> intro Pz
      ·refine an (Cl h a.M a.G a.X).k ?_
       refine gp [0,1,2,3] [] [] (.fork (.alt 0 (.fork (.alt 1 (.fa 2 (.fa 3 .done)) (.alt 2 (.fa 1 (.fa 3 .done)) .stop))) (.alt 1 (.fa 0 (.fa 2 (.fa 3 .done))) .stop))) ?_
       repeat' first|exact True.intro|refine And.intro ?_ ?_
       all_goals exact (by rw [ZG ‹_›];rfl)
      ·refine aB ?_ ?_ <;> intro TD
       ·refine an (Cn h a.M a.G).k ?_
        refine gp [0,1,2,3] [] [] (.fork (.alt 0 (.fork (.alt 1 (.fa 2 (.fa 3 .done)) (.alt 2 (.fa 1 (.fa 3 .done)) .stop))) (.alt 1 (.fa 0 (.fa 2 (.fa 3 .done))) .stop))) ?_
        repeat' first|exact True.intro|refine And.intro ?_ ?_
        all_goals exact (by rw [ZH ‹_›];rfl)
       ·refine aB ?_ ?_ <;> intro YT
        ·refine an (Cp h a.M a.G a.X).k ?_
         refine gp [0,1,2,3] [] [] (.fork (.alt 0 (.fork (.alt 1 (.fa 2 (.fa 3 .done)) (.alt 2 (.fa 1 (.fa 3 .done)) .stop))) (.alt 1 (.fa 0 (.fa 2 (.fa 3 .done))) .stop))) ?_
         repeat' first|exact True.intro|refine And.intro ?_ ?_
         all_goals exact (by rw [ZI ‹_›];rfl)
        ·refine aB ?_ ?_ <;> intro hb9
         ·refine gp [11,13] [11,13] [] (.quiet 0 0 (.quiet 1 0 (.quiet 2 0 (.quiet 3 0 (.quiet 4 0 (.quiet 5 0 (.fa 6 (.fa 7 (.quiet 8 1 (.quiet 9 1 (.quiet 10 1 (.fa 11 (.quiet 12 0 (.fa 13 .done)))))))))))))) ?_
          repeat' first|exact True.intro|refine And.intro ?_ ?_|(intro _ _)|refine ah (MO a).k ?_|refine an (Io h a.M a.G (DY a)).k ?_
          refine gp [0,1,2,3] [] [] (.fork (.alt 0 (.fork (.alt 1 (.fa 2 (.fa 3 .done)) (.alt 2 (.fa 1 (.fa 3 .done)) .stop))) (.alt 1 (.fa 0 (.fa 2 (.fa 3 .done))) .stop))) ?_
          repeat' first|exact True.intro|refine And.intro ?_ ?_
          all_goals exact (by rw [ZJ ‹_›];rfl)
         ·refine aB ?_ ?_ <;> intro We
          ·refine an (EX h a.M a.X a.Y a.Z).k ?_
           refine gp [0,1,2,3] [] [] (.fork (.alt 0 (.fork (.alt 1 (.fa 2 (.fa 3 .done)) (.alt 2 (.fa 1 (.fa 3 .done)) .stop))) (.alt 1 (.fa 0 (.fa 2 (.fa 3 .done))) .stop))) ?_
           repeat' first|exact True.intro|refine And.intro ?_ ?_
           all_goals exact (by rw [ZK ‹_›];rfl)
          ·refine aB ?_ ?_ <;> intro Wf
           ·refine an (EQ h a.M a.X).k ?_
            refine gp [0,1,2,3] [] [] (.fork (.alt 0 (.fork (.alt 1 (.fa 2 (.fa 3 .done)) (.alt 2 (.fa 1 (.fa 3 .done)) .stop))) (.alt 1 (.fa 0 (.fa 2 (.fa 3 .done))) .stop))) ?_
            repeat' first|exact True.intro|refine And.intro ?_ ?_
            all_goals exact (by rw [ZL ‹_›];rfl)
           ·refine aB ?_ ?_ <;> intro Wg
            ·refine an (Iz h a.M).k ?_
             refine gp [0,1,2,3] [] [] (.fork (.alt 0 (.fork (.alt 1 (.fa 2 (.fa 3 .done)) (.alt 2 (.fa 1 (.fa 3 .done)) .stop))) (.alt 1 (.fa 0 (.fa 2 (.fa 3 .done))) .stop))) ?_
             repeat' first|exact True.intro|refine And.intro ?_ ?_
             all_goals exact (by rw [SO ‹_›];rfl)
            ·refine aB ?_ ?_ <;> intro YU
             ·refine an (Iu h a.M a.G a.X a.Y).k ?_
              refine gp [0,1,2,3] [] [] (.fork (.alt 0 (.fork (.alt 1 (.fa 2 (.fa 3 .done)) (.alt 2 (.fa 1 (.fa 3 .done)) .stop))) (.alt 1 (.fa 0 (.fa 2 (.fa 3 .done))) .stop))) ?_
              repeat' first|exact True.intro|refine And.intro ?_ ?_
              all_goals exact (by rw [SP ‹_›];rfl)
             ·refine an (EU h a.M a.G a.X).k ?_
              refine gp [0,1,2,3] [] [] (.fork (.alt 0 (.fork (.alt 1 (.fa 2 (.fa 3 .done)) (.alt 2 (.fa 1 (.fa 3 .done)) .stop))) (.alt 1 (.fa 0 (.fa 2 (.fa 3 .done))) .stop))) ?_
              repeat' first|exact True.intro|refine And.intro ?_ ?_
              all_goals exact (by rw [SQ (by have h5:=act_on (by assumption:KA a=true);have h6:=Uf (by assumption:vz a.Kind=false);omega)];rfl)
end
set_option maxRecDepth 100000
set_option maxHeartbeats 8000000
theorem E4 (al:List (List (List bZ))) (aX:List dF) [Q (dY al)] [Q (ja aX)]:aF Tryz.prog 141 [L 1 (al.map de),L 6 (aX.map gO)] (RG [.a (aq (je al aX).1), .c (.sl 2 ((je al aX).2.map gU))]):=by
 refine aF.w 39 Tryz.func141 fun w g0 hM=> ?_
 have eW:=hM.2.1.map
 refine an (IL al).k ?_
 refine ck [1,4,5,6,7] [7] [7,6,11] (fun (j:Nat)=>[.set 8 (I j)]) (fun (j:Nat)=>[(7,⟨false,[.own (.sl 2 ((toldOf aW ((aX.take 80).take j) (gj al)).map gU))]⟩),(6,⟨true,[.own (.sl 1 ((dJ aW ((aX.take 80).take j) (gj al)).au.map aP)), .own (.sl 9 ((dJ aW ((aX.take 80).take j) (gj al)).ai.map bA)), .own (.sl 4 ((dJ aW ((aX.take 80).take j) (gj al)).Buffer.map aC)), .own (.sl 4 ((dJ aW ((aX.take 80).take j) (gj al)).aD.map aC))]⟩)]) (fun (j:Nat)=>j ≤ (aX.take 80).length) (fun (j:Nat)=>(aX.take 80).length - j) (0) (bG _) ?_
 refine ⟨hda,fun j IP N1 bq=> ?_⟩
 have IP:j ≤ (aX.take 80).length:=IP
 have hct:(aX.take 80).length=min 80 aX.length:=e_
 refine len ?_
 refine aB ?_ ?_ <;> intro Fu
 ·refine aB ?_ ?_ <;> intro hb
  ·obtain ⟨a,ha⟩:∃ a,(aX.take 80)[j]? = some a:=⟨_,bg (by omega)⟩
   have ha2:aX[j]? = some a:=by rw [List.getElem?_take,if_pos (by omega)] at ha;exact ha
   refine gp [9,10] [9,10] [] (.quiet 1 1 (.quiet 2 1 (.quiet 0 0 (.quiet 3 0 (.quiet 4 0 (.fa 5 (.quiet 6 1 (.quiet 7 1 (.quiet 8 1 (.fa 9 (.fa 10 .done))))))))))) ?_
   repeat' first|exact True.intro|refine And.intro ?_ ?_|(intro _ _)|refine dM ha2 ?_|refine cJ ?_|refine aL ‹_› ?_|refine sn (fun z1 XP XQ XR=> ?_)|refine an (yw (dJ aW ((aX.take 80).take j) (gj al)) a).k ?_
   refine cD ?_
   refine cg ?_
   refine bq _ _ _ ?_
   refine hY (j + 1) (by omega) (by repeat' first|exact rfl|constructor|(refine dL ?_;(rw [zm ha];done))|(refine dL ?_;(rw [DB ha,iW];first|done|exact rfl)))
  ·refine bq _ _ _ ?_
   exact (by rw [yu (j:=j) (by omega)];rfl)
 ·refine bq _ _ _ ?_
  exact (by rw [yu (j:=j) (by omega)];rfl)
section
variable {a:Int} {ds:List D} {D aX:List dF} {T1 TF:List jE} {j:Nat} {B:Option ap} {G H1 HF:ap}
set_option maxRecDepth 100000
set_option maxHeartbeats 8000000
def E5 (aX:List dF) (a:Int):Nat:=(brought a 0 ((aX.take 80).length:Int)).toNat
theorem M4 (aX:List dF) (a:Int):brought a 0 ((aX.take 80).length:Int)=(E5 aX a:Int)∧E5 aX a ≤ (aX.take 80).length:=by
 unfold E5 brought
 split
 omega
 split <;> omega
def wV (aX:List dF) (a:Int):List dF:=(aX.take 80).drop (E5 aX a)
def awH (al:List (List (List bZ))) (aX:List dF) (a:Int):ap:=(je al ((aX.take 80).take (E5 aX a))).1
def awT (al:List (List (List bZ))) (aX:List dF) (a:Int):List jE:=(je al ((aX.take 80).take (E5 aX a))).2
def ZO (al:List (List (List bZ))) (aX:List dF) (a:Int):ap:=(nU (save (awH al aX a))).getD (awH al aX a)
theorem SY:((aX.take 80).map gO).drop (E5 aX a)=(wV aX a).map gO:=List.map_drop.symm
theorem Re {al:List (List (List bZ))} (h:dY al):aj (awH al aX a):=Pq h
theorem Xy {al:List (List (List bZ))} (h:dY al):aj (ZO al aX a):=by
 have h1:=Xt (SC (Re (aX:=aX) (a:=a) h))
 unfold ZO
 cases e:nU (save (awH al aX a)) with
 | none=>exact Re h
 | some q=>rw [e] at h1;exact h1
instance (al:List (List (List bZ))) (aX:List dF) (a:Int) [h:Q (dY al)]:Q (aj (awH al aX a)):=⟨Re h.h⟩
instance (al:List (List (List bZ))) (aX:List dF) (a:Int) [h:Q (dY al)]:Q (aj (ZO al aX a)):=⟨Xy h.h⟩
theorem M5 {al:List (List (List bZ))}:(awT al aX a).length ≤ 80:=by show (toldOf _ _ _).length ≤ 80;rw [ve,e_];exact Nat.min_le_left _ _
theorem M6:(wV aX a).length ≤ 80:=by unfold wV;rw [List.length_drop,e_];omega
theorem ZP (h:EZ aX):EZ (wV aX a):=Xu (IN h)
theorem E6 (al:List (List (List bZ))) (aX:List dF) [Q (dY al)] [Q (ja aX)] (hd:ds=aX.map gO) (hr:EZ aX) (hH:je al aX=(H1,T1)):aF Tryz.prog 73 [L 1 (al.map de),L 6 ds] (RG [.a (aq H1), .c (.sl 2 (T1.map gU))]):=by
 subst hd
 have h:=E0 al aX hr
 rw [hH] at h
 exact h
theorem M7 [Q (aj H1)] (hB:nU (save H1)=B):aF Tryz.prog 22 [A (xy (save H1))] (RG [.a (aq (B.getD GH)), .c (.v (.bool B.isSome))]):=by
 subst hB
 exact M0 (save H1)
theorem E7 (al:List (List (List bZ))) (aX:List dF) [Q (dY al)] [Q (ja aX)] (hd:ds=aX.map gO) (hH:je al aX=(H1,T1)):aF Tryz.prog 141 [L 1 (al.map de),L 6 ds] (RG [.a (aq H1), .c (.sl 2 (T1.map gU))]):=by
 subst hd
 have h:=E4 al aX
 rw [hH] at h
 exact h
theorem M8 [Q (aj H1)] (hB:nU (save H1)=B):aF Tryz.prog 142 [A (xy (save H1))] (RG [.a (aq (B.getD GH)), .c (.v (.bool B.isSome))]):=by
 subst hB
 exact M1 (save H1)
theorem Xz (hG:B.getD H1=G) (h:B.isSome=true):B.getD GH=G:=by
 subst hG
 cases B with
 | none=>cases h
 | some q=>rfl
theorem gv_no (hG:B.getD H1=G) (h:B.isSome=false):H1=G:=by
 subst hG
 cases B with
 | none=>rfl
 | some q=>cases h
theorem vF1 (h:dJ aW D G=HF) (hj:D.length ≤ j):HF=dJ aW (D.take j) G:=by rw [fu hj];exact h.symm
theorem vF2 (h:T1 ++ toldOf aW D G=TF) (hj:D.length ≤ j):TF=T1 ++ toldOf aW (D.take j) G:=by rw [fu hj];exact h.symm
theorem IW {a:dF} (ha:D[j]? = some a):(T1 ++ toldOf aW (D.take (j + 1)) G).map gU=(T1 ++ toldOf aW (D.take j) G).map gU ++ [gU (aW (dJ aW (D.take j) G) a).2]:=by
 rw [DB ha, ← rX,iW]
 rfl
theorem E8 (al:List (List (List bZ))) (aX:List dF) (jy:Int) [Q (dY al)] [Q (ja aX)] (hr:EZ aX) [Q (aj H1)] [Q (aj G)] (hH:je al ((aX.take 80).take (E5 aX jy))=(H1,T1)) (hB:nU (save H1)=B) (hG:B.getD H1=G) (hT:T1.length ≤ 80) (hF:dJ aW (wV aX jy) G=HF) (hF2:T1 ++ toldOf aW (wV aX jy) G=TF):aF Tryz.prog 15 [L 1 (al.map de),L 6 (aX.map gO),I jy] (RG [.a (aq HF), .c (.sl 2 (TF.map gU))]):=by
 refine aF.wJ 60 Tryz.func15 fun w g0 _=> ?_
 have XL:=(M4 aX jy).1
 have hk2:=(M4 aX jy).2
 have hlt:=(inferInstance:cX (aX.take 80) 1048576).h
 have hld:=M6 (aX:=aX) (a:=jy)
 have qt:Q (ja ((aX.take 80).take (E5 aX jy))):=⟨by show (List.take _ _).length ≤ _;rw [e_];omega⟩
 refine JW.cut 5 [] [9] [9,6,8,10] (fun (_u:Unit)=>[.set 1 (L 6 ((aX.take 80).map gO)), .set 2 (I ((E5 aX jy:Nat):Int)), .set 6 (.one (.ptr ⟨6,[],0⟩)), .set 8 (.one (.ptr ⟨8,[],0⟩)), .set 9 (.one (.c (.ref ⟨9,[],0⟩)))]) (fun (_u:Unit)=>[(9,⟨false,[.own (.sl 2 (T1.map gU))]⟩),(6,⟨true,[.own (.sl 1 []), .own (.sl 9 []), .own (.sl 4 []), .own (.sl 4 [])]⟩),(8,⟨true,[.own (.sl 1 (G.au.map aP)), .own (.sl 9 (G.ai.map bA)), .own (.sl 4 (G.Buffer.map aC)), .own (.sl 4 (G.aD.map aC))]⟩)]) (fun (_u:Unit)=>True) (by exact rfl) ?_
 refine ⟨fun J1 sY=> ?_,fun _u vf=> ?_⟩
 ·refine KS (u_ aX) ?_
  refine len ?_
  refine ah (xE jy 0 ((aX.take 80).length:Int)).k ?_
  refine cut 0 (E5 aX jy) ?_ rfl (by omega) (bG _) (by rw [aI];exact hk2)
  refine an (E6 al ((aX.take 80).take (E5 aX jy)) (List.map_take.symm:((aX.take 80).map gO).take (E5 aX jy)=_) (IN (IN hr)) hH).k ?_
  refine an (O5 H1).k ?_
  refine an (M7 (H1:=H1) hB).k ?_
  refine aB ?_ ?_ <;> intro hb
  ·refine sY _ _ _ ?_
   exact ⟨(),trivial,(by repeat' first|exact rfl|constructor|(refine dL ?_;first|exact congrArg (fun z:Int=>(I z:TS)) XL|exact congrArg (fun h:ap=>(⟨true,[.own (.sl 1 (h.au.map aP)), .own (.sl 9 (h.ai.map bA)), .own (.sl 4 (h.Buffer.map aC)), .own (.sl 4 (h.aD.map aC))]⟩:Rt)) (Xz hG ‹_›);done))⟩
  ·refine sY _ _ _ ?_
   exact ⟨(),trivial,(by repeat' first|exact rfl|constructor|(refine dL ?_;first|exact congrArg (fun z:Int=>(I z:TS)) XL|exact congrArg (fun h:ap=>(⟨true,[.own (.sl 1 (h.au.map aP)), .own (.sl 9 (h.ai.map bA)), .own (.sl 4 (h.Buffer.map aC)), .own (.sl 4 (h.aD.map aC))]⟩:Rt)) (gv_no hG ‹_›);done))⟩
 refine JW.w ?_
 refine cut (E5 aX jy) (aX.take 80).length ?_ (by omega) (by simp) (by omega) (by simp)
 refine LU (wV aX jy).length ?_ (by show (((aX.take 80).map gO).drop (E5 aX jy)).length=_;rw [SY,aI])
 refine ck [6,7,8,9,40,41] [9] [9,8] (fun (j:Nat)=>[.set 42 (I j)]) (fun (j:Nat)=>[(9,⟨false,[.own (.sl 2 ((T1 ++ toldOf aW ((wV aX jy).take j) G).map gU))]⟩),(8,⟨true,[.own (.sl 1 ((dJ aW ((wV aX jy).take j) G).au.map aP)), .own (.sl 9 ((dJ aW ((wV aX jy).take j) G).ai.map bA)), .own (.sl 4 ((dJ aW ((wV aX jy).take j) G).Buffer.map aC)), .own (.sl 4 ((dJ aW ((wV aX jy).take j) G).aD.map aC))]⟩)]) (fun (j:Nat)=>j ≤ (wV aX jy).length) (fun (j:Nat)=>(wV aX jy).length - j) (0) (bG _) ?_
 refine ⟨(by repeat' first|exact rfl|constructor|(refine dL ?_;simp [toldOf,dJ];done)),fun j IP N1 bq=> ?_⟩
 have IP:j ≤ (wV aX jy).length:=IP
 have JO:(toldOf aW ((wV aX jy).take j) G).length ≤ 80:=by rw [ve,e_];omega
 refine aB ?_ ?_ <;> intro iz
 ·obtain ⟨a,ha⟩:∃ a,(wV aX jy)[j]? = some a:=⟨_,bg (by omega)⟩
  have qax:Q (a.X ≤ 9223372036854775807):=⟨ZP hr a (aH ha)⟩
  refine ixd (m:=j) (d:=gO a) (by show (((aX.take 80).map gO).drop (E5 aX jy))[j]? = _;rw [SY,ec,ha];rfl) ?_
  skip
  refine an (yq (dJ aW ((wV aX jy).take j) G) a).k ?_
  refine Gt ?_
  refine cg ?_
  refine bq _ _ _ ?_
  refine hY (j + 1) (by omega) (by repeat' first|exact rfl|constructor|(refine dL ?_;(rw [zm ha];done))|(refine dL ?_;(exact congrArg (fun l:List D=>(⟨false,[.own (.sl 2 l)]⟩:Rt)) (IW ha).symm)))
 ·refine bq _ _ _ ?_
  exact (by rw [vF1 hF (show (wV aX jy).length ≤ j by omega),vF2 hF2 (show (wV aX jy).length ≤ j by omega)];rfl)
theorem E9 (al:List (List (List bZ))) (aX:List dF) (jy:Int) [Q (dY al)] [Q (ja aX)] [Q (aj H1)] [Q (aj G)] (hH:je al ((aX.take 80).take (E5 aX jy))=(H1,T1)) (hB:nU (save H1)=B) (hG:B.getD H1=G) (hT:T1.length ≤ 80) (hF:dJ aW (wV aX jy) G=HF) (hF2:T1 ++ toldOf aW (wV aX jy) G=TF):aF Tryz.prog 55 [L 1 (al.map de),L 6 (aX.map gO),I jy] (RG [.a (aq HF), .c (.sl 2 (TF.map gU))]):=by
 refine aF.wJ 62 Tryz.func55 fun w g0 _=> ?_
 have XL:=(M4 aX jy).1
 have hk2:=(M4 aX jy).2
 have hlt:=(inferInstance:cX (aX.take 80) 1048576).h
 have hld:=M6 (aX:=aX) (a:=jy)
 have qt:Q (ja ((aX.take 80).take (E5 aX jy))):=⟨by show (List.take _ _).length ≤ _;rw [e_];omega⟩
 have PO:(wV aX jy).length=(aX.take 80).length - E5 aX jy:=List.length_drop
 have hct:(aX.take 80).length=min 80 aX.length:=e_
 have hla:=(inferInstance:cX aX 1048576).h
 refine JW.cut 2 [0,2] [] [6] (fun (_u:Unit)=>[.set 1 (L 6 ((aX.take 80).map gO)), .set 6 (.one (.ptr ⟨6,[],0⟩))]) (fun (_u:Unit)=>[(6,⟨true,[.own (.sl 1 []), .own (.sl 9 []), .own (.sl 4 []), .own (.sl 4 [])]⟩)]) (fun (_u:Unit)=>True) (by exact rfl) ?_
 refine ⟨fun J1 sY=> ?_,fun _u vf=> ?_⟩
 ·refine len ?_
  refine aB ?_ ?_ <;> intro hb
  ·refine cut 0 80 ?_ rfl (by omega) (bG _) (by rw [aI];omega)
   refine sY _ _ _ ?_
   exact ⟨(),trivial,(by repeat' first|exact rfl|constructor|(refine dL ?_;exact congrArg (fun l:List D=>L 6 l) List.map_take.symm;done))⟩
  ·refine sY _ _ _ ?_
   exact ⟨(),trivial,(by repeat' first|exact rfl|constructor|(refine dL ?_;exact congrArg (fun l:List dF=>L 6 (l.map gO)) (fu (by omega)).symm;done))⟩
 refine JW.cut 3 [7] [9] [9,6,8,10] (fun (_u:Unit)=>[.set 1 (L 6 ((aX.take 80).map gO)), .set 2 (I ((E5 aX jy:Nat):Int)), .set 6 (.one (.ptr ⟨6,[],0⟩)), .set 8 (.one (.ptr ⟨8,[],0⟩)), .set 9 (.one (.c (.ref ⟨9,[],0⟩)))]) (fun (_u:Unit)=>[(9,⟨false,[.own (.sl 2 (T1.map gU))]⟩),(6,⟨true,[.own (.sl 1 []), .own (.sl 9 []), .own (.sl 4 []), .own (.sl 4 [])]⟩),(8,⟨true,[.own (.sl 1 (G.au.map aP)), .own (.sl 9 (G.ai.map bA)), .own (.sl 4 (G.Buffer.map aC)), .own (.sl 4 (G.aD.map aC))]⟩)]) (fun (_u:Unit)=>True) (by exact rfl) ?_
 refine ⟨fun J2 Dk=> ?_,fun _u hj2=> ?_⟩
 ·refine len ?_
  refine ah (xD jy 0 ((aX.take 80).length:Int)).k ?_
  refine cut 0 (E5 aX jy) ?_ rfl (by omega) (bG _) (by rw [aI];exact hk2)
  refine an (E7 al ((aX.take 80).take (E5 aX jy)) (List.map_take.symm:((aX.take 80).map gO).take (E5 aX jy)=_) hH).k ?_
  refine an (O6 H1).k ?_
  refine an (M8 (H1:=H1) hB).k ?_
  refine aB ?_ ?_ <;> intro iz
  ·refine Dk _ _ _ ?_
   exact ⟨(),trivial,(by repeat' first|exact rfl|constructor|(refine dL ?_;first|exact congrArg (fun z:Int=>(I z:TS)) XL|exact congrArg (fun h:ap=>(⟨true,[.own (.sl 1 (h.au.map aP)), .own (.sl 9 (h.ai.map bA)), .own (.sl 4 (h.Buffer.map aC)), .own (.sl 4 (h.aD.map aC))]⟩:Rt)) (Xz hG ‹_›);done))⟩
  ·refine Dk _ _ _ ?_
   exact ⟨(),trivial,(by repeat' first|exact rfl|constructor|(refine dL ?_;first|exact congrArg (fun z:Int=>(I z:TS)) XL|exact congrArg (fun h:ap=>(⟨true,[.own (.sl 1 (h.au.map aP)), .own (.sl 9 (h.ai.map bA)), .own (.sl 4 (h.Buffer.map aC)), .own (.sl 4 (h.aD.map aC))]⟩:Rt)) (gv_no hG ‹_›);done))⟩
 refine JW.w ?_
 refine ck [1,6,7,8,9] [9] [9,8] (fun (j:Nat)=>[.set 12 (I ((E5 aX jy + j:Nat):Int))]) (fun (j:Nat)=>[(9,⟨false,[.own (.sl 2 ((T1 ++ toldOf aW ((wV aX jy).take j) G).map gU))]⟩),(8,⟨true,[.own (.sl 1 ((dJ aW ((wV aX jy).take j) G).au.map aP)), .own (.sl 9 ((dJ aW ((wV aX jy).take j) G).ai.map bA)), .own (.sl 4 ((dJ aW ((wV aX jy).take j) G).Buffer.map aC)), .own (.sl 4 ((dJ aW ((wV aX jy).take j) G).aD.map aC))]⟩)]) (fun (j:Nat)=>j ≤ (wV aX jy).length) (fun (j:Nat)=>(wV aX jy).length - j) (0) (bG _) ?_
 refine ⟨(by repeat' first|exact rfl|constructor|(refine dL ?_;simp [toldOf,dJ];done)),fun j IP N1 bq=> ?_⟩
 have IP:j ≤ (wV aX jy).length:=IP
 have JO:(toldOf aW ((wV aX jy).take j) G).length ≤ 80:=by rw [ve,e_];omega
 refine len ?_
 refine aB ?_ ?_ <;> intro tr
 ·obtain ⟨a,ha⟩:∃ a,(wV aX jy)[j]? = some a:=⟨_,bg (by omega)⟩
  have ha2:(aX.take 80)[E5 aX jy + j]? = some a:=by rw [← ha];exact List.getElem?_drop.symm
  refine gp [9,10] [9,10] [] (.quiet 1 1 (.quiet 2 1 (.quiet 0 0 (.quiet 3 0 (.quiet 4 0 (.fa 5 (.quiet 6 1 (.quiet 7 1 (.quiet 8 1 (.fa 9 (.fa 10 .done))))))))))) ?_
  repeat' first|exact True.intro|refine And.intro ?_ ?_|(intro _ _)|refine dM ha2 ?_|refine an (yw (dJ aW ((wV aX jy).take j) G) a).k ?_
  refine Gt ?_
  refine cg ?_
  refine bq _ _ _ ?_
  refine hY (j + 1) (by omega) (by repeat' first|exact rfl|constructor|(refine dL ?_;(rw [zm ha];done))|(refine dL ?_;(exact congrArg (fun l:List D=>(⟨false,[.own (.sl 2 l)]⟩:Rt)) (IW ha).symm)))
 ·refine bq _ _ _ ?_
  exact (by rw [vF1 hF (show (wV aX jy).length ≤ j by omega),vF2 hF2 (show (wV aX jy).length ≤ j by omega)];rfl)
theorem E_ (al:List (List (List bZ))) (aX:List dF) (jy:Int) [Q (dY al)] [Q (ja aX)] (hr:EZ aX):aF Tryz.prog 15 [L 1 (al.map de),L 6 (aX.map gO),I jy] (RG [.a (aq (k8 al aX jy).1), .c (.sl 2 ((k8 al aX jy).2.map gU))]):=
 E8 al aX jy hr (H1:=awH al aX jy) (G:=ZO al aX jy) (T1:=awT al aX jy) rfl rfl rfl M5 rfl rfl
theorem Fa (al:List (List (List bZ))) (aX:List dF) (jy:Int) [Q (dY al)] [Q (ja aX)]:aF Tryz.prog 55 [L 1 (al.map de),L 6 (aX.map gO),I jy] (RG [.a (aq (k8 al aX jy).1), .c (.sl 2 ((k8 al aX jy).2.map gU))]):=
 E9 al aX jy (H1:=awH al aX jy) (G:=ZO al aX jy) (T1:=awT al aX jy) rfl rfl rfl M5 rfl rfl
end
theorem IX {xs:List bP} (h:c4 xs):cY xs ≤ 4194304:=by
 have:=jO (c:=eJ) (N:=4) (by decide) (fun x _=>by simp [eJ]) h
 unfold cY
 omega
theorem Ug {r:ap} (h:aj r) (h3:r.ai.length ≤ 3):nv r ≤ 400000000000000:=by
 have h1:=KR h.1
 have h2:gv r.ai ≤ 100000000000003 * r.ai.length:=vM (c:=ix) fun x hx=>by
  have:=Y7 (h.2.1.2 x hx)
  unfold Mr at this
  unfold ix
  omega
 have h4:=IX h.2.2.1
 have h5:=IX h.2.2.2
 have h6:(100000000000003:Int) * r.ai.length ≤ 100000000000003 * 3:=Int.mul_le_mul_of_nonneg_left (by omega) (by decide)
 unfold nv
 omega
end Go.Proofs.YtdliggkohdnipaaGreat.T
