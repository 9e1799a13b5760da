import Derived.Test.YtdliggkohdnipaaGreatQaq
import Derived.Test.YtdliggkohdnipaaGreatQdq
import Derived.Test.YtdliggkohdnipaaGreatQfq
import Derived.Test.YtdliggkohdnipaaGreatPsq
set_option linter.unusedVariables false
set_option linter.unusedSimpArgs false
namespace Go.Proofs.YtdliggkohdnipaaGreat.T
open Go
section
variable {w:Bool} {g m need ag:Int} {q:Nat} {u:ax} {h:ap} {x:aV}
set_option maxRecDepth 100000
set_option maxHeartbeats 8000000
theorem T_ {m:Nat} (hx:h.ai[m]? = some x):ye h.ai (pO h m q need).ai:=by
 unfold pO
 split
 rw [yc hx]
 exact u6 hx rfl
 exact .of
theorem Xl {io:Bool} {b:List bP}:(pz h io b).ai=h.ai:=by cases io <;> rfl
theorem Pf {m g:Nat} {z:aQ} {k:cE} {y:ax} (hk:Zm h m g q x z k y):ye h.ai (filled h m g ag q need).ai:=by
 cases hl:lets (ask (kept h m g) ag) need with
 | true=>rw [pP hl];exact .of
 | false=>
  obtain ⟨x2,k2,h2⟩:= @Dr h m g ag q need x z k y hk
  rw [(h2.hf hl).1]
  exact (Di hk.hs hk.ha hk.hx hk.hz).to (u6 h2.hx rfl)
theorem Ua {h:ap} {m g ag need:Int} {io:Bool} (hh:aj h):∀ q,find h m g ag need io=some q→cM h m g=true∧ye h.ai q.1.ai:=fun q hq=>by
 by_cases hn:cM h m g=true∧(need=1 ∨ need=2)
 refine ⟨hn.1, ?_⟩
 cases hw:bB (dB h m.toNat g.toNat).Live ag need with
 | none=>rw [vU hn,hw] at hq;cases hq
 | some p=>
  have h3:=bW.1 hn.1
  have hy0:(cK h m.toNat).aa[g.toNat]? = some ((cK h m.toNat).aa[g.toNat]'(by omega)):=bg (by omega)
  have hok:=eE h3.1 (cO h3.2.1)
  have D5:bT (dB h m.toNat g.toNat)=true:=by
   rw [kv (cO h3.2.1) hy0]
   simp only [fy,bh] at hok
   exact eY.1 hok.1.1.2 _ (aH hy0)
  have hp:=pN D5 hw
  obtain ⟨x,z,k,y,fE,_⟩:=y7 (need:=need) hn.1 hh hp
  have hd:=T_ (q:=p.toNat) (need:=need) (cO h3.2.1)
  cases e:oH (hD h m p need) io m g ag need with
  | some s=>
   have Yv:=vU (ag:=ag) (io:=io) hn
   rw [hw] at Yv
   have h5:find h m g ag need io=some (hD h m p need,s.Host):=by
    rw [Yv]
    show some (wk _ _ _ _ _ _ _)=_
    rw [Dj h3.2.1.1 h3.2.2.1 e]
   rw [h5] at hq
   cases hq
   exact hd
  | none=>
   rw [va hn hw e] at hq
   cases hq
   show ye h.ai (pz _ _ _).ai
   rw [Xl]
   exact hd.to (Pf fE)
 rw [jl hn] at hq;cases hq
abbrev nH (h:ap) (m g ag need:Int):ap:=((find h m g ag need false).map fun q=>q.1).getD h
abbrev nP (h:ap) (m g ag need:Int):Int:=((find h m g ag need false).map fun q=>q.2).getD (-1)
theorem Q9 {k:Nat} (hh:aj h) (hx:h.ai[k]? = some x):∃ y,(nH h m g ag need).ai[k]? = some y∧y.aa=x.aa:=by
 unfold nH
 cases e:find h m g ag need false with
 | none=>exact ⟨x,hx,rfl⟩
 | some q=>exact (Ua hh q e).2 k x hx
theorem K8 (hs:(find h m g ag need false).isSome=true):find h m g ag need false=some (nH h m g ag need,nP h m g ag need):=by
 unfold nH nP
 cases e:find h m g ag need false with
 | none=>rw [e] at hs;cases hs
 | some q=>rfl
theorem Iv (hs:(find h m g ag need false).isSome=false):find h m g ag need false=none:=by
 cases e:find h m g ag need false with
 | none=>rfl
 | some q=>rw [e] at hs;cases hs
theorem MV (hs:(find h m g ag need false).isSome=false):nH h m g ag need=h:=by
 unfold nH
 rw [Iv hs]
 rfl
theorem oJ (H:ap) (m g:Nat) (x:aV) (u:ax) (hx:H.ai[m]? = some x):aq (iH H m g u)=[.sl 1 (H.au.map aP), .sl 9 ((H.ai.map bA).set m (.st [.sl 2 (x.ak.map aT), .sl 1 (x.Out.map aP), .sl 1 (x.bI.map bO), .sl 15 ((x.aa.map bp).set g (.st [.sl 2 (u.Prog.map i_), .v (.int .i64 u.A), .v (.int .i64 u.Pc), .sl 2 (u.Written.map aT), .sl 2 (u.Live.map aT), .v (.int .i64 u.jv.bn), .v (.int .i64 u.jv.Post), .v (.bool u.jv.Open), .v (.int .i64 u.av), .v (.int .i64 u.Exit.Kind), .v (.int .i64 u.Exit.aN), .v (.bool u.Exit.Write), .v (.int .i64 u.Exit.N), .v (.bool u.kg), .sl 1 (u.Seen.map bS)])), .sl 1 (x.cm.map bS), .v (.int .i64 x.av), .v (.int .i64 x.bn), .sl 2 (x.Tables.map cz), .v (.int .i64 x.Own)])), .sl 4 (H.Buffer.map aC), .sl 4 (H.aD.map aC)]:=by
 unfold iH fT
 rw [lZ hx]
 show [_,D.sl 9 ((H.ai.set m { x with aa:=x.aa.set g u }).map bA),_,_]=_
 rw [Q0]
theorem Xm (H:ap) (m:Nat) (x:aV) (l:List ax) (hx:H.ai[m]? = some x):aq (fT H m { cK H m with aa:=l })=[.sl 1 (H.au.map aP), .sl 9 ((H.ai.map bA).set m (.st [.sl 2 (x.ak.map aT), .sl 1 (x.Out.map aP), .sl 1 (x.bI.map bO), .sl 15 (l.map bp), .sl 1 (x.cm.map bS), .v (.int .i64 x.av), .v (.int .i64 x.bn), .sl 2 (x.Tables.map cz), .v (.int .i64 x.Own)])), .sl 4 (H.Buffer.map aC), .sl 4 (H.aD.map aC)]:=by
 unfold fT
 rw [lZ hx]
 show [_,D.sl 9 ((H.ai.set m { x with aa:=l }).map bA),_,_]=_
 rw [bL]
 done
theorem Ct (hn:cM h m g=false):cn h m g=none:=by unfold cn;rw [hn];rfl
theorem Dt (hn:¬ (cM h m g=true∧True)):cM h m g=false:=by
 cases e:cM h m g with
 | false=>rfl
 | true=>exact absurd ⟨e,trivial⟩ hn
theorem Iw (hn:aK (dB h m.toNat g.toNat)=0):cn h m g=none:=by
 unfold cn
 split
 rfl
 rfl
theorem jz (hg:cM h m g=true) (hu:dB h m.toNat g.toNat=u) (hn:¬ aK u=0):cn h m g=some (iM h m.toNat g.toNat u):=by
 subst hu
 unfold cn
 rw [hg,if_pos rfl,if_neg hn]
section
variable {h:ap} {m g:Nat} {u:ax}
theorem Ub (h1:aK u=3 ∨ aK u=4) (hw:w=(aK u == 4)):iM h m g u=ie h m g u w:=by
 unfold iM
 subst hw
 rw [if_neg (by omega),if_neg (by omega)]
 rcases h1 with h1|h1
 rw [if_pos h1,h1];rfl
 rw [if_neg (by omega),if_pos h1,h1];rfl
theorem FN (h1:aK u=5 ∨ aK u=7):iM h m g u=fT h m (qZ (cK h m) g u (aK u)):=by
 unfold iM
 rw [if_neg (by omega),if_neg (by omega),if_neg (by omega),if_neg (by omega),if_neg (by omega)]
end
abbrev tP (u:ax):Int:=bz (address u)
theorem MW (hm:0 ≤ m) (hg:0 ≤ g) (hs:(find h m g (tP u) (cA w) false).isSome=false):ie h m.toNat g.toNat u w=iH h m.toNat g.toNat (c8 u (iR (tP u) w)):=by
 unfold ie
 rw [Int.toNat_of_nonneg hm,Int.toNat_of_nonneg hg,Iv hs]
theorem Pg (hm:0 ≤ m) (hg:0 ≤ g) (hs:(find h m g (tP u) (cA w) false).isSome=true) (hw:w=true):ie h m.toNat g.toNat u w=iH { nH h m g (tP u) (cA w) with au:=eR (nH h m g (tP u) (cA w)).au (nP h m g (tP u) (cA w)) (b6 (address u)) u.A } m.toNat g.toNat (fU u):=by
 unfold ie
 rw [Int.toNat_of_nonneg hm,Int.toNat_of_nonneg hg,K8 hs]
 exact if_pos hw
theorem SJ (hm:0 ≤ m) (hg:0 ≤ g) (hs:(find h m g (tP u) (cA w) false).isSome=true) (hw:w=false):ie h m.toNat g.toNat u w=iH (nH h m g (tP u) (cA w)) m.toNat g.toNat (sx u (cellAt (nH h m g (tP u) (cA w)).au (nP h m g (tP u) (cA w)) (b6 (address u)))):=by
 unfold ie
 rw [Int.toNat_of_nonneg hm,Int.toNat_of_nonneg hg,K8 hs]
 exact if_neg (by rw [hw];decide)
theorem Uc (hg:cM h m g=true) (hu:dB h m.toNat g.toNat=u) (hw:aK u=1 ∨ aK u=2 ∨ aK u=6):
  iM h m.toNat g.toNat u=fT h m.toNat { cK h m.toNat with aa:=((ox (b8 h m) g).getD (b8 h m)).aa }:=by
 have h3:=bW.1 hg
 have hm:=vW h3.1 h3.2.1
 obtain ⟨g1,g2,g3⟩:=FJ hm
 have hx:=cO h3.2.1
 have hy:(cK h m.toNat).aa[g.toNat]? = some u:=by
  obtain ⟨y,hy⟩:∃ y,(cK h m.toNat).aa[g.toNat]? = some y:=⟨_,bg (by omega)⟩
  rw [← hu,kv hx hy]
  exact hy
 have ha:m5 (b8 h m).aa g=some u:=by
  unfold m5
  rw [if_pos h3.2.2.1,g2]
  exact hy
 have hb:ox (b8 h m) g=some (stepOf (b8 h m) g u):=by
  unfold ox
  rw [g1,if_pos rfl,ha]
  exact if_neg (by omega)
 have hp:∀ v,(b_ (b8 h m) g v).aa=(cK h m.toNat).aa.set g.toNat v:=fun v=>by
  show put (b8 h m).aa g v=_
  unfold put
  rw [if_pos h3.2.2.1,g2]
 rw [hb]
 show _=fT h m.toNat { cK h m.toNat with aa:=(stepOf (b8 h m) g u).aa }
 rcases hw with hw|hw|hw
 rw [st_1 hw,hp]
 unfold iM
 rw [if_pos hw]
 rfl
 rw [st_2 hw,hp]
 unfold iM
 rw [if_neg (by omega),if_pos hw]
 rfl
 rw [st_6 hw,hp]
 unfold iM
 rw [if_neg (by omega),if_neg (by omega),if_neg (by omega),if_neg (by omega),if_pos hw]
 rfl
theorem MX {u:ax}:0 ≤ aK u∧aK u ≤ 7:=by
 unfold aK
 repeat' split
 all_goals omega
theorem Cu {gi:Int} (ms:List aV) (m:Nat) (x:aV) (g:Nat) (u:ax) (want:Int) [Q (xx ms)] [DE:Q (-9223372036854775808 ≤ u.Pc)] (hgi:gi=g) (ho:0 ≤ x.Own) (hx:ms[m]? = some x) (hu:x.aa[g]? = some u):
  eH Tryz.prog 269 ⟨false,[.sl 9 (ms.map bA)]⟩ [.one (.ptr ⟨1000000,[(0,m)],0⟩),I gi,I want] (zx [.sl 9 ((ms.set m (qZ x g u want)).map bA)] (.mj [])):=by
 subst hgi
 exact MK ms m x g u want ho hx hu
theorem Q_ (hx:fy x=true):0 ≤ x.Own:=by
 simp only [fy,kj,bh,decide_eq_true_eq] at hx
 omega
theorem EV (h:ap) (m:Int) (g:Int) [Q (aj h)]:aF Tryz.prog 160 [A (aq h),I m,I g] (RG [.a (aq ((cn h m g).getD h)), .c (.v (.bool (cn h m g).isSome))]):=by
 refine aF.w 147 Tryz.func160 fun w g0 hM=> ?_
 have eW:=hM.1.2.1.map
 refine an (aY h).k ?_
 refine an (rH h m).k ?_
 refine ah (gX h).k ?_
 refine aB ?_ ?_ <;> intro gK
 ·exact (by rw [Ct (Dt (by exact Ip (by simpa using gK)))];rfl)
 ·refine aB ?_ ?_ <;> intro GO
  ·exact (by (rw [Ct (Dt (by exact Q5 (by simpa using GO)))];rfl))
  ·refine len ?_
   refine ah (bM _ _).k ?_
   refine aB ?_ ?_ <;> intro Ev
   ·exact (by (rw [Ct (Dt (by exact Q6 (by simpa using Ev)))];rfl))
   ·have K9:=O_ (by simpa using gK) (by simpa using GO) (by simpa using Ev)
    have Iq:=bW.1 K9
    have zF:=H7 (h:=h) Iq.2.1.1
    have hx0:=cO Iq.2.1
    have oR:=eE Iq.1 hx0
    have hmo:=dZ oR
    obtain ⟨y,hy⟩:∃ y,(e9 h m).aa[g.toNat]? = some y:=⟨_,bg (by rw [zF];omega)⟩
    have qU:dB h m.toNat g.toNat=y:=kv hx0 (by rw [← zF];exact hy)
    have D5:bT y=true:=(by simp only [fy,bh] at oR;exact eY.1 oR.1.1.2 y (aH (by rw [← zF];exact hy)))
    have hml:=(aM.1 hx0).1
    have QC:=(aM.1 hy).1
    have u5:Q (bt (cK h m.toNat)):=⟨jW.h _ (aH hx0)⟩
    have qxo:Q (bt (e9 h m)):=(by rw [zF];exact u5)
    have qy:Q (aJ y):=⟨jW.h y (aH hy)⟩
    have hx1:h.ai[m.toNat]? = some (e9 h m):=by rw [zF];exact hx0
    have hyr:=gS D5
    have hya:=FG D5
    have qp:Q (-9223372036854775808 ≤ y.Pc):=⟨by omega⟩
    have qa:Q (address y ≤ 9223372036854775807):=⟨by omega⟩
    have hyx:(cK h m.toNat).aa[g.toNat]? = some y:=by rw [← zF];exact hy
    have nW:m.toNat < (h.ai.map bA).length:=by rw [aI];exact hml
    have hwi:= @MX y
    have how:=Q_ oR
    refine bl ?_
    refine aL ‹_› ?_
    refine ah (nt y).k ?_
    refine aB ?_ ?_ <;> intro hb
    ·exact (by rw [Iw (by rw [qU];assumption)];rfl)
    ·refine bl ?_
     refine aL ‹_› ?_
     refine ah (nt y).k ?_
     refine ah (xM y).k ?_
     refine aB ?_ ?_ <;> intro iz
     ·refine xP [13] [13] [] (.quiet 1 1 (.quiet 2 1 (.quiet 3 1 (.quiet 5 1 (.quiet 0 0 (.fork (.alt 4 (.fork (.alt 6 (.fork (.alt 7 (.quiet 8 1 (.quiet 9 1 (.quiet 10 1 (.quiet 11 1 (.fa 12 (.fa 13 (.quiet 14 1 (.quiet 15 1 .done)))))))) (.alt 12 (.fa 7 (.quiet 8 1 (.quiet 9 1 (.quiet 10 1 (.quiet 11 1 (.fa 13 (.quiet 14 1 (.quiet 15 1 .done)))))))) .stop))) (.alt 12 (.fa 6 (.fa 7 (.quiet 8 1 (.quiet 9 1 (.quiet 10 1 (.quiet 11 1 (.fa 13 (.quiet 14 1 (.quiet 15 1 .done))))))))) .stop))) (.alt 12 (.fa 4 (.fa 6 (.fa 7 (.quiet 8 1 (.quiet 9 1 (.quiet 10 1 (.quiet 11 1 (.fa 13 (.quiet 14 1 (.quiet 15 1 .done)))))))))) .stop)))))))) [1,2,3,6,7,8,11,13,14] [] [15,76] [.set 15 (.one (.ptr ⟨15,[],0⟩)), .set 16 (I (nP h m g (tP y) (cA (aK y == 4)))), .set 17 (B (find h m g (tP y) (cA (aK y == 4)) false).isSome)] [(15,⟨true,[.own (.sl 1 ((nH h m g (tP y) (cA (aK y == 4))).au.map aP)), .own (.sl 9 ((nH h m g (tP y) (cA (aK y == 4))).ai.map bA)), .own (.sl 4 ((nH h m g (tP y) (cA (aK y == 4))).Buffer.map aC)), .own (.sl 4 ((nH h m g (tP y) (cA (aK y == 4))).aD.map aC))]⟩)] ?_
      refine ⟨?_, ?_⟩
      ·repeat' first|exact True.intro|refine And.intro ?_ ?_|(intro _ _)|refine ah (eT (address y)).k ?_|refine ah (pW (aK y == 4)).k ?_|refine an (Af h m g (tP y) (cA (aK y == 4))).k ?_|exact rfl
      obtain ⟨x2,vg,Xn⟩:=Q9 (m:=m) (g:=g) (ag:=tP y) (need:=cA (aK y == 4)) (by assumption:Q (aj h)).h hx0
      have qn:Q (aj (nH h m g (tP y) (cA (aK y == 4)))):=inferInstance
      generalize Zx:(nH h m g (tP y) (cA (aK y == 4)))=H2 at vg qn ⊢
      generalize hP2:(nP h m g (tP y) (cA (aK y == 4)))=P2
      have SK:x2.aa[g.toNat]? = some y:=by rw [Xn];exact hyx
      have qx2:Q (bt x2):=⟨qn.h.2.1.2 x2 (aH vg)⟩
      have l1:=(aM.1 vg).1
      have l2:=(aM.1 SK).1
      have l3:m.toNat < (H2.ai.map bA).length:=by rw [aI];exact l1
      have l4:g.toNat < (x2.aa.map bp).length:=by rw [aI];exact l2
      refine aB ?_ ?_ <;> intro tr
      ·refine gp [6] [6] [] (.quiet 1 1 (.quiet 3 1 (.quiet 0 0 (.fa 2 (.fa 4 (.fa 5 (.fa 6 .done))))))) ?_
       repeat' first|exact True.intro|refine And.intro ?_ ?_|(intro _ _)|refine ah (eT (address y)).k ?_|refine ah (mI (tP y) (aK y == 4)).k ?_|refine an (gn y (iR (tP y) (aK y == 4))).k ?_
       refine gp [9] [9] [] (.quiet 2 1 (.quiet 6 1 (.quiet 0 0 (.quiet 1 0 (.quiet 3 0 (.quiet 4 0 (.quiet 5 0 (.quiet 7 0 (.quiet 8 0 (.fa 9 .done)))))))))) ?_
       repeat' first|exact True.intro|refine And.intro ?_ ?_|(intro _ _)|refine bl ?_|refine aL vg ?_|refine aL SK ?_
       exact (by show _=c7 [RD.a (aq ((cn h m g).getD h)),RD.c (.v (.bool (cn h m g).isSome))];rw [jz K9 qU (by omega)];show _=c7 [RD.a (aq (iM h m.toNat g.toNat y)),RD.c (.v (.bool true))];rw [Ub (w:=(aK y == 4)) (by omega) rfl,MW (by omega) (by omega) ‹_›,oJ _ _ _ _ _ hx0];have e2:=(MV (by assumption:(find h m g (tP y) (cA (aK y == 4)) false).isSome=false)).symm.trans Zx;subst e2;have e3:=Option.some.inj (hx0.symm.trans vg);subst e3;rfl)
      ·refine aB ?_ ?_ <;> intro AJ
       ·refine gp [9] [9] [] (.quiet 2 1 (.quiet 3 1 (.quiet 0 0 (.quiet 1 0 (.quiet 5 0 (.quiet 6 0 (.fa 4 (.fa 7 (.quiet 8 0 (.fa 9 .done)))))))))) ?_
        repeat' first|exact True.intro|refine And.intro ?_ ?_|(intro _ _)|refine ah (eU (address y)).k ?_|refine bu (iD H2.au P2 (b6 (address y)) y.A).k ?_
        refine an (p7 y).k ?_
        refine gp [9] [9] [] (.quiet 2 1 (.quiet 6 1 (.quiet 0 0 (.quiet 1 0 (.quiet 3 0 (.quiet 4 0 (.quiet 5 0 (.quiet 7 0 (.quiet 8 0 (.fa 9 .done)))))))))) ?_
        repeat' first|exact True.intro|refine And.intro ?_ ?_|(intro _ _)|refine bl ?_|refine aL vg ?_|refine aL SK ?_
        exact (by exfalso;omega)
       ·refine gp [8] [8] [] (.quiet 3 1 (.quiet 4 1 (.quiet 0 0 (.quiet 1 0 (.quiet 2 0 (.fa 5 (.fa 6 (.fa 7 (.fa 8 .done))))))))) ?_
        repeat' first|exact True.intro|refine And.intro ?_ ?_|(intro _ _)|refine ah (eU (address y)).k ?_|refine ah (nj H2.au P2 (b6 (address y))).k ?_|refine an (p8 y (cellAt H2.au P2 (b6 (address y)))).k ?_
        refine gp [9] [9] [] (.quiet 2 1 (.quiet 6 1 (.quiet 0 0 (.quiet 1 0 (.quiet 3 0 (.quiet 4 0 (.quiet 5 0 (.quiet 7 0 (.quiet 8 0 (.fa 9 .done)))))))))) ?_
        repeat' first|exact True.intro|refine And.intro ?_ ?_|(intro _ _)|refine bl ?_|refine aL vg ?_|refine aL SK ?_
        exact (by show _=c7 [RD.a (aq ((cn h m g).getD h)),RD.c (.v (.bool (cn h m g).isSome))];rw [jz K9 qU (by omega)];show _=c7 [RD.a (aq (iM h m.toNat g.toNat y)),RD.c (.v (.bool true))];rw [Ub (w:=(aK y == 4)) (by omega) rfl,SJ (by omega) (by omega) ‹_› (by rw [beq_eq_false_iff_ne];omega),Zx,hP2,oJ _ _ _ _ _ vg];rfl)
     ·refine aB ?_ ?_ <;> intro D0
      ·refine xP [13] [13] [] (.quiet 1 1 (.quiet 2 1 (.quiet 3 1 (.quiet 5 1 (.quiet 0 0 (.fork (.alt 4 (.fork (.alt 6 (.fork (.alt 7 (.quiet 8 1 (.quiet 9 1 (.quiet 10 1 (.quiet 11 1 (.fa 12 (.fa 13 (.quiet 14 1 (.quiet 15 1 .done)))))))) (.alt 12 (.fa 7 (.quiet 8 1 (.quiet 9 1 (.quiet 10 1 (.quiet 11 1 (.fa 13 (.quiet 14 1 (.quiet 15 1 .done)))))))) .stop))) (.alt 12 (.fa 6 (.fa 7 (.quiet 8 1 (.quiet 9 1 (.quiet 10 1 (.quiet 11 1 (.fa 13 (.quiet 14 1 (.quiet 15 1 .done))))))))) .stop))) (.alt 12 (.fa 4 (.fa 6 (.fa 7 (.quiet 8 1 (.quiet 9 1 (.quiet 10 1 (.quiet 11 1 (.fa 13 (.quiet 14 1 (.quiet 15 1 .done)))))))))) .stop)))))))) [1,2,3,6,7,8,11,13,14] [] [15,76] [.set 15 (.one (.ptr ⟨15,[],0⟩)), .set 16 (I (nP h m g (tP y) (cA (aK y == 4)))), .set 17 (B (find h m g (tP y) (cA (aK y == 4)) false).isSome)] [(15,⟨true,[.own (.sl 1 ((nH h m g (tP y) (cA (aK y == 4))).au.map aP)), .own (.sl 9 ((nH h m g (tP y) (cA (aK y == 4))).ai.map bA)), .own (.sl 4 ((nH h m g (tP y) (cA (aK y == 4))).Buffer.map aC)), .own (.sl 4 ((nH h m g (tP y) (cA (aK y == 4))).aD.map aC))]⟩)] ?_
       refine ⟨?_, ?_⟩
       ·repeat' first|exact True.intro|refine And.intro ?_ ?_|(intro _ _)|refine ah (eT (address y)).k ?_|refine ah (pW (aK y == 4)).k ?_|refine an (Af h m g (tP y) (cA (aK y == 4))).k ?_|exact rfl
       obtain ⟨x2,vg,Xn⟩:=Q9 (m:=m) (g:=g) (ag:=tP y) (need:=cA (aK y == 4)) (by assumption:Q (aj h)).h hx0
       have qn:Q (aj (nH h m g (tP y) (cA (aK y == 4)))):=inferInstance
       generalize Zx:(nH h m g (tP y) (cA (aK y == 4)))=H2 at vg qn ⊢
       generalize hP2:(nP h m g (tP y) (cA (aK y == 4)))=P2
       have SK:x2.aa[g.toNat]? = some y:=by rw [Xn];exact hyx
       have qx2:Q (bt x2):=⟨qn.h.2.1.2 x2 (aH vg)⟩
       have l1:=(aM.1 vg).1
       have l2:=(aM.1 SK).1
       have l3:m.toNat < (H2.ai.map bA).length:=by rw [aI];exact l1
       have l4:g.toNat < (x2.aa.map bp).length:=by rw [aI];exact l2
       refine aB ?_ ?_ <;> intro Pz
       ·refine gp [6] [6] [] (.quiet 1 1 (.quiet 3 1 (.quiet 0 0 (.fa 2 (.fa 4 (.fa 5 (.fa 6 .done))))))) ?_
        repeat' first|exact True.intro|refine And.intro ?_ ?_|(intro _ _)|refine ah (eT (address y)).k ?_|refine ah (mI (tP y) (aK y == 4)).k ?_|refine an (gn y (iR (tP y) (aK y == 4))).k ?_
        refine gp [9] [9] [] (.quiet 2 1 (.quiet 6 1 (.quiet 0 0 (.quiet 1 0 (.quiet 3 0 (.quiet 4 0 (.quiet 5 0 (.quiet 7 0 (.quiet 8 0 (.fa 9 .done)))))))))) ?_
        repeat' first|exact True.intro|refine And.intro ?_ ?_|(intro _ _)|refine bl ?_|refine aL vg ?_|refine aL SK ?_
        exact (by show _=c7 [RD.a (aq ((cn h m g).getD h)),RD.c (.v (.bool (cn h m g).isSome))];rw [jz K9 qU (by omega)];show _=c7 [RD.a (aq (iM h m.toNat g.toNat y)),RD.c (.v (.bool true))];rw [Ub (w:=(aK y == 4)) (by omega) rfl,MW (by omega) (by omega) ‹_›,oJ _ _ _ _ _ hx0];have e2:=(MV (by assumption:(find h m g (tP y) (cA (aK y == 4)) false).isSome=false)).symm.trans Zx;subst e2;have e3:=Option.some.inj (hx0.symm.trans vg);subst e3;rfl)
       ·refine aB ?_ ?_ <;> intro TD
        ·refine gp [9] [9] [] (.quiet 2 1 (.quiet 3 1 (.quiet 0 0 (.quiet 1 0 (.quiet 5 0 (.quiet 6 0 (.fa 4 (.fa 7 (.quiet 8 0 (.fa 9 .done)))))))))) ?_
         repeat' first|exact True.intro|refine And.intro ?_ ?_|(intro _ _)|refine ah (eU (address y)).k ?_|refine bu (iD H2.au P2 (b6 (address y)) y.A).k ?_
         refine an (p7 y).k ?_
         refine gp [9] [9] [] (.quiet 2 1 (.quiet 6 1 (.quiet 0 0 (.quiet 1 0 (.quiet 3 0 (.quiet 4 0 (.quiet 5 0 (.quiet 7 0 (.quiet 8 0 (.fa 9 .done)))))))))) ?_
         repeat' first|exact True.intro|refine And.intro ?_ ?_|(intro _ _)|refine bl ?_|refine aL vg ?_|refine aL SK ?_
         exact (by show _=c7 [RD.a (aq ((cn h m g).getD h)),RD.c (.v (.bool (cn h m g).isSome))];rw [jz K9 qU (by omega)];show _=c7 [RD.a (aq (iM h m.toNat g.toNat y)),RD.c (.v (.bool true))];rw [Ub (w:=(aK y == 4)) (by omega) rfl,Pg (by omega) (by omega) ‹_› (by rw [beq_iff_eq];omega),Zx,hP2,oJ _ _ _ _ _ (show ({ H2 with au:=eR H2.au P2 (b6 (address y)) y.A }:ap).ai[m.toNat]? = some x2 from vg)];rfl)
        ·refine gp [8] [8] [] (.quiet 3 1 (.quiet 4 1 (.quiet 0 0 (.quiet 1 0 (.quiet 2 0 (.fa 5 (.fa 6 (.fa 7 (.fa 8 .done))))))))) ?_
         repeat' first|exact True.intro|refine And.intro ?_ ?_|(intro _ _)|refine ah (eU (address y)).k ?_|refine ah (nj H2.au P2 (b6 (address y))).k ?_|refine an (p8 y (cellAt H2.au P2 (b6 (address y)))).k ?_
         refine gp [9] [9] [] (.quiet 2 1 (.quiet 6 1 (.quiet 0 0 (.quiet 1 0 (.quiet 3 0 (.quiet 4 0 (.quiet 5 0 (.quiet 7 0 (.quiet 8 0 (.fa 9 .done)))))))))) ?_
         repeat' first|exact True.intro|refine And.intro ?_ ?_|(intro _ _)|refine bl ?_|refine aL vg ?_|refine aL SK ?_
         exact (by exfalso;omega)
      ·refine aB ?_ ?_ <;> intro YT
       ·refine bl ?_
        refine zN [(8,1)] (Cu (gi:=g) h.ai m.toNat (cK h m.toNat) g.toNat y (aK y) (by omega) how hx0 hyx) ?_
        exact (by show _=c7 [RD.a (aq ((cn h m g).getD h)),RD.c (.v (.bool (cn h m g).isSome))];rw [jz K9 qU (by omega)];show _=c7 [RD.a (aq (iM h m.toNat g.toNat y)),RD.c (.v (.bool true))];rw [FN (by omega)];rfl)
       ·refine aB ?_ ?_ <;> intro hb9
        ·refine bl ?_
         refine zN [(8,1)] (Cu (gi:=g) h.ai m.toNat (cK h m.toNat) g.toNat y (aK y) (by omega) how hx0 hyx) ?_
         exact (by show _=c7 [RD.a (aq ((cn h m g).getD h)),RD.c (.v (.bool (cn h m g).isSome))];rw [jz K9 qU (by omega)];show _=c7 [RD.a (aq (iM h m.toNat g.toNat y)),RD.c (.v (.bool true))];rw [FN (by omega)];rfl)
        ·refine an (lC h m).k ?_
         refine an (EI (b8 h m) g).k ?_
         refine bl ?_
         refine aL ‹_› ?_
         exact (by show _=c7 [RD.a (aq ((cn h m g).getD h)),RD.c (.v (.bool (cn h m g).isSome))];rw [jz K9 qU (by omega)];show _=c7 [RD.a (aq (iM h m.toNat g.toNat y)),RD.c (.v (.bool true))];rw [Uc K9 qU (by omega),Xm _ _ _ _ hx1];rfl)
end
set_option maxRecDepth 100000
set_option maxHeartbeats 8000000
theorem Cv (b:aS) (g:Int) (p:Int) [Q (a_ b)]:aF Tryz.prog 274 [A (bH b), .one (.b9 [.v (.int .i64 g)]), .one (.b9 [.v (.int .i64 p)])] (RG [.a (bH ((ew b g p).getD b)), .c (.v (.bool (ew b g p).isSome))]):=by
 refine aF.w 12 Tryz.func274 fun w g0 _=> ?_
 refine an (Dg b g p).k ?_
 exact rfl
theorem Du (b:aS) (p:Int) (c:Int) (v:Int) [Q (a_ b)]:aF Tryz.prog 286 [A (bH b), .one (.b9 [.v (.int .i64 p)]), .one (.b9 [.v (.int .i64 c)]), .one (.b9 [.v (.int .i64 v)])] (RG [.a (bH ((iG b p c v).getD b)), .c (.v (.bool (iG b p c v).isSome))]):=by
 refine aF.w 14 Tryz.func286 fun w g0 _=> ?_
 refine an (EH b p c v).k ?_
 exact rfl
end Go.Proofs.YtdliggkohdnipaaGreat.T
