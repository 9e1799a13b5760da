import Derived.Test.YtdliggkohdnipaaGreatQbr
import Derived.Test.YtdliggkohdnipaaGreatQdr
import Derived.Test.YtdliggkohdnipaaGreatQfr
import Derived.Test.YtdliggkohdnipaaGreatPsr
set_option linter.unusedVariables false
set_option linter.unusedSimpArgs false
namespace Go.Proofs.YtdliggkohdnipaaGreat.T
open Go
section
variable {w:Bool} {g m need ag:Int} {q:Nat} {u:av} {h:an} {x:aO}
set_option maxRecDepth 100000
set_option maxHeartbeats 8000000
theorem Sg {m:Nat} (hx:h.ap[m]? = some x):wj h.ap (n6 h m q need).ap:=by
 unfold n6
 split
 rw [wh hx]
 exact th hx rfl
 exact .of
theorem Vt {io:Bool} {b:List bt}:(o7 h io b).ap=h.ap:=by cases io <;> rfl
theorem NF {m g:Nat} {z:aL} {k:bQ} {y:av} (hk:XB h m g q x z k y):wj h.ap (filled h m g ag q need).ap:=by
 cases hl:lets (ask (kept h m g) ag) need with
 | true=>rw [n7 hl];exact .of
 | false=>
  obtain ⟨x2,k2,h2⟩:= @B6 h m g ag q need x z k y hk
  rw [(h2.hf hl).1]
  exact (B1 hk.hs hk.ha hk.hx hk.hz).to (th h2.hx rfl)
theorem Sh {h:an} {m g ag need:Int} {io:Bool} (hh:aj h):∀ q,find h m g ag need io=some q→cG h m g=true∧wj h.ap q.1.ap:=fun q hq=>by
 by_cases hn:cG h m g=true∧(need=1 ∨ need=2)
 refine ⟨hn.1, ?_⟩
 cases hw:bn (c9 h m.toNat g.toNat).Live ag need with
 | none=>rw [uw hn,hw] at hq;cases hq
 | some p=>
  have h3:=bO.1 hn.1
  have hy0:(cE h m.toNat).aa[g.toNat]? = some ((cE h m.toNat).aa[g.toNat]'(by omega)):=List.getElem?_eq_getElem (by omega)
  have hok:=dU h3.1 (cC h3.2.1)
  have CN:bL (c9 h m.toNat g.toNat)=true:=by
   rw [jF (cC h3.2.1) hy0]
   simp only [eO,Bool.and_eq_true] at hok
   exact List.all_eq_true.1 hok.1.1.2 _ (List.mem_of_getElem? hy0)
  have hp:=n5 CN hw
  obtain ⟨x,z,k,y,eT,_⟩:=xo (need:=need) hn.1 hh hp
  have hd:=Sg (q:=p.toNat) (need:=need) (cC h3.2.1)
  cases e:nt (hD h m p need) io m g ag need with
  | some s=>
   have Yq:=uw (ag:=ag) (io:=io) hn
   rw [hw] at Yq
   have h5:find h m g ag need io=some (hD h m p need,s.Host):=by
    rw [Yq]
    show some (x_ _ _ _ _ _ _ _)=_
    rw [B2 h3.2.1.1 h3.2.2.1 e]
   rw [h5] at hq
   cases hq
   exact hd
  | none=>
   rw [tt hn hw e] at hq
   cases hq
   show wj h.ap (o7 _ _ _).ap
   rw [Vt]
   exact hd.to (NF eT)
 rw [iD hn] at hq;cases hq
abbrev nH (h:an) (m g ag need:Int):an:=((find h m g ag need false).map fun q=>q.1).getD h
abbrev nP (h:an) (m g ag need:Int):Int:=((find h m g ag need false).map fun q=>q.2).getD (-1)
theorem Pz {k:Nat} (hh:aj h) (hx:h.ap[k]? = some x):∃ y,(nH h m g ag need).ap[k]? = some y∧y.aa=x.aa:=by
 unfold nH
 cases e:find h m g ag need false with
 | none=>exact ⟨x,hx,rfl⟩
 | some q=>exact (Sh hh q e).2 k x hx
theorem Js (hs:(find h m g ag need false).isSome=true):find h m g ag need false=some (nH h m g ag need,nP h m g ag need):=by
 unfold nH nP
 cases e:find h m g ag need false with
 | none=>rw [e] at hs;cases hs
 | some q=>rfl
theorem GD (hs:(find h m g ag need false).isSome=false):find h m g ag need false=none:=by
 cases e:find h m g ag need false with
 | none=>rfl
 | some q=>rw [e] at hs;cases hs
theorem Ln (hs:(find h m g ag need false).isSome=false):nH h m g ag need=h:=by
 unfold nH
 rw [GD hs]
 rfl
theorem nv (H:an) (m g:Nat) (x:aO) (u:av) (hx:H.ap[m]? = some x):aq (iV H m g u)=[.sl 1 (H.au.map aN), .sl 9 ((H.ap.map bh).set m (.st [.sl 2 (x.ai.map aQ), .sl 1 (x.Out.map aN), .sl 1 (x.a_.map bz), .sl 15 ((x.aa.map aY).set g (.st [.sl 2 (u.Prog.map jt), .v (.int .i64 u.A), .v (.int .i64 u.Pc), .sl 2 (u.Written.map aQ), .sl 2 (u.Live.map aQ), .v (.int .i64 u.iG.bq), .v (.int .i64 u.iG.Post), .v (.bool u.iG.Open), .v (.int .i64 u.ax), .v (.int .i64 u.Exit.Kind), .v (.int .i64 u.Exit.aJ), .v (.bool u.Exit.Write), .v (.int .i64 u.Exit.N), .v (.bool u.i_), .sl 1 (u.Seen.map bH)])), .sl 1 (x.bX.map bH), .v (.int .i64 x.ax), .v (.int .i64 x.bq), .sl 2 (x.Tables.map bS), .v (.int .i64 x.Own)])), .sl 4 (H.Buffer.map aA), .sl 4 (H.aC.map aA)]:=by
 unfold iV fD
 rw [kM hx]
 show [_,D.sl 9 ((H.ap.set m { x with aa:=x.aa.set g u }).map bh),_,_]=_
 rw [Pr]
theorem Vu (H:an) (m:Nat) (x:aO) (l:List av) (hx:H.ap[m]? = some x):aq (fD H m { cE H m with aa:=l })=[.sl 1 (H.au.map aN), .sl 9 ((H.ap.map bh).set m (.st [.sl 2 (x.ai.map aQ), .sl 1 (x.Out.map aN), .sl 1 (x.a_.map bz), .sl 15 (l.map aY), .sl 1 (x.bX.map bH), .v (.int .i64 x.ax), .v (.int .i64 x.bq), .sl 2 (x.Tables.map bS), .v (.int .i64 x.Own)])), .sl 4 (H.Buffer.map aA), .sl 4 (H.aC.map aA)]:=by
 unfold fD
 rw [kM hx]
 show [_,D.sl 9 ((H.ap.set m { x with aa:=l }).map bh),_,_]=_
 rw [List.map_set]
 done
theorem Ba (hn:cG h m g=false):cn h m g=none:=by unfold cn;rw [hn];rfl
theorem B8 (hn:¬ (cG h m g=true∧True)):cG h m g=false:=by
 cases e:cG h m g with
 | false=>rfl
 | true=>exact absurd ⟨e,trivial⟩ hn
theorem GF (hn:aH (c9 h m.toNat g.toNat)=0):cn h m g=none:=by
 unfold cn
 split
 rfl
 rfl
theorem iO (hg:cG h m g=true) (hu:c9 h m.toNat g.toNat=u) (hn:¬ aH u=0):cn h m g=some (iJ h m.toNat g.toNat u):=by
 subst hu
 unfold cn
 rw [hg,if_pos rfl,if_neg hn]
section
variable {h:an} {m g:Nat} {u:av}
theorem Si (h1:aH u=3 ∨ aH u=4) (hw:w=(aH u == 4)):iJ h m g u=ix h m g u w:=by
 unfold iJ
 subst hw
 rw [if_neg (by omega),if_neg (by omega)]
 rcases h1 with h1|h1
 rw [if_pos h1,h1];rfl
 rw [if_neg (by omega),if_pos h1,h1];rfl
theorem Ee (h1:aH u=5 ∨ aH u=7):iJ h m g u=fD h m (o8 (cE h m) g u (aH u)):=by
 unfold iJ
 rw [if_neg (by omega),if_neg (by omega),if_neg (by omega),if_neg (by omega),if_neg (by omega)]
end
abbrev tP (u:av):Int:=bl (address u)
theorem Lo (hm:0 ≤ m) (hg:0 ≤ g) (hs:(find h m g (tP u) (cu w) false).isSome=false):ix h m.toNat g.toNat u w=iV h m.toNat g.toNat (cT u (ia (tP u) w)):=by
 unfold ix
 rw [Int.toNat_of_nonneg hm,Int.toNat_of_nonneg hg,GD hs]
theorem NG (hm:0 ≤ m) (hg:0 ≤ g) (hs:(find h m g (tP u) (cu w) false).isSome=true) (hw:w=true):ix h m.toNat g.toNat u w=iV { nH h m g (tP u) (cu w) with au:=ec (nH h m g (tP u) (cu w)).au (nP h m g (tP u) (cu w)) (bT (address u)) u.A } m.toNat g.toNat (fj u):=by
 unfold ix
 rw [Int.toNat_of_nonneg hm,Int.toNat_of_nonneg hg,Js hs]
 exact if_pos hw
theorem Q9 (hm:0 ≤ m) (hg:0 ≤ g) (hs:(find h m g (tP u) (cu w) false).isSome=true) (hw:w=false):ix h m.toNat g.toNat u w=iV (nH h m g (tP u) (cu w)) m.toNat g.toNat (qN u (cellAt (nH h m g (tP u) (cu w)).au (nP h m g (tP u) (cu w)) (bT (address u)))):=by
 unfold ix
 rw [Int.toNat_of_nonneg hm,Int.toNat_of_nonneg hg,Js hs]
 exact if_neg (by rw [hw];decide)
theorem Sj (hg:cG h m g=true) (hu:c9 h m.toNat g.toNat=u) (hw:aH u=1 ∨ aH u=2 ∨ aH u=6):
  iJ h m.toNat g.toNat u=fD h m.toNat { cE h m.toNat with aa:=((m8 (ck h m) g).getD (ck h m)).aa }:=by
 have h3:=bO.1 hg
 have hm:=rm h3.1 h3.2.1
 obtain ⟨g1,g2,g3⟩:=Ea hm
 have hx:=cC h3.2.1
 have hy:(cE h m.toNat).aa[g.toNat]? = some u:=by
  obtain ⟨y,hy⟩:∃ y,(cE h m.toNat).aa[g.toNat]? = some y:=⟨_,List.getElem?_eq_getElem (by omega)⟩
  rw [← hu,jF hx hy]
  exact hy
 have ha:kS (ck h m).aa g=some u:=by
  unfold kS
  rw [if_pos h3.2.2.1,g2]
  exact hy
 have hb:m8 (ck h m) g=some (stepOf (ck h m) g u):=by
  unfold m8
  rw [g1,if_pos rfl,ha]
  exact if_neg (by omega)
 have hp:∀ v,(bW (ck h m) g v).aa=(cE h m.toNat).aa.set g.toNat v:=fun v=>by
  show put (ck h m).aa g v=_
  unfold put
  rw [if_pos h3.2.2.1,g2]
 rw [hb]
 show _=fD h m.toNat { cE h m.toNat with aa:=(stepOf (ck h m) g u).aa }
 rcases hw with hw|hw|hw
 rw [st_1 hw,hp]
 unfold iJ
 rw [if_pos hw]
 rfl
 rw [st_2 hw,hp]
 unfold iJ
 rw [if_neg (by omega),if_pos hw]
 rfl
 rw [st_6 hw,hp]
 unfold iJ
 rw [if_neg (by omega),if_neg (by omega),if_neg (by omega),if_neg (by omega),if_pos hw]
 rfl
theorem Lp {u:av}:0 ≤ aH u∧aH u ≤ 7:=by
 unfold aH
 repeat' split
 all_goals omega
theorem Bb {gi:Int} (ms:List aO) (m:Nat) (x:aO) (g:Nat) (u:av) (want:Int) [Q (tR ms)] [Ch:Q (-9223372036854775808 ≤ u.Pc)] (hgi:gi=g) (ho:0 ≤ x.Own) (hx:ms[m]? = some x) (hu:x.aa[g]? = some u):
  eA Tryz.prog 269 ⟨false,[.sl 9 (ms.map bh)]⟩ [.one (.ptr ⟨1000000,[(0,m)],0⟩),I gi,I want] (zF [.sl 9 ((ms.set m (o8 x g u want)).map bh)] (.lp [])):=by
 subst hgi
 exact La ms m x g u want ho hx hu
theorem PA (hx:eO x=true):0 ≤ x.Own:=by
 simp only [eO,jv,Bool.and_eq_true,decide_eq_true_eq] at hx
 omega
theorem Dv (h:an) (m:Int) (g:Int) [Q (aj h)]:aF Tryz.prog 160 [A (aq h),I m,I g] (RG [.a (aq ((cn h m g).getD h)), .c (.v (.bool (cn h m g).isSome))]):=by
 refine aF.w 147 Tryz.func160 fun w g0 hM=> ?_
 have eK:=hM.1.2.1.map
 refine ak (aP h).k ?_
 refine ak (pS h m).k ?_
 refine ah (fo h).k ?_
 refine aB ?_ ?_ <;> intro gm
 ·exact (by rw [Ba (B8 (by exact Gx (by simpa using gm)))];rfl)
 ·refine aB ?_ ?_ <;> intro Hw
  ·exact (by (rw [Ba (B8 (by exact Pv (by simpa using Hw)))];rfl))
  ·refine len ?_
   refine ah (bA _ _).k ?_
   refine aB ?_ ?_ <;> intro C6
   ·exact (by (rw [Ba (B8 (by exact Pw (by simpa using C6)))];rfl))
   ·have Jt:=NA (by simpa using gm) (by simpa using Hw) (by simpa using C6)
    have Gy:=bO.1 Jt
    have xP:=Gi (h:=h) Gy.2.1.1
    have hx0:=cC Gy.2.1
    have ny:=dU Gy.1 hx0
    have hmo:=dB ny
    obtain ⟨y,hy⟩:∃ y,(dx h m).aa[g.toNat]? = some y:=⟨_,List.getElem?_eq_getElem (by rw [xP];omega)⟩
    have oX:c9 h m.toNat g.toNat=y:=jF hx0 (by rw [← xP];exact hy)
    have CN:bL y=true:=(by simp only [eO,Bool.and_eq_true] at ny;exact List.all_eq_true.1 ny.1.1.2 y (List.mem_of_getElem? (by rw [← xP];exact hy)))
    have hml:=(List.getElem?_eq_some_iff.1 hx0).1
    have O2:=(List.getElem?_eq_some_iff.1 hy).1
    have sJ:Q (bf (cE h m.toNat)):=⟨j6.h _ (List.mem_of_getElem? hx0)⟩
    have qxo:Q (bf (dx h m)):=(by rw [xP];exact sJ)
    have qy:Q (aG y):=⟨j6.h y (List.mem_of_getElem? hy)⟩
    have hx1:h.ap[m.toNat]? = some (dx h m):=by rw [xP];exact hx0
    have hyr:=gj CN
    have hya:=D8 CN
    have qp:Q (-9223372036854775808 ≤ y.Pc):=⟨by omega⟩
    have qa:Q (address y ≤ 9223372036854775807):=⟨by omega⟩
    have hyx:(cE h m.toNat).aa[g.toNat]? = some y:=by rw [← xP];exact hy
    have mF:m.toNat < (h.ap.map bh).length:=by rw [List.length_map];exact hml
    have hwi:= @Lp y
    have how:=PA ny
    refine aZ ?_
    refine aI (by assumption) ?_
    refine ah (lV y).k ?_
    refine aB ?_ ?_ <;> intro hb
    ·exact (by rw [GF (by rw [oX];assumption)];rfl)
    ·refine aZ ?_
     refine aI (by assumption) ?_
     refine ah (lV y).k ?_
     refine ah (vI y).k ?_
     refine aB ?_ ?_ <;> intro gY
     ·refine CF [13] [13] [] (.quiet 1 1 (.quiet 2 1 (.quiet 3 1 (.quiet 5 1 (.quiet 0 0 (.fork (.alt 4 (.fork (.alt 6 (.fork (.alt 7 (.quiet 8 1 (.quiet 9 1 (.quiet 10 1 (.quiet 11 1 (.fork (.alt 12 (.fork (.alt 13 (.quiet 14 1 (.quiet 15 1 .done)) .stop)) .stop)))))) (.alt 12 (.fork (.alt 7 (.quiet 8 1 (.quiet 9 1 (.quiet 10 1 (.quiet 11 1 (.fork (.alt 13 (.quiet 14 1 (.quiet 15 1 .done)) .stop)))))) .stop)) .stop))) (.alt 12 (.fork (.alt 6 (.fork (.alt 7 (.quiet 8 1 (.quiet 9 1 (.quiet 10 1 (.quiet 11 1 (.fork (.alt 13 (.quiet 14 1 (.quiet 15 1 .done)) .stop)))))) .stop)) .stop)) .stop))) (.alt 12 (.fork (.alt 4 (.fork (.alt 6 (.fork (.alt 7 (.quiet 8 1 (.quiet 9 1 (.quiet 10 1 (.quiet 11 1 (.fork (.alt 13 (.quiet 14 1 (.quiet 15 1 .done)) .stop)))))) .stop)) .stop)) .stop)) .stop)))))))) [1,2,3,6,7,8,11,13,14] [] [15,76] [.set 15 (.one (.ptr ⟨15,[],0⟩)), .set 16 (I (nP h m g (tP y) (cu (aH y == 4)))), .set 17 (B (find h m g (tP y) (cu (aH y == 4)) false).isSome)] [(15,⟨true,[.own (.sl 1 ((nH h m g (tP y) (cu (aH y == 4))).au.map aN)), .own (.sl 9 ((nH h m g (tP y) (cu (aH y == 4))).ap.map bh)), .own (.sl 4 ((nH h m g (tP y) (cu (aH y == 4))).Buffer.map aA)), .own (.sl 4 ((nH h m g (tP y) (cu (aH y == 4))).aC.map aA))]⟩)] ?_
      refine ⟨?_, ?_⟩
      ·repeat' first|exact True.intro|refine And.intro ?_ ?_|(intro _ _)|refine ah (ed (address y)).k ?_|refine ah (om (aH y == 4)).k ?_|refine ak (yq h m g (tP y) (cu (aH y == 4))).k ?_|exact rfl
      obtain ⟨x2,tC,Vv⟩:=Pz (m:=m) (g:=g) (ag:=tP y) (need:=cu (aH y == 4)) (by assumption:Q (aj h)).h hx0
      have qn:Q (aj (nH h m g (tP y) (cu (aH y == 4)))):=inferInstance
      generalize XO:(nH h m g (tP y) (cu (aH y == 4)))=H2 at tC qn ⊢
      generalize hP2:(nP h m g (tP y) (cu (aH y == 4)))=P2
      have Q_:x2.aa[g.toNat]? = some y:=by rw [Vv];exact hyx
      have qx2:Q (bf x2):=⟨qn.h.2.1.2 x2 (List.mem_of_getElem? tC)⟩
      have l1:=(List.getElem?_eq_some_iff.1 tC).1
      have l2:=(List.getElem?_eq_some_iff.1 Q_).1
      have l3:m.toNat < (H2.ap.map bh).length:=by rw [List.length_map];exact l1
      have l4:g.toNat < (x2.aa.map aY).length:=by rw [List.length_map];exact l2
      refine aB ?_ ?_ <;> intro tY
      ·refine fW [6] [6] [] (.quiet 1 1 (.quiet 3 1 (.quiet 0 0 (.fork (.alt 2 (.fork (.alt 4 (.fork (.alt 5 (.fork (.alt 6 .done .stop)) .stop)) .stop)) .stop))))) ?_
       repeat' first|exact True.intro|refine And.intro ?_ ?_|(intro _ _)|refine ah (ed (address y)).k ?_|refine ah (k5 (tP y) (aH y == 4)).k ?_|refine ak (fF y (ia (tP y) (aH y == 4))).k ?_
       refine fW [9] [9] [] (.quiet 2 1 (.quiet 6 1 (.quiet 0 0 (.quiet 1 0 (.quiet 3 0 (.quiet 4 0 (.quiet 5 0 (.quiet 7 0 (.quiet 8 0 (.fork (.alt 9 .done .stop))))))))))) ?_
       repeat' first|exact True.intro|refine And.intro ?_ ?_|(intro _ _)|refine aZ ?_|refine aI tC ?_|refine aI Q_ ?_
       exact (by show _=cR [RD.a (aq ((cn h m g).getD h)),RD.c (.v (.bool (cn h m g).isSome))];rw [iO Jt oX (by omega)];show _=cR [RD.a (aq (iJ h m.toNat g.toNat y)),RD.c (.v (.bool true))];rw [Si (w:=(aH y == 4)) (by omega) rfl,Lo (by omega) (by omega) (by assumption),nv _ _ _ _ _ hx0];have e2:=(Ln (by assumption:(find h m g (tP y) (cu (aH y == 4)) false).isSome=false)).symm.trans XO;subst e2;have e3:=Option.some.inj (hx0.symm.trans tC);subst e3;rfl)
      ·refine aB ?_ ?_ <;> intro yW
       ·refine fW [9] [9] [] (.quiet 2 1 (.quiet 3 1 (.quiet 0 0 (.quiet 1 0 (.quiet 5 0 (.quiet 6 0 (.fork (.alt 4 (.fork (.alt 7 (.quiet 8 0 (.fork (.alt 9 .done .stop))) .stop)) .stop)))))))) ?_
        repeat' first|exact True.intro|refine And.intro ?_ ?_|(intro _ _)|refine ah (ee (address y)).k ?_|refine bk (gS H2.au P2 (bT (address y)) y.A).k ?_
        refine ak (ot y).k ?_
        refine fW [9] [9] [] (.quiet 2 1 (.quiet 6 1 (.quiet 0 0 (.quiet 1 0 (.quiet 3 0 (.quiet 4 0 (.quiet 5 0 (.quiet 7 0 (.quiet 8 0 (.fork (.alt 9 .done .stop))))))))))) ?_
        repeat' first|exact True.intro|refine And.intro ?_ ?_|(intro _ _)|refine aZ ?_|refine aI tC ?_|refine aI Q_ ?_
        exact (by exfalso;omega)
       ·refine fW [8] [8] [] (.quiet 3 1 (.quiet 4 1 (.quiet 0 0 (.quiet 1 0 (.quiet 2 0 (.fork (.alt 5 (.fork (.alt 6 (.fork (.alt 7 (.fork (.alt 8 .done .stop)) .stop)) .stop)) .stop))))))) ?_
        repeat' first|exact True.intro|refine And.intro ?_ ?_|(intro _ _)|refine ah (ee (address y)).k ?_|refine ah (lS H2.au P2 (bT (address y))).k ?_|refine ak (ou y (cellAt H2.au P2 (bT (address y)))).k ?_
        refine fW [9] [9] [] (.quiet 2 1 (.quiet 6 1 (.quiet 0 0 (.quiet 1 0 (.quiet 3 0 (.quiet 4 0 (.quiet 5 0 (.quiet 7 0 (.quiet 8 0 (.fork (.alt 9 .done .stop))))))))))) ?_
        repeat' first|exact True.intro|refine And.intro ?_ ?_|(intro _ _)|refine aZ ?_|refine aI tC ?_|refine aI Q_ ?_
        exact (by show _=cR [RD.a (aq ((cn h m g).getD h)),RD.c (.v (.bool (cn h m g).isSome))];rw [iO Jt oX (by omega)];show _=cR [RD.a (aq (iJ h m.toNat g.toNat y)),RD.c (.v (.bool true))];rw [Si (w:=(aH y == 4)) (by omega) rfl,Q9 (by omega) (by omega) (by assumption) (by rw [beq_eq_false_iff_ne];omega),XO,hP2,nv _ _ _ _ _ tC];rfl)
     ·refine aB ?_ ?_ <;> intro CE
      ·refine CF [13] [13] [] (.quiet 1 1 (.quiet 2 1 (.quiet 3 1 (.quiet 5 1 (.quiet 0 0 (.fork (.alt 4 (.fork (.alt 6 (.fork (.alt 7 (.quiet 8 1 (.quiet 9 1 (.quiet 10 1 (.quiet 11 1 (.fork (.alt 12 (.fork (.alt 13 (.quiet 14 1 (.quiet 15 1 .done)) .stop)) .stop)))))) (.alt 12 (.fork (.alt 7 (.quiet 8 1 (.quiet 9 1 (.quiet 10 1 (.quiet 11 1 (.fork (.alt 13 (.quiet 14 1 (.quiet 15 1 .done)) .stop)))))) .stop)) .stop))) (.alt 12 (.fork (.alt 6 (.fork (.alt 7 (.quiet 8 1 (.quiet 9 1 (.quiet 10 1 (.quiet 11 1 (.fork (.alt 13 (.quiet 14 1 (.quiet 15 1 .done)) .stop)))))) .stop)) .stop)) .stop))) (.alt 12 (.fork (.alt 4 (.fork (.alt 6 (.fork (.alt 7 (.quiet 8 1 (.quiet 9 1 (.quiet 10 1 (.quiet 11 1 (.fork (.alt 13 (.quiet 14 1 (.quiet 15 1 .done)) .stop)))))) .stop)) .stop)) .stop)) .stop)))))))) [1,2,3,6,7,8,11,13,14] [] [15,76] [.set 15 (.one (.ptr ⟨15,[],0⟩)), .set 16 (I (nP h m g (tP y) (cu (aH y == 4)))), .set 17 (B (find h m g (tP y) (cu (aH y == 4)) false).isSome)] [(15,⟨true,[.own (.sl 1 ((nH h m g (tP y) (cu (aH y == 4))).au.map aN)), .own (.sl 9 ((nH h m g (tP y) (cu (aH y == 4))).ap.map bh)), .own (.sl 4 ((nH h m g (tP y) (cu (aH y == 4))).Buffer.map aA)), .own (.sl 4 ((nH h m g (tP y) (cu (aH y == 4))).aC.map aA))]⟩)] ?_
       refine ⟨?_, ?_⟩
       ·repeat' first|exact True.intro|refine And.intro ?_ ?_|(intro _ _)|refine ah (ed (address y)).k ?_|refine ah (om (aH y == 4)).k ?_|refine ak (yq h m g (tP y) (cu (aH y == 4))).k ?_|exact rfl
       obtain ⟨x2,tC,Vv⟩:=Pz (m:=m) (g:=g) (ag:=tP y) (need:=cu (aH y == 4)) (by assumption:Q (aj h)).h hx0
       have qn:Q (aj (nH h m g (tP y) (cu (aH y == 4)))):=inferInstance
       generalize XO:(nH h m g (tP y) (cu (aH y == 4)))=H2 at tC qn ⊢
       generalize hP2:(nP h m g (tP y) (cu (aH y == 4)))=P2
       have Q_:x2.aa[g.toNat]? = some y:=by rw [Vv];exact hyx
       have qx2:Q (bf x2):=⟨qn.h.2.1.2 x2 (List.mem_of_getElem? tC)⟩
       have l1:=(List.getElem?_eq_some_iff.1 tC).1
       have l2:=(List.getElem?_eq_some_iff.1 Q_).1
       have l3:m.toNat < (H2.ap.map bh).length:=by rw [List.length_map];exact l1
       have l4:g.toNat < (x2.aa.map aY).length:=by rw [List.length_map];exact l2
       refine aB ?_ ?_ <;> intro NX
       ·refine fW [6] [6] [] (.quiet 1 1 (.quiet 3 1 (.quiet 0 0 (.fork (.alt 2 (.fork (.alt 4 (.fork (.alt 5 (.fork (.alt 6 .done .stop)) .stop)) .stop)) .stop))))) ?_
        repeat' first|exact True.intro|refine And.intro ?_ ?_|(intro _ _)|refine ah (ed (address y)).k ?_|refine ah (k5 (tP y) (aH y == 4)).k ?_|refine ak (fF y (ia (tP y) (aH y == 4))).k ?_
        refine fW [9] [9] [] (.quiet 2 1 (.quiet 6 1 (.quiet 0 0 (.quiet 1 0 (.quiet 3 0 (.quiet 4 0 (.quiet 5 0 (.quiet 7 0 (.quiet 8 0 (.fork (.alt 9 .done .stop))))))))))) ?_
        repeat' first|exact True.intro|refine And.intro ?_ ?_|(intro _ _)|refine aZ ?_|refine aI tC ?_|refine aI Q_ ?_
        exact (by show _=cR [RD.a (aq ((cn h m g).getD h)),RD.c (.v (.bool (cn h m g).isSome))];rw [iO Jt oX (by omega)];show _=cR [RD.a (aq (iJ h m.toNat g.toNat y)),RD.c (.v (.bool true))];rw [Si (w:=(aH y == 4)) (by omega) rfl,Lo (by omega) (by omega) (by assumption),nv _ _ _ _ _ hx0];have e2:=(Ln (by assumption:(find h m g (tP y) (cu (aH y == 4)) false).isSome=false)).symm.trans XO;subst e2;have e3:=Option.some.inj (hx0.symm.trans tC);subst e3;rfl)
       ·refine aB ?_ ?_ <;> intro RS
        ·refine fW [9] [9] [] (.quiet 2 1 (.quiet 3 1 (.quiet 0 0 (.quiet 1 0 (.quiet 5 0 (.quiet 6 0 (.fork (.alt 4 (.fork (.alt 7 (.quiet 8 0 (.fork (.alt 9 .done .stop))) .stop)) .stop)))))))) ?_
         repeat' first|exact True.intro|refine And.intro ?_ ?_|(intro _ _)|refine ah (ee (address y)).k ?_|refine bk (gS H2.au P2 (bT (address y)) y.A).k ?_
         refine ak (ot y).k ?_
         refine fW [9] [9] [] (.quiet 2 1 (.quiet 6 1 (.quiet 0 0 (.quiet 1 0 (.quiet 3 0 (.quiet 4 0 (.quiet 5 0 (.quiet 7 0 (.quiet 8 0 (.fork (.alt 9 .done .stop))))))))))) ?_
         repeat' first|exact True.intro|refine And.intro ?_ ?_|(intro _ _)|refine aZ ?_|refine aI tC ?_|refine aI Q_ ?_
         exact (by show _=cR [RD.a (aq ((cn h m g).getD h)),RD.c (.v (.bool (cn h m g).isSome))];rw [iO Jt oX (by omega)];show _=cR [RD.a (aq (iJ h m.toNat g.toNat y)),RD.c (.v (.bool true))];rw [Si (w:=(aH y == 4)) (by omega) rfl,NG (by omega) (by omega) (by assumption) (by rw [beq_iff_eq];omega),XO,hP2,nv _ _ _ _ _ (show ({ H2 with au:=ec H2.au P2 (bT (address y)) y.A }:an).ap[m.toNat]? = some x2 from tC)];rfl)
        ·refine fW [8] [8] [] (.quiet 3 1 (.quiet 4 1 (.quiet 0 0 (.quiet 1 0 (.quiet 2 0 (.fork (.alt 5 (.fork (.alt 6 (.fork (.alt 7 (.fork (.alt 8 .done .stop)) .stop)) .stop)) .stop))))))) ?_
         repeat' first|exact True.intro|refine And.intro ?_ ?_|(intro _ _)|refine ah (ee (address y)).k ?_|refine ah (lS H2.au P2 (bT (address y))).k ?_|refine ak (ou y (cellAt H2.au P2 (bT (address y)))).k ?_
         refine fW [9] [9] [] (.quiet 2 1 (.quiet 6 1 (.quiet 0 0 (.quiet 1 0 (.quiet 3 0 (.quiet 4 0 (.quiet 5 0 (.quiet 7 0 (.quiet 8 0 (.fork (.alt 9 .done .stop))))))))))) ?_
         repeat' first|exact True.intro|refine And.intro ?_ ?_|(intro _ _)|refine aZ ?_|refine aI tC ?_|refine aI Q_ ?_
         exact (by exfalso;omega)
      ·refine aB ?_ ?_ <;> intro Xf
       ·refine aZ ?_
        refine Af [(8,1)] (Bb (gi:=g) h.ap m.toNat (cE h m.toNat) g.toNat y (aH y) (by omega) how hx0 hyx) ?_
        exact (by show _=cR [RD.a (aq ((cn h m g).getD h)),RD.c (.v (.bool (cn h m g).isSome))];rw [iO Jt oX (by omega)];show _=cR [RD.a (aq (iJ h m.toNat g.toNat y)),RD.c (.v (.bool true))];rw [Ee (by omega)];rfl)
       ·refine aB ?_ ?_ <;> intro hb9
        ·refine aZ ?_
         refine Af [(8,1)] (Bb (gi:=g) h.ap m.toNat (cE h m.toNat) g.toNat y (aH y) (by omega) how hx0 hyx) ?_
         exact (by show _=cR [RD.a (aq ((cn h m g).getD h)),RD.c (.v (.bool (cn h m g).isSome))];rw [iO Jt oX (by omega)];show _=cR [RD.a (aq (iJ h m.toNat g.toNat y)),RD.c (.v (.bool true))];rw [Ee (by omega)];rfl)
        ·refine ak (lX h m).k ?_
         refine ak (Dh (ck h m) g).k ?_
         refine aZ ?_
         refine aI (by assumption) ?_
         exact (by show _=cR [RD.a (aq ((cn h m g).getD h)),RD.c (.v (.bool (cn h m g).isSome))];rw [iO Jt oX (by omega)];show _=cR [RD.a (aq (iJ h m.toNat g.toNat y)),RD.c (.v (.bool true))];rw [Sj Jt oX (by omega),Vu _ _ _ _ hx1];rfl)
end
set_option maxRecDepth 100000
set_option maxHeartbeats 8000000
theorem Bc (b:aV) (g:Int) (p:Int) [Q (aW b)]:aF Tryz.prog 274 [A (bC b), .one (.bV [.v (.int .i64 g)]), .one (.bV [.v (.int .i64 p)])] (RG [.a (bC ((dO b g p).getD b)), .c (.v (.bool (dO b g p).isSome))]):=by
 refine aF.w 12 Tryz.func274 fun w g0 _=> ?_
 refine ak (BZ b g p).k ?_
 exact rfl
theorem B9 (b:aV) (p:Int) (c:Int) (v:Int) [Q (aW b)]:aF Tryz.prog 286 [A (bC b), .one (.bV [.v (.int .i64 p)]), .one (.bV [.v (.int .i64 c)]), .one (.bV [.v (.int .i64 v)])] (RG [.a (bC ((gX b p c v).getD b)), .c (.v (.bool (gX b p c v).isSome))]):=by
 refine aF.w 14 Tryz.func286 fun w g0 _=> ?_
 refine ak (Dg b p c v).k ?_
 exact rfl
end Go.Proofs.YtdliggkohdnipaaGreat.T
