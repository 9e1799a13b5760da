import Derived.Test.YtdliggkohdnipaaGreatPsq
set_option linter.unusedVariables false
set_option linter.unusedSimpArgs false
namespace Go.Proofs.YtdliggkohdnipaaGreat.T
open Go
section
variable {io:Bool} {a g m need ag v:Int} {b:List bP} {h:ap}
set_option maxRecDepth 100000
set_option maxHeartbeats 8000000
theorem MU {e:bP}:(ic b e).length ≤ 6:=by
 unfold ic
 simp only [List.length_drop,o4,List.length_cons,List.length_nil]
 omega
theorem T9 (hh:aj h) (hb:b.length ≤ 6):aj (pz h io b):=by
 have iz:b.length ≤ 1048576:=by omega
 cases io
 exact ⟨hh.1,hh.2.1,iz,hh.2.2.2⟩
 exact ⟨hh.1,hh.2.1,hh.2.2.1,iz⟩
theorem FM {h:ap} {m g ag need:Int} {io:Bool} (hh:aj h):∀ q,find h m g ag need io=some q→aj q.1:=fun q hq=>by
 by_cases hn:cM h m g=true∧(need=1 ∨ need=2)
 cases hw:bB (dB h m.toNat g.toNat).Live ag need with
 | none=>rw [vU hn,hw] at hq;cases hq
 | some p=>
  have h3:=bW.1 hn.1
  have hy0:(cK h m.toNat).aa[g.toNat]? = some ((cK h m.toNat).aa[g.toNat]'(by omega)):=bg (by omega)
  have hok:=eE h3.1 (cO h3.2.1)
  have D5:bT (dB h m.toNat g.toNat)=true:=by
   rw [kv (cO h3.2.1) hy0]
   simp only [fy,bh] at hok
   exact eY.1 hok.1.1.2 _ (aH hy0)
  have hp:=pN D5 hw
  obtain ⟨x,z,k,y,fE,_⟩:=y7 (need:=need) hn.1 hh hp
  cases e:oH (hD h m p need) io m g ag need with
  | some s=>
   have Yv:=vU (ag:=ag) (io:=io) hn
   rw [hw] at Yv
   have h5:find h m g ag need io=some (hD h m p need,s.Host):=by
    rw [Yv]
    show some (wk _ _ _ _ _ _ _)=_
    rw [Dj h3.2.1.1 h3.2.2.1 e]
   rw [h5] at hq
   cases hq
   exact fE.hs.1
  | none=>
   rw [va hn hw e] at hq
   cases hq
   exact T9 (A8 (ag:=ag) (need:=need) fE).1 MU
 rw [jl hn] at hq;cases hq
theorem Xk (hh:aj h):aj (((find h m g ag need io).map fun q=>q.1).getD h):=by
 cases e:find h m g ag need io with
 | none=>exact hh
 | some q=>exact FM hh q e
instance (h:ap) (m g ag need:Int) (io:Bool) [hh:Q (aj h)]:Q (aj (((find h m g ag need io).map fun q=>q.1).getD h)):=⟨Xk hh.h⟩
abbrev fH (h:ap) (m g ag need:Int):ap:=((find h m g ag need true).map fun q=>q.1).getD h
abbrev fP (h:ap) (m g ag need:Int):Int:=((find h m g ag need true).map fun q=>q.2).getD (-1)
theorem Pd (hs:(find h m g ag need true).isSome=true):find h m g ag need true=some (fH h m g ag need,fP h m g ag need):=by
 unfold fH fP
 cases e:find h m g ag need true with
 | none=>rw [e] at hs;cases hs
 | some q=>rfl
theorem Ds (hs:(find h m g ag need true).isSome=false):find h m g ag need true=none:=by
 cases e:find h m g ag need true with
 | none=>rfl
 | some q=>rw [e] at hs;cases hs
theorem SI (hs:(find h m g ag need true).isSome=false):fH h m g ag need=h:=by
 unfold fH
 rw [Ds hs]
 rfl
theorem zj (hn:¬ (0 ≤ a∧a ≤ 15) ∨ ¬ (0 ≤ v∧v ≤ 99) ∨ (find h m g (bz a) 2 true).isSome=false):kP h m g a v=none:=by
 unfold kP
 split
 rename_i h1
 simp only [bh,decide_eq_true_eq] at h1
 rcases hn with hn|hn|hn
 exact absurd h1.1 hn
 exact absurd h1.2 hn
 rw [Ds hn];rfl
 rfl
theorem Pe (h1:0 ≤ a∧a ≤ 15) (h2:0 ≤ v∧v ≤ 99) (hs:(find h m g (bz a) 2 true).isSome=true):kP h m g a v=some { fH h m g (bz a) 2 with au:=eR (fH h m g (bz a) 2).au (fP h m g (bz a) 2) (b6 a) v }:=by
 unfold kP
 rw [if_pos (by simp only [bh,decide_eq_true_eq];exact ⟨h1,h2⟩),Pd hs]
 rfl
theorem Cs (hn:¬ (0 ≤ a∧a ≤ 15) ∨ (find h m g (bz a) 1 true).isSome=false):gl h m g a=none:=by
 unfold gl
 split
 rename_i h1
 simp only [decide_eq_true_eq] at h1
 rcases hn with hn|hn
 exact absurd h1 hn
 rw [Ds hn];rfl
 rfl
theorem K7 (h1:0 ≤ a∧a ≤ 15) (hs:(find h m g (bz a) 1 true).isSome=true):gl h m g a=some (fH h m g (bz a) 1,cellAt (fH h m g (bz a) 1).au (fP h m g (bz a) 1) (b6 a)):=by
 unfold gl
 rw [if_pos (by simp only [decide_eq_true_eq];exact h1),Pd hs]
 rfl
theorem It (h:ap) (m:Int) (g:Int) (a:Int) (v:Int) [Q (aj h)] [Q (a ≤ 9223372036854775807)]:aF Tryz.prog 171 [A (aq h),I m,I g,I a,I v] (RG [.a (aq ((kP h m g a v).getD h)), .c (.v (.bool (kP h m g a v).isSome))]):=by
 refine aF.w 48 Tryz.func171 fun w g0 _=> ?_
 refine gp [11] [11] [] (.quiet 1 1 (.quiet 2 1 (.quiet 3 1 (.quiet 0 0 (.fork (.alt 4 (.fork (.alt 5 (.quiet 6 1 (.quiet 7 1 (.quiet 8 1 (.quiet 9 1 (.fa 10 (.fa 11 (.quiet 12 1 (.quiet 13 1 .done)))))))) (.alt 10 (.fa 5 (.quiet 6 1 (.quiet 7 1 (.quiet 8 1 (.quiet 9 1 (.fa 11 (.quiet 12 1 (.quiet 13 1 .done)))))))) .stop))) (.alt 10 (.fa 4 (.fa 5 (.quiet 6 1 (.quiet 7 1 (.quiet 8 1 (.quiet 9 1 (.fa 11 (.quiet 12 1 (.quiet 13 1 .done))))))))) .stop))))))) ?_
 repeat' first|exact True.intro|refine And.intro ?_ ?_|(intro _ _)|refine ah (eT a).k ?_|refine an (wO h m g (bz a) 2).k ?_
 all_goals (
  refine ah (aU _ _ _).k ?_
  refine aB ?_ ?_ <;> intro gK
  ·refine an (aY h).k ?_
   exact (by first|(rw [zj (by left;omega)];rfl))
  ·refine ah (aU _ _ _).k ?_
   refine aB ?_ ?_ <;> intro Tz
   ·refine an (aY h).k ?_
    exact (by first|(rw [zj (by right;left;omega)];rfl))
   ·refine aB ?_ ?_ <;> intro hb
    ·refine an (aY h).k ?_
     exact (by first|(rw [zj (by right;right;assumption)];rfl))
    ·refine gp [8] [8] [] (.quiet 2 1 (.quiet 3 1 (.quiet 5 1 (.quiet 0 0 (.quiet 1 0 (.fa 4 (.fa 6 (.quiet 7 0 (.fa 8 .done))))))))) ?_
     repeat' first|exact True.intro|refine And.intro ?_ ?_|(intro _ _)|refine ah (eU a).k ?_|refine bu (iD (fH h m g (bz a) 2).au (fP h m g (bz a) 2) (b6 a) v).k ?_
     exact (by rw [Pe (by omega) (by omega) ‹_›];rfl))
theorem ET (h:ap) (m:Int) (g:Int) (a:Int) [Q (aj h)] [Q (a ≤ 9223372036854775807)]:aF Tryz.prog 172 [A (aq h),I m,I g,I a] (RG [.a (aq (((gl h m g a).map fun q=>q.1).getD h)), .c (.v (.int .i64 (((gl h m g a).map fun q=>q.2).getD 0))), .c (.v (.bool (gl h m g a).isSome))]):=by
 refine aF.w 40 Tryz.func172 fun w g0 _=> ?_
 refine gp [11] [11] [] (.quiet 1 1 (.quiet 2 1 (.quiet 3 1 (.quiet 0 0 (.fork (.alt 4 (.fork (.alt 5 (.quiet 6 1 (.quiet 7 1 (.quiet 8 1 (.quiet 9 1 (.fa 10 (.fa 11 (.quiet 12 1 (.quiet 13 1 .done)))))))) (.alt 10 (.fa 5 (.quiet 6 1 (.quiet 7 1 (.quiet 8 1 (.quiet 9 1 (.fa 11 (.quiet 12 1 (.quiet 13 1 .done)))))))) .stop))) (.alt 10 (.fa 4 (.fa 5 (.quiet 6 1 (.quiet 7 1 (.quiet 8 1 (.quiet 9 1 (.fa 11 (.quiet 12 1 (.quiet 13 1 .done))))))))) .stop))))))) ?_
 repeat' first|exact True.intro|refine And.intro ?_ ?_|(intro _ _)|refine ah (eT a).k ?_|refine an (wO h m g (bz a) 1).k ?_
 all_goals (
  refine ah (aU _ _ _).k ?_
  refine aB ?_ ?_ <;> intro gK
  ·refine an (aY h).k ?_
   exact (by first|(rw [Cs (by left;omega)];rfl))
  ·refine aB ?_ ?_ <;> intro hb
   ·refine an (aY h).k ?_
    exact (by first|(rw [Cs (by right;assumption)];rfl))
   ·refine gp [7] [7] [] (.quiet 3 1 (.quiet 4 1 (.quiet 0 0 (.quiet 1 0 (.quiet 2 0 (.fa 5 (.fa 6 (.fa 7 (.quiet 8 1 (.quiet 9 1 .done)))))))))) ?_
    repeat' first|exact True.intro|refine And.intro ?_ ?_|(intro _ _)|refine ah (eU a).k ?_|refine ah (nj (fH h m g (bz a) 1).au (fP h m g (bz a) 1) (b6 a)).k ?_
    exact (by rw [K7 (by omega) ‹_›];rfl))
theorem Iu (h:ap) (m:Int) (g:Int) (a:Int) (v:Int) [Q (aj h)]:aF Tryz.prog 229 [A (aq h),I m,I g,I a,I v] (RG [.a (aq ((kP h m g a v).getD h)), .c (.v (.bool (kP h m g a v).isSome))]):=by
 refine aF.w 49 Tryz.func229 fun w g0 _=> ?_
 refine an (cF h).k ?_
 refine ah (aE _ _ _).k ?_
 refine aB ?_ ?_ <;> intro gK
 ·exact (by first|(rw [zj (by left;omega)];rfl))
 ·refine ah (aE _ _ _).k ?_
  refine aB ?_ ?_ <;> intro hb
  ·exact (by first|(rw [zj (by right;left;omega)];rfl))
  ·have qa0:Q (a ≤ 9223372036854775807):=⟨by omega⟩
   refine xP [7,9,10,11,12,13] [] [] (.quiet 0 0 (.quiet 1 0 (.quiet 2 0 (.quiet 3 0 (.quiet 4 0 (.quiet 5 0 (.fa 6 (.fa 7 (.quiet 8 0 (.fork (.alt 9 (.fork (.alt 10 (.fork (.alt 11 (.fa 12 (.fa 13 (.quiet 14 0 .done))) (.alt 12 (.fork (.alt 11 (.fa 13 (.quiet 14 0 .done)) (.alt 13 (.fa 11 (.quiet 14 0 .done)) .stop))) .stop))) (.alt 11 (.fork (.alt 10 (.fa 12 (.fa 13 (.quiet 14 0 .done))) (.alt 12 (.fa 10 (.fa 13 (.quiet 14 0 .done))) .stop))) (.alt 12 (.fork (.alt 10 (.fork (.alt 11 (.fa 13 (.quiet 14 0 .done)) (.alt 13 (.fa 11 (.quiet 14 0 .done)) .stop))) (.alt 11 (.fa 10 (.fa 13 (.quiet 14 0 .done))) .stop))) .stop)))) (.alt 10 (.fork (.alt 9 (.fork (.alt 11 (.fa 12 (.fa 13 (.quiet 14 0 .done))) (.alt 12 (.fork (.alt 11 (.fa 13 (.quiet 14 0 .done)) (.alt 13 (.fa 11 (.quiet 14 0 .done)) .stop))) .stop))) (.alt 11 (.fa 9 (.fa 12 (.fa 13 (.quiet 14 0 .done)))) .stop))) (.alt 11 (.fork (.alt 9 (.fork (.alt 10 (.fa 12 (.fa 13 (.quiet 14 0 .done))) (.alt 12 (.fa 10 (.fa 13 (.quiet 14 0 .done))) .stop))) (.alt 10 (.fa 9 (.fa 12 (.fa 13 (.quiet 14 0 .done)))) .stop))) .stop))))))))))))) [3,4,5,10,11] [] [5,15] [.set 12 (I (fP h m g (bz a) 2)), .set 13 (B (find h m g (bz a) 2 true).isSome)] [(5,⟨true,[.own (.sl 1 ((fH h m g (bz a) 2).au.map aP)), .own (.sl 9 ((fH h m g (bz a) 2).ai.map bA)), .own (.sl 4 ((fH h m g (bz a) 2).Buffer.map aC)), .own (.sl 4 ((fH h m g (bz a) 2).aD.map aC))]⟩)] ?_
   refine ⟨?_, ?_⟩
   ·repeat' first|exact True.intro|refine And.intro ?_ ?_|refine ah (nD a).k ?_|refine kf [(5,0),(5,1),(5,2),(5,3)] (wN h m g (bz a) 2) ?_|exact rfl
   refine aB ?_ ?_ <;> intro iz
   ·exact (by rw [zj (.inr (.inr ‹_›))];show _=c7 [RD.a (aq h),RD.c (.v (.bool false))];rw [SI (by assumption:(find h m g (bz a) 2 true).isSome=false)];rfl)
   ·refine cI [8] [(0,0),(1,0),(2,0),(3,0),(5,0),(4,1),(6,1),(7,0),(8,1)] ?_
    refine ah (nE a).k ?_
    refine bu (q5 (fH h m g (bz a) 2).au (fP h m g (bz a) 2) (b6 a) v).k ?_
    exact (by rw [Pe (by omega) (by omega) ‹_›];rfl)
theorem EU (h:ap) (m:Int) (g:Int) (a:Int) [Q (aj h)]:aF Tryz.prog 230 [A (aq h),I m,I g,I a] (RG [.a (aq (((gl h m g a).map fun q=>q.1).getD h)), .c (.v (.int .i64 (((gl h m g a).map fun q=>q.2).getD 0))), .c (.v (.bool (gl h m g a).isSome))]):=by
 refine aF.w 41 Tryz.func230 fun w g0 _=> ?_
 refine an (cF h).k ?_
 refine ah (aE _ _ _).k ?_
 refine aB ?_ ?_ <;> intro hb
 ·exact (by first|(rw [Cs (by left;omega)];rfl))
 ·have qa0:Q (a ≤ 9223372036854775807):=⟨by omega⟩
  refine xP [7,9,10,11,12,13] [] [] (.quiet 0 0 (.quiet 1 0 (.quiet 2 0 (.quiet 3 0 (.quiet 4 0 (.quiet 5 0 (.fa 6 (.fa 7 (.quiet 8 0 (.fork (.alt 9 (.fork (.alt 10 (.fork (.alt 11 (.fa 12 (.fa 13 (.quiet 14 0 .done))) (.alt 12 (.fork (.alt 11 (.fa 13 (.quiet 14 0 .done)) (.alt 13 (.fa 11 (.quiet 14 0 .done)) .stop))) .stop))) (.alt 11 (.fork (.alt 10 (.fa 12 (.fa 13 (.quiet 14 0 .done))) (.alt 12 (.fa 10 (.fa 13 (.quiet 14 0 .done))) .stop))) (.alt 12 (.fork (.alt 10 (.fork (.alt 11 (.fa 13 (.quiet 14 0 .done)) (.alt 13 (.fa 11 (.quiet 14 0 .done)) .stop))) (.alt 11 (.fa 10 (.fa 13 (.quiet 14 0 .done))) .stop))) .stop)))) (.alt 10 (.fork (.alt 9 (.fork (.alt 11 (.fa 12 (.fa 13 (.quiet 14 0 .done))) (.alt 12 (.fork (.alt 11 (.fa 13 (.quiet 14 0 .done)) (.alt 13 (.fa 11 (.quiet 14 0 .done)) .stop))) .stop))) (.alt 11 (.fa 9 (.fa 12 (.fa 13 (.quiet 14 0 .done)))) .stop))) (.alt 11 (.fork (.alt 9 (.fork (.alt 10 (.fa 12 (.fa 13 (.quiet 14 0 .done))) (.alt 12 (.fa 10 (.fa 13 (.quiet 14 0 .done))) .stop))) (.alt 10 (.fa 9 (.fa 12 (.fa 13 (.quiet 14 0 .done)))) .stop))) .stop))))))))))))) [3,4,8,9,10] [] [4,14] [.set 11 (I (fP h m g (bz a) 1)), .set 12 (B (find h m g (bz a) 1 true).isSome)] [(4,⟨true,[.own (.sl 1 ((fH h m g (bz a) 1).au.map aP)), .own (.sl 9 ((fH h m g (bz a) 1).ai.map bA)), .own (.sl 4 ((fH h m g (bz a) 1).Buffer.map aC)), .own (.sl 4 ((fH h m g (bz a) 1).aD.map aC))]⟩)] ?_
  refine ⟨?_, ?_⟩
  ·repeat' first|exact True.intro|refine And.intro ?_ ?_|refine ah (nD a).k ?_|refine kf [(4,0),(4,1),(4,2),(4,3)] (wN h m g (bz a) 1) ?_|exact rfl
  refine aB ?_ ?_ <;> intro iz
  ·exact (by rw [Cs (.inr ‹_›)];show _=c7 [RD.a (aq h),RD.c (.v (.int .i64 0)),RD.c (.v (.bool false))];rw [SI (by assumption:(find h m g (bz a) 1 true).isSome=false)];rfl)
  ·refine cI [7] [(0,0),(1,0),(2,0),(3,0),(4,0),(5,1),(6,1),(7,1),(8,0),(9,0)] ?_
   refine ah (nE a).k ?_
   refine ah (zU (fH h m g (bz a) 1).au (fP h m g (bz a) 1) (b6 a)).k ?_
   exact (by rw [K7 (by omega) ‹_›];rfl)
end
end Go.Proofs.YtdliggkohdnipaaGreat.T
