import Derived.Test.YtdliggkohdnipaaGreatPsr
set_option linter.unusedVariables false
set_option linter.unusedSimpArgs false
namespace Go.Proofs.YtdliggkohdnipaaGreat.T
open Go
section
variable {io:Bool} {a g m need ag v:Int} {b:List bt} {h:an}
set_option maxRecDepth 100000
set_option maxHeartbeats 8000000
theorem Lm {e:bt}:(gC b e).length ≤ 6:=by
 unfold gC
 simp only [List.length_drop,List.length_append,List.length_cons,List.length_nil]
 omega
theorem Sf (hh:aj h) (hb:b.length ≤ 6):aj (o7 h io b):=by
 have gY:b.length ≤ 1048576:=by omega
 cases io
 exact ⟨hh.1,hh.2.1,gY,hh.2.2.2⟩
 exact ⟨hh.1,hh.2.1,hh.2.2.1,gY⟩
theorem Ed {h:an} {m g ag need:Int} {io:Bool} (hh:aj h):∀ q,find h m g ag need io=some q→aj q.1:=fun q hq=>by
 by_cases hn:cG h m g=true∧(need=1 ∨ need=2)
 cases hw:bn (c9 h m.toNat g.toNat).Live ag need with
 | none=>rw [uw hn,hw] at hq;cases hq
 | some p=>
  have h3:=bO.1 hn.1
  have hy0:(cE h m.toNat).aa[g.toNat]? = some ((cE h m.toNat).aa[g.toNat]'(by omega)):=List.getElem?_eq_getElem (by omega)
  have hok:=dU h3.1 (cC h3.2.1)
  have CN:bL (c9 h m.toNat g.toNat)=true:=by
   rw [jF (cC h3.2.1) hy0]
   simp only [eO,Bool.and_eq_true] at hok
   exact List.all_eq_true.1 hok.1.1.2 _ (List.mem_of_getElem? hy0)
  have hp:=n5 CN hw
  obtain ⟨x,z,k,y,eT,_⟩:=xo (need:=need) hn.1 hh hp
  cases e:nt (hD h m p need) io m g ag need with
  | some s=>
   have Yq:=uw (ag:=ag) (io:=io) hn
   rw [hw] at Yq
   have h5:find h m g ag need io=some (hD h m p need,s.Host):=by
    rw [Yq]
    show some (x_ _ _ _ _ _ _ _)=_
    rw [B2 h3.2.1.1 h3.2.2.1 e]
   rw [h5] at hq
   cases hq
   exact eT.hs.1
  | none=>
   rw [tt hn hw e] at hq
   cases hq
   exact Sf (zy (ag:=ag) (need:=need) eT).1 Lm
 rw [iD hn] at hq;cases hq
theorem Vs (hh:aj h):aj (((find h m g ag need io).map fun q=>q.1).getD h):=by
 cases e:find h m g ag need io with
 | none=>exact hh
 | some q=>exact Ed hh q e
instance (h:an) (m g ag need:Int) (io:Bool) [hh:Q (aj h)]:Q (aj (((find h m g ag need io).map fun q=>q.1).getD h)):=⟨Vs hh.h⟩
abbrev fH (h:an) (m g ag need:Int):an:=((find h m g ag need true).map fun q=>q.1).getD h
abbrev fP (h:an) (m g ag need:Int):Int:=((find h m g ag need true).map fun q=>q.2).getD (-1)
theorem ND (hs:(find h m g ag need true).isSome=true):find h m g ag need true=some (fH h m g ag need,fP h m g ag need):=by
 unfold fH fP
 cases e:find h m g ag need true with
 | none=>rw [e] at hs;cases hs
 | some q=>rfl
theorem B7 (hs:(find h m g ag need true).isSome=false):find h m g ag need true=none:=by
 cases e:find h m g ag need true with
 | none=>rfl
 | some q=>rw [e] at hs;cases hs
theorem Q8 (hs:(find h m g ag need true).isSome=false):fH h m g ag need=h:=by
 unfold fH
 rw [B7 hs]
 rfl
theorem xC (hn:¬ (0 ≤ a∧a ≤ 15) ∨ ¬ (0 ≤ v∧v ≤ 99) ∨ (find h m g (bl a) 2 true).isSome=false):kx h m g a v=none:=by
 unfold kx
 split
 rename_i h1
 simp only [Bool.and_eq_true,decide_eq_true_eq] at h1
 rcases hn with hn|hn|hn
 exact absurd h1.1 hn
 exact absurd h1.2 hn
 rw [B7 hn];rfl
 rfl
theorem NE (h1:0 ≤ a∧a ≤ 15) (h2:0 ≤ v∧v ≤ 99) (hs:(find h m g (bl a) 2 true).isSome=true):kx h m g a v=some { fH h m g (bl a) 2 with au:=ec (fH h m g (bl a) 2).au (fP h m g (bl a) 2) (bT a) v }:=by
 unfold kx
 rw [if_pos (by simp only [Bool.and_eq_true,decide_eq_true_eq];exact ⟨h1,h2⟩),ND hs]
 rfl
theorem A_ (hn:¬ (0 ≤ a∧a ≤ 15) ∨ (find h m g (bl a) 1 true).isSome=false):fV h m g a=none:=by
 unfold fV
 split
 rename_i h1
 simp only [decide_eq_true_eq] at h1
 rcases hn with hn|hn
 exact absurd h1 hn
 rw [B7 hn];rfl
 rfl
theorem Jr (h1:0 ≤ a∧a ≤ 15) (hs:(find h m g (bl a) 1 true).isSome=true):fV h m g a=some (fH h m g (bl a) 1,cellAt (fH h m g (bl a) 1).au (fP h m g (bl a) 1) (bT a)):=by
 unfold fV
 rw [if_pos (by simp only [decide_eq_true_eq];exact h1),ND hs]
 rfl
theorem GB (h:an) (m:Int) (g:Int) (a:Int) (v:Int) [Q (aj h)] [Q (a ≤ 9223372036854775807)]:aF Tryz.prog 171 [A (aq h),I m,I g,I a,I v] (RG [.a (aq ((kx h m g a v).getD h)), .c (.v (.bool (kx h m g a v).isSome))]):=by
 refine aF.w 48 Tryz.func171 fun w g0 _=> ?_
 refine fW [11] [11] [] (.quiet 1 1 (.quiet 2 1 (.quiet 3 1 (.quiet 0 0 (.fork (.alt 4 (.fork (.alt 5 (.quiet 6 1 (.quiet 7 1 (.quiet 8 1 (.quiet 9 1 (.fork (.alt 10 (.fork (.alt 11 (.quiet 12 1 (.quiet 13 1 .done)) .stop)) .stop)))))) (.alt 10 (.fork (.alt 5 (.quiet 6 1 (.quiet 7 1 (.quiet 8 1 (.quiet 9 1 (.fork (.alt 11 (.quiet 12 1 (.quiet 13 1 .done)) .stop)))))) .stop)) .stop))) (.alt 10 (.fork (.alt 4 (.fork (.alt 5 (.quiet 6 1 (.quiet 7 1 (.quiet 8 1 (.quiet 9 1 (.fork (.alt 11 (.quiet 12 1 (.quiet 13 1 .done)) .stop)))))) .stop)) .stop)) .stop))))))) ?_
 repeat' first|exact True.intro|refine And.intro ?_ ?_|(intro _ _)|refine ah (ed a).k ?_|refine ak (uY h m g (bl a) 2).k ?_
 all_goals (
  refine ah (aS _ _ _).k ?_
  refine aB ?_ ?_ <;> intro gm
  ·refine ak (aP h).k ?_
   exact (by first|(rw [xC (by left;omega)];rfl))
  ·refine ah (aS _ _ _).k ?_
   refine aB ?_ ?_ <;> intro Sz
   ·refine ak (aP h).k ?_
    exact (by first|(rw [xC (by right;left;omega)];rfl))
   ·refine aB ?_ ?_ <;> intro hb
    ·refine ak (aP h).k ?_
     exact (by first|(rw [xC (by right;right;assumption)];rfl))
    ·refine fW [8] [8] [] (.quiet 2 1 (.quiet 3 1 (.quiet 5 1 (.quiet 0 0 (.quiet 1 0 (.fork (.alt 4 (.fork (.alt 6 (.quiet 7 0 (.fork (.alt 8 .done .stop))) .stop)) .stop))))))) ?_
     repeat' first|exact True.intro|refine And.intro ?_ ?_|(intro _ _)|refine ah (ee a).k ?_|refine bk (gS (fH h m g (bl a) 2).au (fP h m g (bl a) 2) (bT a) v).k ?_
     exact (by rw [NE (by omega) (by omega) (by assumption)];rfl))
theorem Dt (h:an) (m:Int) (g:Int) (a:Int) [Q (aj h)] [Q (a ≤ 9223372036854775807)]:aF Tryz.prog 172 [A (aq h),I m,I g,I a] (RG [.a (aq (((fV h m g a).map fun q=>q.1).getD h)), .c (.v (.int .i64 (((fV h m g a).map fun q=>q.2).getD 0))), .c (.v (.bool (fV h m g a).isSome))]):=by
 refine aF.w 40 Tryz.func172 fun w g0 _=> ?_
 refine fW [11] [11] [] (.quiet 1 1 (.quiet 2 1 (.quiet 3 1 (.quiet 0 0 (.fork (.alt 4 (.fork (.alt 5 (.quiet 6 1 (.quiet 7 1 (.quiet 8 1 (.quiet 9 1 (.fork (.alt 10 (.fork (.alt 11 (.quiet 12 1 (.quiet 13 1 .done)) .stop)) .stop)))))) (.alt 10 (.fork (.alt 5 (.quiet 6 1 (.quiet 7 1 (.quiet 8 1 (.quiet 9 1 (.fork (.alt 11 (.quiet 12 1 (.quiet 13 1 .done)) .stop)))))) .stop)) .stop))) (.alt 10 (.fork (.alt 4 (.fork (.alt 5 (.quiet 6 1 (.quiet 7 1 (.quiet 8 1 (.quiet 9 1 (.fork (.alt 11 (.quiet 12 1 (.quiet 13 1 .done)) .stop)))))) .stop)) .stop)) .stop))))))) ?_
 repeat' first|exact True.intro|refine And.intro ?_ ?_|(intro _ _)|refine ah (ed a).k ?_|refine ak (uY h m g (bl a) 1).k ?_
 all_goals (
  refine ah (aS _ _ _).k ?_
  refine aB ?_ ?_ <;> intro gm
  ·refine ak (aP h).k ?_
   exact (by first|(rw [A_ (by left;omega)];rfl))
  ·refine aB ?_ ?_ <;> intro hb
   ·refine ak (aP h).k ?_
    exact (by first|(rw [A_ (by right;assumption)];rfl))
   ·refine fW [7] [7] [] (.quiet 3 1 (.quiet 4 1 (.quiet 0 0 (.quiet 1 0 (.quiet 2 0 (.fork (.alt 5 (.fork (.alt 6 (.fork (.alt 7 (.quiet 8 1 (.quiet 9 1 .done)) .stop)) .stop)) .stop))))))) ?_
    repeat' first|exact True.intro|refine And.intro ?_ ?_|(intro _ _)|refine ah (ee a).k ?_|refine ah (lS (fH h m g (bl a) 1).au (fP h m g (bl a) 1) (bT a)).k ?_
    exact (by rw [Jr (by omega) (by assumption)];rfl))
theorem GC (h:an) (m:Int) (g:Int) (a:Int) (v:Int) [Q (aj h)]:aF Tryz.prog 229 [A (aq h),I m,I g,I a,I v] (RG [.a (aq ((kx h m g a v).getD h)), .c (.v (.bool (kx h m g a v).isSome))]):=by
 refine aF.w 49 Tryz.func229 fun w g0 _=> ?_
 refine ak (ct h).k ?_
 refine ah (aE _ _ _).k ?_
 refine aB ?_ ?_ <;> intro gm
 ·exact (by first|(rw [xC (by left;omega)];rfl))
 ·refine ah (aE _ _ _).k ?_
  refine aB ?_ ?_ <;> intro hb
  ·exact (by first|(rw [xC (by right;left;omega)];rfl))
  ·have qa0:Q (a ≤ 9223372036854775807):=⟨by omega⟩
   refine CF [7,9,10,11,12,13] [] [] (.quiet 0 0 (.quiet 1 0 (.quiet 2 0 (.quiet 3 0 (.quiet 4 0 (.quiet 5 0 (.fork (.alt 6 (.fork (.alt 7 (.quiet 8 0 (.fork (.alt 9 (.fork (.alt 10 (.fork (.alt 11 (.fork (.alt 12 (.fork (.alt 13 (.quiet 14 0 .done) .stop)) .stop)) (.alt 12 (.fork (.alt 11 (.fork (.alt 13 (.quiet 14 0 .done) .stop)) (.alt 13 (.fork (.alt 11 (.quiet 14 0 .done) .stop)) .stop))) .stop))) (.alt 11 (.fork (.alt 10 (.fork (.alt 12 (.fork (.alt 13 (.quiet 14 0 .done) .stop)) .stop)) (.alt 12 (.fork (.alt 10 (.fork (.alt 13 (.quiet 14 0 .done) .stop)) .stop)) .stop))) (.alt 12 (.fork (.alt 10 (.fork (.alt 11 (.fork (.alt 13 (.quiet 14 0 .done) .stop)) (.alt 13 (.fork (.alt 11 (.quiet 14 0 .done) .stop)) .stop))) (.alt 11 (.fork (.alt 10 (.fork (.alt 13 (.quiet 14 0 .done) .stop)) .stop)) .stop))) .stop)))) (.alt 10 (.fork (.alt 9 (.fork (.alt 11 (.fork (.alt 12 (.fork (.alt 13 (.quiet 14 0 .done) .stop)) .stop)) (.alt 12 (.fork (.alt 11 (.fork (.alt 13 (.quiet 14 0 .done) .stop)) (.alt 13 (.fork (.alt 11 (.quiet 14 0 .done) .stop)) .stop))) .stop))) (.alt 11 (.fork (.alt 9 (.fork (.alt 12 (.fork (.alt 13 (.quiet 14 0 .done) .stop)) .stop)) .stop)) .stop))) (.alt 11 (.fork (.alt 9 (.fork (.alt 10 (.fork (.alt 12 (.fork (.alt 13 (.quiet 14 0 .done) .stop)) .stop)) (.alt 12 (.fork (.alt 10 (.fork (.alt 13 (.quiet 14 0 .done) .stop)) .stop)) .stop))) (.alt 10 (.fork (.alt 9 (.fork (.alt 12 (.fork (.alt 13 (.quiet 14 0 .done) .stop)) .stop)) .stop)) .stop))) .stop))))) .stop)) .stop)))))))) [3,4,5,10,11] [] [5,15] [.set 12 (I (fP h m g (bl a) 2)), .set 13 (B (find h m g (bl a) 2 true).isSome)] [(5,⟨true,[.own (.sl 1 ((fH h m g (bl a) 2).au.map aN)), .own (.sl 9 ((fH h m g (bl a) 2).ap.map bh)), .own (.sl 4 ((fH h m g (bl a) 2).Buffer.map aA)), .own (.sl 4 ((fH h m g (bl a) 2).aC.map aA))]⟩)] ?_
   refine ⟨?_, ?_⟩
   ·repeat' first|exact True.intro|refine And.intro ?_ ?_|refine ah (me a).k ?_|refine jr [(5,0),(5,1),(5,2),(5,3)] (uX h m g (bl a) 2) ?_|exact rfl
   refine aB ?_ ?_ <;> intro gY
   ·exact (by rw [xC (.inr (.inr (by assumption)))];show _=cR [RD.a (aq h),RD.c (.v (.bool false))];rw [Q8 (by assumption:(find h m g (bl a) 2 true).isSome=false)];rfl)
   ·refine cJ [8] [(0,0),(1,0),(2,0),(3,0),(5,0),(4,1),(6,1),(7,0),(8,1)] ?_
    refine ah (mg a).k ?_
    refine bk (o9 (fH h m g (bl a) 2).au (fP h m g (bl a) 2) (bT a) v).k ?_
    exact (by rw [NE (by omega) (by omega) (by assumption)];rfl)
theorem Du (h:an) (m:Int) (g:Int) (a:Int) [Q (aj h)]:aF Tryz.prog 230 [A (aq h),I m,I g,I a] (RG [.a (aq (((fV h m g a).map fun q=>q.1).getD h)), .c (.v (.int .i64 (((fV h m g a).map fun q=>q.2).getD 0))), .c (.v (.bool (fV h m g a).isSome))]):=by
 refine aF.w 41 Tryz.func230 fun w g0 _=> ?_
 refine ak (ct h).k ?_
 refine ah (aE _ _ _).k ?_
 refine aB ?_ ?_ <;> intro hb
 ·exact (by first|(rw [A_ (by left;omega)];rfl))
 ·have qa0:Q (a ≤ 9223372036854775807):=⟨by omega⟩
  refine CF [7,9,10,11,12,13] [] [] (.quiet 0 0 (.quiet 1 0 (.quiet 2 0 (.quiet 3 0 (.quiet 4 0 (.quiet 5 0 (.fork (.alt 6 (.fork (.alt 7 (.quiet 8 0 (.fork (.alt 9 (.fork (.alt 10 (.fork (.alt 11 (.fork (.alt 12 (.fork (.alt 13 (.quiet 14 0 .done) .stop)) .stop)) (.alt 12 (.fork (.alt 11 (.fork (.alt 13 (.quiet 14 0 .done) .stop)) (.alt 13 (.fork (.alt 11 (.quiet 14 0 .done) .stop)) .stop))) .stop))) (.alt 11 (.fork (.alt 10 (.fork (.alt 12 (.fork (.alt 13 (.quiet 14 0 .done) .stop)) .stop)) (.alt 12 (.fork (.alt 10 (.fork (.alt 13 (.quiet 14 0 .done) .stop)) .stop)) .stop))) (.alt 12 (.fork (.alt 10 (.fork (.alt 11 (.fork (.alt 13 (.quiet 14 0 .done) .stop)) (.alt 13 (.fork (.alt 11 (.quiet 14 0 .done) .stop)) .stop))) (.alt 11 (.fork (.alt 10 (.fork (.alt 13 (.quiet 14 0 .done) .stop)) .stop)) .stop))) .stop)))) (.alt 10 (.fork (.alt 9 (.fork (.alt 11 (.fork (.alt 12 (.fork (.alt 13 (.quiet 14 0 .done) .stop)) .stop)) (.alt 12 (.fork (.alt 11 (.fork (.alt 13 (.quiet 14 0 .done) .stop)) (.alt 13 (.fork (.alt 11 (.quiet 14 0 .done) .stop)) .stop))) .stop))) (.alt 11 (.fork (.alt 9 (.fork (.alt 12 (.fork (.alt 13 (.quiet 14 0 .done) .stop)) .stop)) .stop)) .stop))) (.alt 11 (.fork (.alt 9 (.fork (.alt 10 (.fork (.alt 12 (.fork (.alt 13 (.quiet 14 0 .done) .stop)) .stop)) (.alt 12 (.fork (.alt 10 (.fork (.alt 13 (.quiet 14 0 .done) .stop)) .stop)) .stop))) (.alt 10 (.fork (.alt 9 (.fork (.alt 12 (.fork (.alt 13 (.quiet 14 0 .done) .stop)) .stop)) .stop)) .stop))) .stop))))) .stop)) .stop)))))))) [3,4,8,9,10] [] [4,14] [.set 11 (I (fP h m g (bl a) 1)), .set 12 (B (find h m g (bl a) 1 true).isSome)] [(4,⟨true,[.own (.sl 1 ((fH h m g (bl a) 1).au.map aN)), .own (.sl 9 ((fH h m g (bl a) 1).ap.map bh)), .own (.sl 4 ((fH h m g (bl a) 1).Buffer.map aA)), .own (.sl 4 ((fH h m g (bl a) 1).aC.map aA))]⟩)] ?_
  refine ⟨?_, ?_⟩
  ·repeat' first|exact True.intro|refine And.intro ?_ ?_|refine ah (me a).k ?_|refine jr [(4,0),(4,1),(4,2),(4,3)] (uX h m g (bl a) 1) ?_|exact rfl
  refine aB ?_ ?_ <;> intro gY
  ·exact (by rw [A_ (.inr (by assumption))];show _=cR [RD.a (aq h),RD.c (.v (.int .i64 0)),RD.c (.v (.bool false))];rw [Q8 (by assumption:(find h m g (bl a) 1 true).isSome=false)];rfl)
  ·refine cJ [7] [(0,0),(1,0),(2,0),(3,0),(4,0),(5,1),(6,1),(7,1),(8,0),(9,0)] ?_
   refine ah (mg a).k ?_
   refine ah (yd (fH h m g (bl a) 1).au (fP h m g (bl a) 1) (bT a)).k ?_
   exact (by rw [Jr (by omega) (by assumption)];rfl)
end
end Go.Proofs.YtdliggkohdnipaaGreat.T
