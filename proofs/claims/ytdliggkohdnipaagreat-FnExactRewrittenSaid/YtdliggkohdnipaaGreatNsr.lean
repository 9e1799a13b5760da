import Derived.Test.YtdliggkohdnipaaGreatNjr
import Derived.Test.YtdliggkohdnipaaGreatProg
import Derived.Shelf.Lays
import Derived.Shelf.Bits.Mul64
set_option linter.unusedVariables false
set_option linter.unusedSimpArgs false
namespace Go.Proofs.YtdliggkohdnipaaGreat.T
open Go
set_option maxRecDepth 100000
set_option maxHeartbeats 8000000
theorem ym (x:aO) [Q (bf x)]:aF Tryz.prog 205 [A (va x)] (RG [.a (va x)]):=by
 refine aF.w 48 Tryz.func205 fun w g0 hM=> ?_
 have eK:=hM.1.2.2.2.2.2.2.2.1.map
 refine cB ?_
 refine bk (kI _).k ?_
 refine cB ?_
 refine bk (k6 _).k ?_
 refine cB ?_
 refine cI [1,2,3] [3] [3] (fun (i:Nat)=>[.set 4 (I i)]) (fun (i:Nat)=>[(3,⟨false,[.own (.sl 2 ((x.Tables.take i).map bS))]⟩)]) (fun (i:Nat)=>i ≤ x.Tables.length) (fun (i:Nat)=>x.Tables.length - i) (0) (Nat.zero_le _) ?_
 refine ⟨hda,fun i hyp N1 bw=> ?_⟩
 have hyp:i ≤ x.Tables.length:=hyp
 refine len ?_
 refine aB ?_ ?_ <;> intro hb
 ·refine rz (fun y40 hy40 qy40 ly40=> ?_)
  skip
  refine ak (kL _).k ?_
  refine xX ?_
  refine cD ?_
  refine bw _ _ _ ?_
  refine iF (i + 1) (by omega)
 ·refine bw _ _ _ ?_
  exact (by rw [List.take_of_length_le (by omega)];rfl)
theorem vO (x:aO) [Q (bf x)]:aF Tryz.prog 183 [A (va x)] (RG [.a (va x)]):=by
 refine aF.w 44 Tryz.func183 fun w g0 hM=> ?_
 have eK:=hM.1.2.2.2.2.2.2.2.1.map
 refine bk (jz _).k ?_
 refine bk (kJ _).k ?_
 refine cB ?_
 refine bk (gK _).k ?_
 refine bk (iN _).k ?_
 refine len ?_
 refine cI [1,2,3,29,30] [3] [3] (fun (i:Nat)=>[.set 31 (I i)]) (fun (i:Nat)=>[(3,⟨false,[.own (.sl 2 ((x.Tables.take i).map bS))]⟩)]) (fun (i:Nat)=>i ≤ x.Tables.length) (fun (i:Nat)=>x.Tables.length - i) (0) (Nat.zero_le _) ?_
 refine ⟨hda,fun i hyp N1 bw=> ?_⟩
 have hyp:i ≤ x.Tables.length:=hyp
 refine aB ?_ ?_ <;> intro hb
 ·refine rz (fun y33 hy33 qy33 ly33=> ?_)
  skip
  refine ak (j9 _).k ?_
  refine xX ?_
  refine cD ?_
  refine bw _ _ _ ?_
  refine iF (i + 1) (by omega)
 ·refine bw _ _ _ ?_
  exact (by rw [List.take_of_length_le (by omega)];rfl)
theorem ct (h:an) [Q (aj h)]:aF Tryz.prog 213 [A (aq h)] (RG [.a (aq h)]):=by
 refine aF.w 36 Tryz.func213 fun w g0 hM=> ?_
 have eK:=hM.1.2.1.map
 refine CF [6,10,13] [6,10] [1] (.quiet 0 0 (.quiet 1 0 (.quiet 4 0 (.quiet 5 0 (.quiet 8 1 (.quiet 9 1 (.fork (.alt 2 (.fork (.alt 3 (.fork (.alt 6 (.fork (.alt 7 (.fork (.alt 10 (.fork (.alt 11 (.fork (.alt 12 (.fork (.alt 13 .done .stop)) .stop)) (.alt 12 (.fork (.alt 11 (.fork (.alt 13 .done .stop)) .stop)) .stop))) (.alt 12 (.fork (.alt 10 (.fork (.alt 11 (.fork (.alt 13 .done .stop)) .stop)) .stop)) .stop))) (.alt 12 (.fork (.alt 7 (.fork (.alt 10 (.fork (.alt 11 (.fork (.alt 13 .done .stop)) .stop)) .stop)) .stop)) .stop))) (.alt 7 (.fork (.alt 6 (.fork (.alt 10 (.fork (.alt 11 (.fork (.alt 12 (.fork (.alt 13 .done .stop)) .stop)) (.alt 12 (.fork (.alt 11 (.fork (.alt 13 .done .stop)) .stop)) .stop))) (.alt 12 (.fork (.alt 10 (.fork (.alt 11 (.fork (.alt 13 .done .stop)) .stop)) .stop)) .stop))) (.alt 12 (.fork (.alt 6 (.fork (.alt 10 (.fork (.alt 11 (.fork (.alt 13 .done .stop)) .stop)) .stop)) .stop)) .stop))) (.alt 12 (.fork (.alt 6 (.fork (.alt 7 (.fork (.alt 10 (.fork (.alt 11 (.fork (.alt 13 .done .stop)) .stop)) .stop)) .stop)) (.alt 7 (.fork (.alt 6 (.fork (.alt 10 (.fork (.alt 11 (.fork (.alt 13 .done .stop)) .stop)) .stop)) .stop)) .stop))) .stop)))) (.alt 7 (.fork (.alt 3 (.fork (.alt 6 (.fork (.alt 10 (.fork (.alt 11 (.fork (.alt 12 (.fork (.alt 13 .done .stop)) .stop)) (.alt 12 (.fork (.alt 11 (.fork (.alt 13 .done .stop)) .stop)) .stop))) (.alt 12 (.fork (.alt 10 (.fork (.alt 11 (.fork (.alt 13 .done .stop)) .stop)) .stop)) .stop))) (.alt 12 (.fork (.alt 6 (.fork (.alt 10 (.fork (.alt 11 (.fork (.alt 13 .done .stop)) .stop)) .stop)) .stop)) .stop))) (.alt 12 (.fork (.alt 3 (.fork (.alt 6 (.fork (.alt 10 (.fork (.alt 11 (.fork (.alt 13 .done .stop)) .stop)) .stop)) .stop)) .stop)) .stop))) (.alt 12 (.fork (.alt 3 (.fork (.alt 6 (.fork (.alt 7 (.fork (.alt 10 (.fork (.alt 11 (.fork (.alt 13 .done .stop)) .stop)) .stop)) .stop)) (.alt 7 (.fork (.alt 6 (.fork (.alt 10 (.fork (.alt 11 (.fork (.alt 13 .done .stop)) .stop)) .stop)) .stop)) .stop))) (.alt 7 (.fork (.alt 3 (.fork (.alt 6 (.fork (.alt 10 (.fork (.alt 11 (.fork (.alt 13 .done .stop)) .stop)) .stop)) .stop)) .stop)) .stop))) .stop)))) (.alt 3 (.fork (.alt 2 (.fork (.alt 6 (.fork (.alt 7 (.fork (.alt 10 (.fork (.alt 11 (.fork (.alt 12 (.fork (.alt 13 .done .stop)) .stop)) (.alt 12 (.fork (.alt 11 (.fork (.alt 13 .done .stop)) .stop)) .stop))) (.alt 12 (.fork (.alt 10 (.fork (.alt 11 (.fork (.alt 13 .done .stop)) .stop)) .stop)) .stop))) (.alt 12 (.fork (.alt 7 (.fork (.alt 10 (.fork (.alt 11 (.fork (.alt 13 .done .stop)) .stop)) .stop)) .stop)) .stop))) (.alt 7 (.fork (.alt 6 (.fork (.alt 10 (.fork (.alt 11 (.fork (.alt 12 (.fork (.alt 13 .done .stop)) .stop)) (.alt 12 (.fork (.alt 11 (.fork (.alt 13 .done .stop)) .stop)) .stop))) (.alt 12 (.fork (.alt 10 (.fork (.alt 11 (.fork (.alt 13 .done .stop)) .stop)) .stop)) .stop))) (.alt 12 (.fork (.alt 6 (.fork (.alt 10 (.fork (.alt 11 (.fork (.alt 13 .done .stop)) .stop)) .stop)) .stop)) .stop))) (.alt 12 (.fork (.alt 6 (.fork (.alt 7 (.fork (.alt 10 (.fork (.alt 11 (.fork (.alt 13 .done .stop)) .stop)) .stop)) .stop)) (.alt 7 (.fork (.alt 6 (.fork (.alt 10 (.fork (.alt 11 (.fork (.alt 13 .done .stop)) .stop)) .stop)) .stop)) .stop))) .stop)))) (.alt 7 (.fork (.alt 2 (.fork (.alt 6 (.fork (.alt 10 (.fork (.alt 11 (.fork (.alt 12 (.fork (.alt 13 .done .stop)) .stop)) (.alt 12 (.fork (.alt 11 (.fork (.alt 13 .done .stop)) .stop)) .stop))) (.alt 12 (.fork (.alt 10 (.fork (.alt 11 (.fork (.alt 13 .done .stop)) .stop)) .stop)) .stop))) (.alt 12 (.fork (.alt 6 (.fork (.alt 10 (.fork (.alt 11 (.fork (.alt 13 .done .stop)) .stop)) .stop)) .stop)) .stop))) (.alt 12 (.fork (.alt 2 (.fork (.alt 6 (.fork (.alt 10 (.fork (.alt 11 (.fork (.alt 13 .done .stop)) .stop)) .stop)) .stop)) .stop)) .stop))) (.alt 12 (.fork (.alt 2 (.fork (.alt 6 (.fork (.alt 7 (.fork (.alt 10 (.fork (.alt 11 (.fork (.alt 13 .done .stop)) .stop)) .stop)) .stop)) (.alt 7 (.fork (.alt 6 (.fork (.alt 10 (.fork (.alt 11 (.fork (.alt 13 .done .stop)) .stop)) .stop)) .stop)) .stop))) (.alt 7 (.fork (.alt 2 (.fork (.alt 6 (.fork (.alt 10 (.fork (.alt 11 (.fork (.alt 13 .done .stop)) .stop)) .stop)) .stop)) .stop)) .stop))) .stop)))) (.alt 7 (.fork (.alt 2 (.fork (.alt 3 (.fork (.alt 6 (.fork (.alt 10 (.fork (.alt 11 (.fork (.alt 12 (.fork (.alt 13 .done .stop)) .stop)) (.alt 12 (.fork (.alt 11 (.fork (.alt 13 .done .stop)) .stop)) .stop))) (.alt 12 (.fork (.alt 10 (.fork (.alt 11 (.fork (.alt 13 .done .stop)) .stop)) .stop)) .stop))) (.alt 12 (.fork (.alt 6 (.fork (.alt 10 (.fork (.alt 11 (.fork (.alt 13 .done .stop)) .stop)) .stop)) .stop)) .stop))) (.alt 12 (.fork (.alt 3 (.fork (.alt 6 (.fork (.alt 10 (.fork (.alt 11 (.fork (.alt 13 .done .stop)) .stop)) .stop)) .stop)) .stop)) .stop))) (.alt 3 (.fork (.alt 2 (.fork (.alt 6 (.fork (.alt 10 (.fork (.alt 11 (.fork (.alt 12 (.fork (.alt 13 .done .stop)) .stop)) (.alt 12 (.fork (.alt 11 (.fork (.alt 13 .done .stop)) .stop)) .stop))) (.alt 12 (.fork (.alt 10 (.fork (.alt 11 (.fork (.alt 13 .done .stop)) .stop)) .stop)) .stop))) (.alt 12 (.fork (.alt 6 (.fork (.alt 10 (.fork (.alt 11 (.fork (.alt 13 .done .stop)) .stop)) .stop)) .stop)) .stop))) (.alt 12 (.fork (.alt 2 (.fork (.alt 6 (.fork (.alt 10 (.fork (.alt 11 (.fork (.alt 13 .done .stop)) .stop)) .stop)) .stop)) .stop)) .stop))) (.alt 12 (.fork (.alt 2 (.fork (.alt 3 (.fork (.alt 6 (.fork (.alt 10 (.fork (.alt 11 (.fork (.alt 13 .done .stop)) .stop)) .stop)) .stop)) .stop)) (.alt 3 (.fork (.alt 2 (.fork (.alt 6 (.fork (.alt 10 (.fork (.alt 11 (.fork (.alt 13 .done .stop)) .stop)) .stop)) .stop)) .stop)) .stop))) .stop)))) (.alt 12 (.fork (.alt 2 (.fork (.alt 3 (.fork (.alt 6 (.fork (.alt 7 (.fork (.alt 10 (.fork (.alt 11 (.fork (.alt 13 .done .stop)) .stop)) .stop)) .stop)) (.alt 7 (.fork (.alt 6 (.fork (.alt 10 (.fork (.alt 11 (.fork (.alt 13 .done .stop)) .stop)) .stop)) .stop)) .stop))) (.alt 7 (.fork (.alt 3 (.fork (.alt 6 (.fork (.alt 10 (.fork (.alt 11 (.fork (.alt 13 .done .stop)) .stop)) .stop)) .stop)) .stop)) .stop))) (.alt 3 (.fork (.alt 2 (.fork (.alt 6 (.fork (.alt 7 (.fork (.alt 10 (.fork (.alt 11 (.fork (.alt 13 .done .stop)) .stop)) .stop)) .stop)) (.alt 7 (.fork (.alt 6 (.fork (.alt 10 (.fork (.alt 11 (.fork (.alt 13 .done .stop)) .stop)) .stop)) .stop)) .stop))) (.alt 7 (.fork (.alt 2 (.fork (.alt 6 (.fork (.alt 10 (.fork (.alt 11 (.fork (.alt 13 .done .stop)) .stop)) .stop)) .stop)) .stop)) .stop))) (.alt 7 (.fork (.alt 2 (.fork (.alt 3 (.fork (.alt 6 (.fork (.alt 10 (.fork (.alt 11 (.fork (.alt 13 .done .stop)) .stop)) .stop)) .stop)) .stop)) (.alt 3 (.fork (.alt 2 (.fork (.alt 6 (.fork (.alt 10 (.fork (.alt 11 (.fork (.alt 13 .done .stop)) .stop)) .stop)) .stop)) .stop)) .stop))) .stop)))) .stop))))))))))) [1,2] [] [3] [.set 3 (.one (.ptr ⟨3,[],0⟩))] [(3,⟨true,[.own (.sl 1 (h.au.map aN)), .own (.sl 9 ([])), .own (.sl 4 (h.Buffer.map aA)), .own (.sl 4 (h.aC.map aA))]⟩)] ?_
 refine ⟨?_, ?_⟩
 ·repeat' first|exact True.intro|refine And.intro ?_ ?_|(intro _ _)|refine bk (kI _).k ?_|refine cB ?_|exact rfl
 refine cI [1,2,3] [] [3] (fun (i:Nat)=>[.set 4 (I i)]) (fun (i:Nat)=>[(3,⟨true,[.own (.sl 1 (h.au.map aN)), .own (.sl 9 ((h.ap.take i).map bh)), .own (.sl 4 (h.Buffer.map aA)), .own (.sl 4 (h.aC.map aA))]⟩)]) (fun (i:Nat)=>i ≤ h.ap.length) (fun (i:Nat)=>h.ap.length - i) (0) (Nat.zero_le _) ?_
 refine ⟨hda,fun i hyp N1 bw=> ?_⟩
 have hyp:i ≤ h.ap.length:=hyp
 refine len ?_
 refine aB ?_ ?_ <;> intro hb
 ·refine cJ [9,11] [(0,0),(1,0),(2,0),(3,0),(4,0),(5,0),(6,0),(7,1),(8,1),(9,1),(10,0),(11,1)] ?_
  refine rz (fun y29 hy29 qy29 ly29=> ?_)
  skip
  refine ak (ym _).k ?_
  refine xX ?_
  refine cD ?_
  refine bw _ _ _ ?_
  refine iF (i + 1) (by omega)
 ·refine bw _ _ _ ?_
  exact (by rw [List.take_of_length_le (by omega)];rfl)
theorem aP (h:an) [Q (aj h)]:aF Tryz.prog 92 [A (aq h)] (RG [.a (aq h)]):=by
 refine aF.w 34 Tryz.func92 fun w g0 hM=> ?_
 have eK:=hM.1.2.1.map
 refine CF [6,10,13] [6,10] [1] (.quiet 0 0 (.quiet 1 0 (.quiet 4 0 (.quiet 5 0 (.quiet 8 1 (.quiet 9 1 (.fork (.alt 2 (.fork (.alt 3 (.fork (.alt 6 (.fork (.alt 7 (.fork (.alt 10 (.fork (.alt 11 (.fork (.alt 12 (.fork (.alt 13 .done .stop)) .stop)) (.alt 12 (.fork (.alt 11 (.fork (.alt 13 .done .stop)) .stop)) .stop))) (.alt 12 (.fork (.alt 10 (.fork (.alt 11 (.fork (.alt 13 .done .stop)) .stop)) .stop)) .stop))) (.alt 12 (.fork (.alt 7 (.fork (.alt 10 (.fork (.alt 11 (.fork (.alt 13 .done .stop)) .stop)) .stop)) .stop)) .stop))) (.alt 7 (.fork (.alt 6 (.fork (.alt 10 (.fork (.alt 11 (.fork (.alt 12 (.fork (.alt 13 .done .stop)) .stop)) (.alt 12 (.fork (.alt 11 (.fork (.alt 13 .done .stop)) .stop)) .stop))) (.alt 12 (.fork (.alt 10 (.fork (.alt 11 (.fork (.alt 13 .done .stop)) .stop)) .stop)) .stop))) (.alt 12 (.fork (.alt 6 (.fork (.alt 10 (.fork (.alt 11 (.fork (.alt 13 .done .stop)) .stop)) .stop)) .stop)) .stop))) (.alt 12 (.fork (.alt 6 (.fork (.alt 7 (.fork (.alt 10 (.fork (.alt 11 (.fork (.alt 13 .done .stop)) .stop)) .stop)) .stop)) (.alt 7 (.fork (.alt 6 (.fork (.alt 10 (.fork (.alt 11 (.fork (.alt 13 .done .stop)) .stop)) .stop)) .stop)) .stop))) .stop)))) (.alt 7 (.fork (.alt 3 (.fork (.alt 6 (.fork (.alt 10 (.fork (.alt 11 (.fork (.alt 12 (.fork (.alt 13 .done .stop)) .stop)) (.alt 12 (.fork (.alt 11 (.fork (.alt 13 .done .stop)) .stop)) .stop))) (.alt 12 (.fork (.alt 10 (.fork (.alt 11 (.fork (.alt 13 .done .stop)) .stop)) .stop)) .stop))) (.alt 12 (.fork (.alt 6 (.fork (.alt 10 (.fork (.alt 11 (.fork (.alt 13 .done .stop)) .stop)) .stop)) .stop)) .stop))) (.alt 12 (.fork (.alt 3 (.fork (.alt 6 (.fork (.alt 10 (.fork (.alt 11 (.fork (.alt 13 .done .stop)) .stop)) .stop)) .stop)) .stop)) .stop))) (.alt 12 (.fork (.alt 3 (.fork (.alt 6 (.fork (.alt 7 (.fork (.alt 10 (.fork (.alt 11 (.fork (.alt 13 .done .stop)) .stop)) .stop)) .stop)) (.alt 7 (.fork (.alt 6 (.fork (.alt 10 (.fork (.alt 11 (.fork (.alt 13 .done .stop)) .stop)) .stop)) .stop)) .stop))) (.alt 7 (.fork (.alt 3 (.fork (.alt 6 (.fork (.alt 10 (.fork (.alt 11 (.fork (.alt 13 .done .stop)) .stop)) .stop)) .stop)) .stop)) .stop))) .stop)))) (.alt 3 (.fork (.alt 2 (.fork (.alt 6 (.fork (.alt 7 (.fork (.alt 10 (.fork (.alt 11 (.fork (.alt 12 (.fork (.alt 13 .done .stop)) .stop)) (.alt 12 (.fork (.alt 11 (.fork (.alt 13 .done .stop)) .stop)) .stop))) (.alt 12 (.fork (.alt 10 (.fork (.alt 11 (.fork (.alt 13 .done .stop)) .stop)) .stop)) .stop))) (.alt 12 (.fork (.alt 7 (.fork (.alt 10 (.fork (.alt 11 (.fork (.alt 13 .done .stop)) .stop)) .stop)) .stop)) .stop))) (.alt 7 (.fork (.alt 6 (.fork (.alt 10 (.fork (.alt 11 (.fork (.alt 12 (.fork (.alt 13 .done .stop)) .stop)) (.alt 12 (.fork (.alt 11 (.fork (.alt 13 .done .stop)) .stop)) .stop))) (.alt 12 (.fork (.alt 10 (.fork (.alt 11 (.fork (.alt 13 .done .stop)) .stop)) .stop)) .stop))) (.alt 12 (.fork (.alt 6 (.fork (.alt 10 (.fork (.alt 11 (.fork (.alt 13 .done .stop)) .stop)) .stop)) .stop)) .stop))) (.alt 12 (.fork (.alt 6 (.fork (.alt 7 (.fork (.alt 10 (.fork (.alt 11 (.fork (.alt 13 .done .stop)) .stop)) .stop)) .stop)) (.alt 7 (.fork (.alt 6 (.fork (.alt 10 (.fork (.alt 11 (.fork (.alt 13 .done .stop)) .stop)) .stop)) .stop)) .stop))) .stop)))) (.alt 7 (.fork (.alt 2 (.fork (.alt 6 (.fork (.alt 10 (.fork (.alt 11 (.fork (.alt 12 (.fork (.alt 13 .done .stop)) .stop)) (.alt 12 (.fork (.alt 11 (.fork (.alt 13 .done .stop)) .stop)) .stop))) (.alt 12 (.fork (.alt 10 (.fork (.alt 11 (.fork (.alt 13 .done .stop)) .stop)) .stop)) .stop))) (.alt 12 (.fork (.alt 6 (.fork (.alt 10 (.fork (.alt 11 (.fork (.alt 13 .done .stop)) .stop)) .stop)) .stop)) .stop))) (.alt 12 (.fork (.alt 2 (.fork (.alt 6 (.fork (.alt 10 (.fork (.alt 11 (.fork (.alt 13 .done .stop)) .stop)) .stop)) .stop)) .stop)) .stop))) (.alt 12 (.fork (.alt 2 (.fork (.alt 6 (.fork (.alt 7 (.fork (.alt 10 (.fork (.alt 11 (.fork (.alt 13 .done .stop)) .stop)) .stop)) .stop)) (.alt 7 (.fork (.alt 6 (.fork (.alt 10 (.fork (.alt 11 (.fork (.alt 13 .done .stop)) .stop)) .stop)) .stop)) .stop))) (.alt 7 (.fork (.alt 2 (.fork (.alt 6 (.fork (.alt 10 (.fork (.alt 11 (.fork (.alt 13 .done .stop)) .stop)) .stop)) .stop)) .stop)) .stop))) .stop)))) (.alt 7 (.fork (.alt 2 (.fork (.alt 3 (.fork (.alt 6 (.fork (.alt 10 (.fork (.alt 11 (.fork (.alt 12 (.fork (.alt 13 .done .stop)) .stop)) (.alt 12 (.fork (.alt 11 (.fork (.alt 13 .done .stop)) .stop)) .stop))) (.alt 12 (.fork (.alt 10 (.fork (.alt 11 (.fork (.alt 13 .done .stop)) .stop)) .stop)) .stop))) (.alt 12 (.fork (.alt 6 (.fork (.alt 10 (.fork (.alt 11 (.fork (.alt 13 .done .stop)) .stop)) .stop)) .stop)) .stop))) (.alt 12 (.fork (.alt 3 (.fork (.alt 6 (.fork (.alt 10 (.fork (.alt 11 (.fork (.alt 13 .done .stop)) .stop)) .stop)) .stop)) .stop)) .stop))) (.alt 3 (.fork (.alt 2 (.fork (.alt 6 (.fork (.alt 10 (.fork (.alt 11 (.fork (.alt 12 (.fork (.alt 13 .done .stop)) .stop)) (.alt 12 (.fork (.alt 11 (.fork (.alt 13 .done .stop)) .stop)) .stop))) (.alt 12 (.fork (.alt 10 (.fork (.alt 11 (.fork (.alt 13 .done .stop)) .stop)) .stop)) .stop))) (.alt 12 (.fork (.alt 6 (.fork (.alt 10 (.fork (.alt 11 (.fork (.alt 13 .done .stop)) .stop)) .stop)) .stop)) .stop))) (.alt 12 (.fork (.alt 2 (.fork (.alt 6 (.fork (.alt 10 (.fork (.alt 11 (.fork (.alt 13 .done .stop)) .stop)) .stop)) .stop)) .stop)) .stop))) (.alt 12 (.fork (.alt 2 (.fork (.alt 3 (.fork (.alt 6 (.fork (.alt 10 (.fork (.alt 11 (.fork (.alt 13 .done .stop)) .stop)) .stop)) .stop)) .stop)) (.alt 3 (.fork (.alt 2 (.fork (.alt 6 (.fork (.alt 10 (.fork (.alt 11 (.fork (.alt 13 .done .stop)) .stop)) .stop)) .stop)) .stop)) .stop))) .stop)))) (.alt 12 (.fork (.alt 2 (.fork (.alt 3 (.fork (.alt 6 (.fork (.alt 7 (.fork (.alt 10 (.fork (.alt 11 (.fork (.alt 13 .done .stop)) .stop)) .stop)) .stop)) (.alt 7 (.fork (.alt 6 (.fork (.alt 10 (.fork (.alt 11 (.fork (.alt 13 .done .stop)) .stop)) .stop)) .stop)) .stop))) (.alt 7 (.fork (.alt 3 (.fork (.alt 6 (.fork (.alt 10 (.fork (.alt 11 (.fork (.alt 13 .done .stop)) .stop)) .stop)) .stop)) .stop)) .stop))) (.alt 3 (.fork (.alt 2 (.fork (.alt 6 (.fork (.alt 7 (.fork (.alt 10 (.fork (.alt 11 (.fork (.alt 13 .done .stop)) .stop)) .stop)) .stop)) (.alt 7 (.fork (.alt 6 (.fork (.alt 10 (.fork (.alt 11 (.fork (.alt 13 .done .stop)) .stop)) .stop)) .stop)) .stop))) (.alt 7 (.fork (.alt 2 (.fork (.alt 6 (.fork (.alt 10 (.fork (.alt 11 (.fork (.alt 13 .done .stop)) .stop)) .stop)) .stop)) .stop)) .stop))) (.alt 7 (.fork (.alt 2 (.fork (.alt 3 (.fork (.alt 6 (.fork (.alt 10 (.fork (.alt 11 (.fork (.alt 13 .done .stop)) .stop)) .stop)) .stop)) .stop)) (.alt 3 (.fork (.alt 2 (.fork (.alt 6 (.fork (.alt 10 (.fork (.alt 11 (.fork (.alt 13 .done .stop)) .stop)) .stop)) .stop)) .stop)) .stop))) .stop)))) .stop))))))))))) [1,2] [] [3] [.set 3 (.one (.ptr ⟨3,[],0⟩))] [(3,⟨true,[.own (.sl 1 (h.au.map aN)), .own (.sl 9 ([])), .own (.sl 4 (h.Buffer.map aA)), .own (.sl 4 (h.aC.map aA))]⟩)] ?_
 refine ⟨?_, ?_⟩
 ·repeat' first|exact True.intro|refine And.intro ?_ ?_|(intro _ _)|refine bk (kJ _).k ?_|refine cB ?_|exact rfl
 refine len ?_
 refine cI [2,3,19,20] [] [3] (fun (i:Nat)=>[.set 21 (I i)]) (fun (i:Nat)=>[(3,⟨true,[.own (.sl 1 (h.au.map aN)), .own (.sl 9 ((h.ap.take i).map bh)), .own (.sl 4 (h.Buffer.map aA)), .own (.sl 4 (h.aC.map aA))]⟩)]) (fun (i:Nat)=>i ≤ h.ap.length) (fun (i:Nat)=>h.ap.length - i) (0) (Nat.zero_le _) ?_
 refine ⟨hda,fun i hyp N1 bw=> ?_⟩
 have hyp:i ≤ h.ap.length:=hyp
 refine aB ?_ ?_ <;> intro hb
 ·refine rz (fun y23 hy23 qy23 ly23=> ?_)
  skip
  refine cJ [5,7] [(0,0),(1,0),(2,0),(3,1),(4,1),(5,1),(6,0),(7,1)] ?_
  refine ak (vO _).k ?_
  refine xX ?_
  refine cD ?_
  refine bw _ _ _ ?_
  refine iF (i + 1) (by omega)
 ·refine bw _ _ _ ?_
  exact (by rw [List.take_of_length_le (by omega)];rfl)
instance wlMon (xs:List aO):WL (xs.map bh):=⟨fun d hd=>by obtain ⟨x,_,rfl⟩:=List.mem_map.1 hd;exact inferInstanceAs (WR (bh x))⟩
end Go.Proofs.YtdliggkohdnipaaGreat.T
namespace Go.Proofs.YtdliggkohdnipaaGreat
open Go.Shelf
set_option maxRecDepth 100000
end Go.Proofs.YtdliggkohdnipaaGreat
namespace Go.Proofs.YtdliggkohdnipaaGreat.T
open Go
set_option maxRecDepth 100000
set_option maxHeartbeats 8000000
theorem sw (b:aV):aF Tryz.prog 369 [A (bC b)] (RV (.bool (dm b))):=by
 refine aF.w 38 Tryz.func369 fun w g0 hM=> ?_
 have eK:=hM.1.2.1.map
 have Hg:=hM.1.2.2.1.map
 refine cI [1] [] [] (fun (i:Nat)=>[.set 3 (I i)]) (fun (i:Nat)=>[]) (fun (i:Nat)=>(i ≤ b.aa.length)∧((b.aa.take i).all bL=true)) (fun (i:Nat)=>b.aa.length - i) (0) (⟨Nat.zero_le _,rfl⟩) ?_
 refine ⟨hda,fun i hyp N1 bw=> ?_⟩
 have hyp:(i ≤ b.aa.length)∧((b.aa.take i).all bL=true):=hyp
 have ha:=kw hyp.2
 refine len ?_
 refine aB ?_ ?_ <;> intro hb
 ·refine rz (fun y14 W_ Xa Xb=> ?_)
  skip
  refine ah (vG _).k ?_
  refine aB ?_ ?_ <;> intro gY
  ·refine bw _ _ _ ?_
   exact ay (by unfold dm;rw [ha.1 _ (by assumption) (by assumption)];rfl)
  ·refine cD ?_
   refine bw _ _ _ ?_
   refine iF (i + 1) (⟨by omega,iS hyp.2 (by assumption) (by assumption)⟩)
 ·refine bw _ _ _ ?_
  refine ah (Am _ _).k ?_
  refine aB ?_ ?_ <;> intro gm
  ·refine len ?_
   refine ah (aE _ _ _).k ?_
   refine aB ?_ ?_ <;> intro hg9
   ·refine len ?_
    refine aB ?_ ?_ <;> intro C6
    ·refine ah (lT _).k ?_
     exact ay (by unfold dm;rw [ha.2 (by omega)];refine congrArg Value.bool ?_;rw [Bool.eq_iff_iff];simp [*];omega)
    ·exact ay (by unfold dm;rw [ha.2 (by omega)];refine congrArg Value.bool ?_;rw [Bool.eq_iff_iff];simp [*];omega)
   ·exact ay (by unfold dm;rw [ha.2 (by omega)];simp [*];done)
  ·exact ay (by unfold dm;rw [ha.2 (by omega)];simp [*];done)
theorem kp (b:aV):aF Tryz.prog 79 [A (bC b)] (RV (.bool (dm b))):=by
 refine aF.w 36 Tryz.func79 fun w g0 hM=> ?_
 have eK:=hM.1.2.1.map
 have Hg:=hM.1.2.2.1.map
 refine len ?_
 refine cI [1,6,7] [] [] (fun (i:Nat)=>[.set 8 (I i)]) (fun (i:Nat)=>[]) (fun (i:Nat)=>(i ≤ b.aa.length)∧((b.aa.take i).all bL=true)) (fun (i:Nat)=>b.aa.length - i) (0) (⟨Nat.zero_le _,rfl⟩) ?_
 refine ⟨hda,fun i hyp N1 bw=> ?_⟩
 have hyp:(i ≤ b.aa.length)∧((b.aa.take i).all bL=true):=hyp
 have ha:=kw hyp.2
 refine aB ?_ ?_ <;> intro hb
 ·refine rz (fun y10 hy10 qy10 ly10=> ?_)
  skip
  refine ah (vH _).k ?_
  refine aB ?_ ?_ <;> intro gY
  ·refine bw _ _ _ ?_
   exact ay (by unfold dm;rw [ha.1 _ (by assumption) (by assumption)];rfl)
  ·refine cD ?_
   refine bw _ _ _ ?_
   refine iF (i + 1) (⟨by omega,iS hyp.2 (by assumption) (by assumption)⟩)
 ·refine bw _ _ _ ?_
  refine ah (An _ _).k ?_
  refine aB ?_ ?_ <;> intro gm
  ·refine len ?_
   refine ah (aS _ _ _).k ?_
   refine aB ?_ ?_ <;> intro hg9
   ·refine len ?_
    refine aB ?_ ?_ <;> intro C6
    ·refine ah (lU _).k ?_
     exact ay (by unfold dm;rw [ha.2 (by omega)];refine congrArg Value.bool ?_;rw [Bool.eq_iff_iff];simp [*];omega)
    ·exact ay (by unfold dm;rw [ha.2 (by omega)];refine congrArg Value.bool ?_;rw [Bool.eq_iff_iff];simp [*];omega)
   ·exact ay (by unfold dm;rw [ha.2 (by omega)];simp [*];done)
  ·exact ay (by unfold dm;rw [ha.2 (by omega)];simp [*];done)
section
variable {m n:Int} {h:an} {x:aO}
set_option maxRecDepth 100000
set_option maxHeartbeats 8000000
theorem BM (hm:¬ (0 ≤ m∧m < h.ap.length)):je h m=none:=nR hm
theorem Fs (h0:0 ≤ m) (hx:h.ap[m.toNat]? = some x):je h m=some x:=oL h0 hx
theorem Ft (hm:¬ (0 ≤ m∧m < h.ap.length) ∨ ¬ (0 ≤ n∧n ≤ 7)):m9 h m n=[0,0,0,0]:=by
 unfold m9
 by_cases h1:0 ≤ m∧m < h.ap.length
 have h2:¬ (0 ≤ n∧n ≤ 7):=hm.resolve_left (fun h=>h h1)
 cases je h m with
 | none=>rfl
 | some x=>simp only [if_neg h2]
 rw [BM h1]
theorem Jb (h0:0 ≤ m) (hx:h.ap[m.toNat]? = some x) (hn:0 ≤ n∧n ≤ 7):m9 h m n=if (eP x.ai n).aJ ≠ -1 then eo h.au (eP x.ai n).aJ else eo x.Out n:=by
 unfold m9
 rw [Fs h0 hx]
 simp only [if_pos hn]
theorem RY (h0:0 ≤ m) (hx:h.ap[m.toNat]? = some x) (hn:0 ≤ n∧n ≤ 7) (hp:¬ (eP x.ai n).aJ= -1):m9 h m n=eo h.au (eP x.ai n).aJ:=by rw [Jb h0 hx hn,if_pos hp]
theorem O1 (h0:0 ≤ m) (hx:h.ap[m.toNat]? = some x) (hn:0 ≤ n∧n ≤ 7) (hp:(eP x.ai n).aJ= -1):m9 h m n=eo x.Out n:=by rw [Jb h0 hx hn,if_neg (by simpa using hp)]
abbrev dx (h:an) (m:Int):aO:=(je h m).getD Uo
theorem KD (h:an) (m:Int) [Q (aj h)]:aF Tryz.prog 114 [A (aq h),I m] (RG [.a (va (dx h m)), .c (.v (.bool (je h m).isSome))]):=by
 refine aF.w 20 Tryz.func114 fun w g0 hM=> ?_
 have eK:=hM.1.2.1.map
 refine len ?_
 refine cD ?_
 refine ah (aE _ _ _).k ?_
 refine aB ?_ ?_ <;> intro hb
 ·exact (by rw [dx,BM (by omega)];rfl)
 ·refine xN (fun y17 hy17 qy17 ly17=> ?_)
  skip
  refine ak (ym _).k ?_
  exact (by rw [dx,Fs (by omega) (by assumption)];rfl)
theorem pS (h:an) (m:Int) [Q (aj h)]:aF Tryz.prog 100 [A (aq h),I m] (RG [.a (va (dx h m)), .c (.v (.bool (je h m).isSome))]):=by
 refine aF.w 19 Tryz.func100 fun w g0 hM=> ?_
 have eK:=hM.1.2.1.map
 refine len ?_
 refine ah (bA _ _).k ?_
 refine aB ?_ ?_ <;> intro hb
 ·exact (by rw [dx,BM (by omega)];rfl)
 ·refine xN (fun y16 OQ OR OS=> ?_)
  skip
  refine ak (vO _).k ?_
  exact (by rw [dx,Fs (by omega) (by assumption)];rfl)
theorem Hz (h:an) (m:Int) (n:Int) [Q (aj h)]:aF Tryz.prog 98 [A (aq h),I m,I n] (RL 1 ((m9 h m n).map bH)):=by
 refine aF.w 42 Tryz.func98 fun w g0 hM=> ?_
 have eK:=hM.1.2.1.map
 refine len ?_
 refine ah (bA _ _).k ?_
 refine aB ?_ ?_ <;> intro W9
 ·refine Z0 4 ?_
  exact (by rw [Ft (by left;omega)];rfl)
 ·refine ah (bA _ _).k ?_
  refine aB ?_ ?_ <;> intro hb
  ·refine Z0 4 ?_
   exact (by (rw [Ft (by right;omega)];rfl))
  ·refine xN (fun y24 hy24 qy24 ly24=> ?_)
   skip
   refine ah (oo _ _).k ?_
   refine aB ?_ ?_ <;> intro gY
   ·refine bk (su _ _).k ?_
    exact (by rw [RY (by omega) (by assumption) (by omega) (by assumption)];rfl)
   ·refine bk (su _ _).k ?_
    exact (by rw [O1 (by omega) (by assumption) (by omega) (by omega)];rfl)
end
end Go.Proofs.YtdliggkohdnipaaGreat.T
