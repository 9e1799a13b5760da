import Derived.Test.YtdliggkohdnipaaGreatNgr
import Derived.Test.YtdliggkohdnipaaGreatRor
set_option linter.unusedVariables false
set_option linter.unusedSimpArgs false
namespace Go.Proofs.YtdliggkohdnipaaGreat.T
open Go
section
variable {t w:Int} {g x:av}
set_option maxRecDepth 100000
set_option maxHeartbeats 8000000
theorem MP (h:w=5):m7 g w=cT g (rM (cM g.Prog g.Pc).X):=if_pos h
theorem Ky (h:¬ w=5):m7 g w=cT g qM:=if_neg h
theorem YC (h:¬ aH g=2):gI g=g:=by unfold gI;rw [if_pos h]
theorem Qs (h:aH g=2) (h1:(0 ≤ g.A∧g.A ≤ 99)∧(0 ≤ (cM g.Prog g.Pc).X∧(cM g.Prog g.Pc).X ≤ 99)):gI g=if (cM g.Prog g.Pc).Op=1 then fj { g with A:=(cM g.Prog g.Pc).X } else if (cM g.Prog g.Pc).Op=2 then fj { g with A:=(g.A + (cM g.Prog g.Pc).X).tmod 100 } else if (cM g.Prog g.Pc).Op=8∧g.A=0 then { g with Pc:=(cM g.Prog g.Pc).X } else fj g:=by
 unfold gI
 rw [if_neg (by omega)]
 simp only
 rw [if_pos (by rw [Bool.and_eq_true];exact ⟨decide_eq_true h1.1,decide_eq_true h1.2⟩)]
theorem Kz (h:aH g=2) (h1:¬ ((0 ≤ g.A∧g.A ≤ 99)∧(0 ≤ (cM g.Prog g.Pc).X∧(cM g.Prog g.Pc).X ≤ 99))):gI g=fj g:=by
 unfold gI
 rw [if_neg (by omega)]
 simp only
 rw [if_neg (fun e=>h1 (by rw [Bool.and_eq_true] at e;exact ⟨of_decide_eq_true e.1,of_decide_eq_true e.2⟩))]
theorem UC (h:aH g=2) (h1:(0 ≤ g.A∧g.A ≤ 99)∧(0 ≤ (cM g.Prog g.Pc).X∧(cM g.Prog g.Pc).X ≤ 99)) (h2:(cM g.Prog g.Pc).Op=1):gI g=fj { g with A:=(cM g.Prog g.Pc).X }:=by rw [Qs h h1,if_pos h2]
theorem UD (h:aH g=2) (h1:(0 ≤ g.A∧g.A ≤ 99)∧(0 ≤ (cM g.Prog g.Pc).X∧(cM g.Prog g.Pc).X ≤ 99)) (h2:(cM g.Prog g.Pc).Op=2):gI g=fj { g with A:=(g.A + (cM g.Prog g.Pc).X).tmod 100 }:=by rw [Qs h h1,if_neg (by omega),if_pos h2]
theorem Qt (h:aH g=2) (h1:(0 ≤ g.A∧g.A ≤ 99)∧(0 ≤ (cM g.Prog g.Pc).X∧(cM g.Prog g.Pc).X ≤ 99)) (h2:(cM g.Prog g.Pc).Op=8∧g.A=0):gI g={ g with Pc:=(cM g.Prog g.Pc).X }:=by rw [Qs h h1,if_neg (by omega),if_neg (by omega),if_pos h2]
theorem DU (h:aH g=2) (h1:(0 ≤ g.A∧g.A ≤ 99)∧(0 ≤ (cM g.Prog g.Pc).X∧(cM g.Prog g.Pc).X ≤ 99)) (h2:¬ (cM g.Prog g.Pc).Op=1∧¬ (cM g.Prog g.Pc).Op=2∧¬ ((cM g.Prog g.Pc).Op=8∧g.A=0)):gI g=fj g:=by rw [Qs h h1,if_neg h2.1,if_neg h2.2.1,if_neg h2.2.2]
def eR (x:av) (CB want:Int):av×Bool:=
 if want=6 then (cT x (kH (cM x.Prog x.Pc).X),false) else if want=5∧fA CB 1=true then (cT x (rM (cM x.Prog x.Pc).X),false)
 else if want=7∧fA CB 2=true then (cT x qM,false) else if want=7 then (held x,true) else (fj x,true)
theorem KA (h:w=6):eR x t w=(cT x (kH (cM x.Prog x.Pc).X),false):=if_pos h
theorem O0 (h:w=5) (h1:fA t 1=true):eR x t w=(cT x (rM (cM x.Prog x.Pc).X),false):=by unfold eR;rw [if_neg (by omega),if_pos ⟨h,h1⟩]
theorem DV (h:w=7) (h1:fA t 2=true):eR x t w=(cT x qM,false):=by unfold eR;rw [if_neg (by omega),if_neg (by omega),if_pos ⟨h,h1⟩]
theorem DW (h:w=7) (h1:fA t 2=false):eR x t w=(held x,true):=by unfold eR;rw [if_neg (by omega),if_neg (by omega),if_neg (fun e=>by rw [h1] at e;exact absurd e.2 (by decide)),if_pos h]
theorem s5 (h:¬ w=6∧¬ w=7) (h1:¬ w=5 ∨ fA t 1=false):eR x t w=(fj x,true):=by
 unfold eR
 rw [if_neg h.1,if_neg (fun e=>by rcases h1 with h1|h1;exact h1 e.1;rw [h1] at e;exact absurd e.2 (by decide)),if_neg (fun e=>h.2 e.1),if_neg h.2]
theorem Fk (g:av) [Q (aG g)] [Ch:Q (-9223372036854775808 ≤ g.Pc)]:aF Tryz.prog 339 [A (bB g)] (RG [.a (bB (gI g))]):=by
 refine aF.w 67 Tryz.func339 fun w g0 _=> ?_
 refine ah (sv _).k ?_
 refine aB ?_ ?_ <;> intro hb
 refine ak (iy _).k ?_
 exact (by rw [YC (by omega)];rfl)
 refine ah (kZ _ _).k ?_
 refine ah (aE _ _ _).k ?_
 refine aB ?_ ?_ <;> intro gm
 refine ah (aE _ _ _).k ?_
 refine aB ?_ ?_ <;> intro hg1
 refine aB ?_ ?_ <;> intro gY
 refine ak (dI { g with A:=(cM g.Prog g.Pc).X }).k ?_
 exact (by rw [UC (by omega) (by omega) (by omega)];rfl)
 refine cndT (by omega) ?_
 refine aB ?_ ?_ <;> intro tY
 refine cD ?_
 refine nz ?_
 refine ak (dI { g with A:=(g.A + (cM g.Prog g.Pc).X).tmod 100 }).k ?_
 exact (by rw [UD (by omega) (by omega) (by omega)];rfl)
 refine cndT (by omega) ?_
 refine aB ?_ ?_ <;> intro W9
 refine aB ?_ ?_ <;> intro yW
 refine ak (iy _).k ?_
 exact (by rw [Qt (by omega) (by omega) (by omega)];rfl)
 refine ak (dI g).k ?_
 exact (by rw [DU (by omega) (by omega) (by omega)];rfl)
 refine ak (dI g).k ?_
 exact (by rw [DU (by omega) (by omega) (by omega)];rfl)
 refine cndF (by omega) ?_
 refine cndF (by omega) ?_
 refine ak (dI g).k ?_
 exact (by rw [Kz (by omega) (by omega)];rfl)
 refine ak (dI g).k ?_
 exact (by rw [Kz (by omega) (by omega)];rfl)
theorem Fl (g:av) [Q (aG g)] [Ch:Q (-9223372036854775808 ≤ g.Pc)]:aF Tryz.prog 391 [A (bB g)] (RG [.a (bB (gI g))]):=by
 refine aF.w 59 Tryz.func391 fun w g0 _=> ?_
 refine ah (lV _).k ?_
 refine aB ?_ ?_ <;> intro hb
 refine ak (eu _).k ?_
 exact (by rw [YC (by omega)];rfl)
 refine ah (jU _ _).k ?_
 refine ak (iX _).k ?_
 refine ah (aS _ _ _).k ?_
 refine aB ?_ ?_ <;> intro Kr
 exact (by rw [Kz (by omega) (by omega)];rfl)
 refine ah (aS _ _ _).k ?_
 refine aB ?_ ?_ <;> intro gY
 exact (by rw [Kz (by omega) (by omega)];rfl)
 refine aB ?_ ?_ <;> intro tY
 exact (by rw [UC (by omega) (by omega) (by omega)];rfl)
 refine aB ?_ ?_ <;> intro yW
 refine cD ?_
 refine nz ?_
 exact (by rw [UD (by omega) (by omega) (by omega)];rfl)
 refine aB ?_ ?_ <;> intro gm
 refine aB ?_ ?_ <;> intro CE
 exact (by rw [Qt (by omega) (by omega) (by omega)];rfl)
 exact (by rw [DU (by omega) (by omega) (by omega)];rfl)
 exact (by rw [DU (by omega) (by omega) (by omega)];rfl)
theorem Fm (g:av) (t:Int) (w:Int) [Q (aG g)] [Ch:Q (-9223372036854775808 ≤ g.Pc)]:aF Tryz.prog 446 [A (bB g),I t,I w] (RG [.a (bB (eR g t w).1), .c (.v (.bool (eR g t w).2))]):=by
 refine aF.w 51 Tryz.func446 fun w g0 _=> ?_
 refine ah (kZ _ _).k ?_
 refine aB ?_ ?_ <;> intro hb
 refine cJ [5] [(0,0),(1,0),(2,0),(3,1),(4,1),(5,1),(6,0)] ?_
 refine ah (C4 _).k ?_
 refine ak (fE g (kH (cM g.Prog g.Pc).X)).k ?_
 exact (by rw [KA (by omega)];rfl)
 refine aB ?_ ?_ <;> intro mS
 refine ah (kK _ _).k ?_
 refine aB ?_ ?_ <;> intro gY
 refine cJ [5] [(0,0),(1,0),(2,0),(3,1),(4,1),(5,1),(6,0)] ?_
 refine ah (E_ _).k ?_
 refine ak (fE g (rM (cM g.Prog g.Pc).X)).k ?_
 exact (by rw [O0 (by omega) (by assumption)];rfl)
 refine aB ?_ ?_ <;> intro mS
 refine ah (kK _ _).k ?_
 refine aB ?_ ?_ <;> intro tY
 refine ak (fE g qM).k ?_
 exact (by rw [DV (by omega) (by assumption)];rfl)
 refine aB ?_ ?_ <;> intro yW
 refine ak (oO _).k ?_
 exact (by rw [DW (by omega) (by assumption)];rfl)
 refine ak (dI _).k ?_
 exact (by rw [s5 (by omega) (by exact .inl (by omega))];rfl)
 refine aB ?_ ?_ <;> intro CE
 refine ak (oO _).k ?_
 exact (by exfalso;omega)
 refine ak (dI _).k ?_
 exact (by rw [s5 (by omega) (by exact .inr (by assumption))];rfl)
 refine aB ?_ ?_ <;> intro mS
 refine ah (kK _ _).k ?_
 refine aB ?_ ?_ <;> intro NX
 refine ak (fE g qM).k ?_
 exact (by rw [DV (by omega) (by assumption)];rfl)
 refine aB ?_ ?_ <;> intro RS
 refine ak (oO _).k ?_
 exact (by rw [DW (by omega) (by assumption)];rfl)
 refine ak (dI _).k ?_
 exact (by rw [s5 (by omega) (by exact .inl (by omega))];rfl)
 refine aB ?_ ?_ <;> intro Xf
 refine ak (oO _).k ?_
 exact (by exfalso;omega)
 refine ak (dI _).k ?_
 exact (by rw [s5 (by omega) (by exact .inl (by omega))];rfl)
theorem yl (w:Int):aF Tryz.prog 384 [I w] (RV (.int .i64 (m6 w))):=by
 refine aF.w 5 Tryz.func384 fun w g0 _=> ?_
 refine aB ?_ ?_ <;> intro hb
 exact ay (by simp_all [m6];done)
 exact ay (by simp_all [m6];done)
theorem vL (g:av) (w:Int) [Q (aG g)]:aF Tryz.prog 385 [A (bB g),I w] (RG [.a (bB (m7 g w))]):=by
 refine aF.w 19 Tryz.func385 fun w g0 _=> ?_
 refine aB ?_ ?_ <;> intro hb
 refine cJ [9] [(0,0),(1,0),(2,0),(3,0),(4,0),(5,1),(6,0),(7,1),(8,1),(9,1)] ?_
 refine ah (jU _ _).k ?_
 refine ah (Fa _).k ?_
 refine ak (fF g (rM (cM g.Prog g.Pc).X)).k ?_
 exact (by rw [MP (by omega)];rfl)
 refine ak (fF g qM).k ?_
 exact (by rw [Ky (by omega)];rfl)
theorem k6 (l:List av) [Q (ju l)]:aF Tryz.prog 321 [L 15 (l.map aY)] (RL 15 (l.map aY)):=by
 refine aF.w 21 Tryz.func321 fun w g0 hM=> ?_
 have eK:=hM.1.map
 refine cI [0,2,3] [3] [3] (fun (i:Nat)=>[.set 4 (I i)]) (fun (i:Nat)=>[(3,⟨false,[.own (.sl 15 ((l.take i).map aY))]⟩)]) (fun (i:Nat)=>i ≤ l.length) (fun (i:Nat)=>l.length - i) (0) (Nat.zero_le _) ?_
 refine ⟨hda,fun i hyp N1 bw=> ?_⟩
 have hyp:i ≤ l.length:=hyp
 refine len ?_
 refine aB ?_ ?_ <;> intro hb
 ·refine rz (fun y15 hy15 qy15 ly15=> ?_)
  skip
  refine ak (iy _).k ?_
  refine xX ?_
  refine cD ?_
  refine bw _ _ _ ?_
  refine iF (i + 1) (by omega)
 ·refine bw _ _ _ ?_
  exact (by rw [List.take_of_length_le (by omega)];rfl)
theorem gK (l:List av) [Q (ju l)]:aF Tryz.prog 85 [L 15 (l.map aY)] (RL 15 (l.map aY)):=by
 refine aF.w 20 Tryz.func85 fun w g0 hM=> ?_
 have eK:=hM.1.map
 refine len ?_
 refine cI [2,3,7,8] [3] [3] (fun (i:Nat)=>[.set 9 (I i)]) (fun (i:Nat)=>[(3,⟨false,[.own (.sl 15 ((l.take i).map aY))]⟩)]) (fun (i:Nat)=>i ≤ l.length) (fun (i:Nat)=>l.length - i) (0) (Nat.zero_le _) ?_
 refine ⟨hda,fun i hyp N1 bw=> ?_⟩
 have hyp:i ≤ l.length:=hyp
 refine aB ?_ ?_ <;> intro hb
 ·refine rz (fun y11 hy11 qy11 ly11=> ?_)
  skip
  refine ak (eu _).k ?_
  refine xX ?_
  refine cD ?_
  refine bw _ _ _ ?_
  refine iF (i + 1) (by omega)
 ·refine bw _ _ _ ?_
  exact (by rw [List.take_of_length_le (by omega)];rfl)
theorem gD (b:aV) [Q (aW b)]:aF Tryz.prog 242 [A (bC b)] (RG [.a (bC (b))]):=by
 refine aF.w 16 Tryz.func242 fun w g0 _=> ?_
 refine fW [9,13] [9] [1] (.quiet 0 0 (.quiet 1 0 (.quiet 3 0 (.quiet 4 0 (.quiet 7 0 (.quiet 8 0 (.quiet 10 1 (.quiet 11 1 (.fork (.alt 2 (.fork (.alt 5 (.fork (.alt 6 (.fork (.alt 9 (.quiet 12 0 (.fork (.alt 13 .done .stop))) .stop)) .stop)) (.alt 6 (.fork (.alt 5 (.fork (.alt 9 (.quiet 12 0 (.fork (.alt 13 .done .stop))) .stop)) .stop)) .stop))) (.alt 6 (.fork (.alt 2 (.fork (.alt 5 (.fork (.alt 9 (.quiet 12 0 (.fork (.alt 13 .done .stop))) .stop)) .stop)) .stop)) .stop))))))))))) ?_
 repeat' first|exact True.intro|refine And.intro ?_ ?_|(intro _ _)|refine bk (kI _).k ?_|refine bk (k6 _).k ?_|refine cB ?_
 all_goals exact rfl
theorem cN (b:aV) [Q (aW b)]:aF Tryz.prog 388 [A (bC b)] (RG [.a (bC (b))]):=by
 refine aF.w 15 Tryz.func388 fun w g0 _=> ?_
 refine cJ [12] [(0,0),(1,0),(3,0),(4,0),(6,0),(7,0),(9,0),(10,0),(2,1),(5,1),(8,1),(11,0),(12,1)] ?_
 refine bk (kJ _).k ?_
 refine bk (gK _).k ?_
 refine bk (iN _).k ?_
 exact rfl
end
end Go.Proofs.YtdliggkohdnipaaGreat.T
