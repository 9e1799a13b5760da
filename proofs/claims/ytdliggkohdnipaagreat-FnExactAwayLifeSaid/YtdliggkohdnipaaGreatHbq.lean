import Derived.Test.YtdliggkohdnipaaGreatHqq
set_option linter.unusedVariables false
set_option linter.unusedSimpArgs false
namespace Go.Proofs.YtdliggkohdnipaaGreat.T
open Go
set_option maxRecDepth 100000
set_option maxHeartbeats 1000000
theorem Jo (xs:List bZ) (n:Int) (h1:0 ≤ n) (h2:n ≤ 1048576):aF Tryz.prog 240 [L 2 (xs.map i_),I n] (RV (.int .i64 (mZ xs n))):=by
 refine aF.w 12 Tryz.func240 fun w g0 hM=> ?_
 have hm0:=hM.1.map
 refine len ?_
 refine cg ?_
 refine dV (fun hb=> ?_) (fun hb=> ?_)
 exact ay (by simp at hb;unfold mZ;rw [if_pos (by omega)])
 exact ay (by simp at hb;unfold mZ;rw [if_neg (by omega)])
theorem Jp (xs:List dF) (n:Int) (h1:0 ≤ n) (h2:n ≤ 1048576):aF Tryz.prog 42 [L 6 (xs.map gO),I n] (RV (.int .i64 (tX xs n))):=by
 refine aF.w 12 Tryz.func42 fun w g0 hM=> ?_
 have hm0:=hM.1.map
 refine len ?_
 refine cg ?_
 refine dV (fun hb=> ?_) (fun hb=> ?_)
 exact ay (by simp at hb;unfold tX;rw [if_pos (by omega)])
 exact ay (by simp at hb;unfold tX;rw [if_neg (by omega)])
theorem Ht (xs:List (List bZ)) (n:Int) (h1:0 ≤ n) (h2:n ≤ 1048576):aF Tryz.prog 139 [L 1 (xs.map h_),I n] (RV (.int .i64 (ji xs n))):=by
 refine aF.w 27 Tryz.func139 fun w g0 hM=> ?_
 have hm0:=hM.1.map
 refine len ?_
 refine cg ?_
 refine dV (fun hb=> ?_) (fun hb=> ?_)
 exact ay (by simp at hb;unfold ji;rw [if_pos (by omega)])
 refine fw [] [] [] (fun ((k,m):Nat×Int)=>[.set 0 (L 1 (xs.map h_)), .set 1 (I m), .set 5 (I k)]) (fun ((k,m):Nat×Int)=>[]) (fun ((k,m):Nat×Int)=>k ≤ xs.length∧0 ≤ m∧m ≤ n∧ji xs n=lQ mZ (xs.drop k) m) (fun ((k,m):Nat×Int)=>xs.length - k) (0,n - xs.length) ((by simp at hb;refine ⟨by omega,by omega,by omega, ?_⟩;unfold ji;rw [if_neg (by omega),List.drop_zero])) ?_
 refine ⟨uu,fun ⟨k,m⟩ hyp N1 bq=> ?_⟩
 have hyp:k ≤ xs.length∧0 ≤ m∧m ≤ n∧ji xs n=lQ mZ (xs.drop k) m:=hyp
 refine len ?_
 refine dV (fun hb=> ?_) (fun hb=> ?_)
 have hk:k < xs.length:=by simpa using hb
 obtain ⟨x,hx⟩:=dO (xs:=xs) (k:=k) hk
 have hs:=DW (f:=mZ) hx m
 refine dM hx ?_
 refine ah (Jo x m hyp.2.1 (by omega)).k ?_
 have hz:=(Kw x m)
 refine dV (fun hb=> ?_) (fun hb=> ?_)
 refine bq _ _ _ ?_
 exact ay (by simp at hb;rw [hyp.2.2.2,hs,if_pos hb])
 refine cg ?_
 refine bq _ _ _ ?_
 refine ur [] (k + 1,mZ x m) (by (simp at hb;have hz:=hz (by omega);refine ⟨by omega,by omega,by omega, ?_⟩;rw [hyp.2.2.2,hs,if_neg (by omega)]))
 refine bq _ _ _ ?_
 exact ay (by simp at hb;rw [hyp.2.2.2,List.drop_eq_nil_of_le hb];rfl)
theorem Ex (xs:List (List (List bZ))) (n:Int) (h1:0 ≤ n) (h2:n ≤ 1048576):aF Tryz.prog 54 [L 1 (xs.map de),I n] (RV (.int .i64 (jF xs n))):=by
 refine aF.w 27 Tryz.func54 fun w g0 hM=> ?_
 have hm0:=hM.1.map
 refine len ?_
 refine cg ?_
 refine dV (fun hb=> ?_) (fun hb=> ?_)
 exact ay (by simp at hb;unfold jF;rw [if_pos (by omega)])
 refine fw [] [] [] (fun ((k,m):Nat×Int)=>[.set 0 (L 1 (xs.map de)), .set 1 (I m), .set 5 (I k)]) (fun ((k,m):Nat×Int)=>[]) (fun ((k,m):Nat×Int)=>k ≤ xs.length∧0 ≤ m∧m ≤ n∧jF xs n=lQ ji (xs.drop k) m) (fun ((k,m):Nat×Int)=>xs.length - k) (0,n - xs.length) ((by simp at hb;refine ⟨by omega,by omega,by omega, ?_⟩;unfold jF;rw [if_neg (by omega),List.drop_zero])) ?_
 refine ⟨uu,fun ⟨k,m⟩ hyp N1 bq=> ?_⟩
 have hyp:k ≤ xs.length∧0 ≤ m∧m ≤ n∧jF xs n=lQ ji (xs.drop k) m:=hyp
 refine len ?_
 refine dV (fun hb=> ?_) (fun hb=> ?_)
 have hk:k < xs.length:=by simpa using hb
 obtain ⟨x,hx⟩:=dO (xs:=xs) (k:=k) hk
 have hs:=DW (f:=ji) hx m
 refine dM hx ?_
 refine ah (Ht x m hyp.2.1 (by omega)).k ?_
 have hz:=(GG x m)
 refine dV (fun hb=> ?_) (fun hb=> ?_)
 refine bq _ _ _ ?_
 exact ay (by simp at hb;rw [hyp.2.2.2,hs,if_pos hb])
 refine cg ?_
 refine bq _ _ _ ?_
 refine ur [] (k + 1,ji x m) (by (simp at hb;have hz:=hz (by omega);refine ⟨by omega,by omega,by omega, ?_⟩;rw [hyp.2.2.2,hs,if_neg (by omega)]))
 refine bq _ _ _ ?_
 exact ay (by simp at hb;rw [hyp.2.2.2,List.drop_eq_nil_of_le hb];rfl)
theorem uh (xs ys:List Int):aF Tryz.prog 47 [L 1 (xs.map bS),L 1 (ys.map bS)] (RV (.bool (decide (xs=ys)))):=by
 refine aF.w 26 Tryz.func47 fun w g0 hM=> ?_
 have hm0:=hM.1.map
 refine len ?_
 refine len ?_
 refine dV (fun hb=> ?_) (fun hb=> ?_)
 exact ay (by simp at *;intro e;subst e;simp at hb)
 have hl:xs.length=ys.length:=by simp at hb;omega
 refine fw [] [] [] (fun (k:Nat)=>[.set 0 (L 1 (xs.map bS)), .set 1 (L 1 (ys.map bS)), .set 5 (I k)]) (fun (k:Nat)=>[]) (fun (k:Nat)=>k ≤ xs.length∧xs.take k=ys.take k) (fun (k:Nat)=>xs.length - k) (0) (by simp) ?_
 refine ⟨uu,fun k hyp N1 bq=> ?_⟩
 have hyp:k ≤ xs.length∧xs.take k=ys.take k:=hyp
 refine len ?_
 refine dV (fun hb=> ?_) (fun hb=> ?_)
 have hk:k < xs.length:=by simpa using hb
 obtain ⟨x,hx⟩:=dO (xs:=xs) (k:=k) hk
 obtain ⟨y,hy⟩:=dO (xs:=ys) (k:=k) (by omega)
 refine o_ ?_
 refine dM hx ?_
 refine dM hy ?_
 refine dV (fun hb=> ?_) (fun hb=> ?_)
 refine bq _ _ _ ?_
 exact ay (by simp at *;exact pe hx hy hb)
 refine cg ?_
 refine bq _ _ _ ?_
 refine ur [] (k + 1) (⟨by omega,mB hyp.2 hx (by simp at hb;rw [hb];exact hy)⟩)
 refine bq _ _ _ ?_
 exact ay (by simp at *;exact ph hl hyp.2 hb)
theorem xY (xs ys:List (List Int)):aF Tryz.prog 132 [L 1 (xs.map aP),L 1 (ys.map aP)] (RV (.bool (decide (xs=ys)))):=by
 refine aF.w 27 Tryz.func132 fun w g0 hM=> ?_
 have hm0:=hM.1.map
 refine len ?_
 refine len ?_
 refine dV (fun hb=> ?_) (fun hb=> ?_)
 exact ay (by simp at *;intro e;subst e;simp at hb)
 have hl:xs.length=ys.length:=by simp at hb;omega
 refine fw [] [] [] (fun (k:Nat)=>[.set 0 (L 1 (xs.map aP)), .set 1 (L 1 (ys.map aP)), .set 5 (I k)]) (fun (k:Nat)=>[]) (fun (k:Nat)=>k ≤ xs.length∧xs.take k=ys.take k) (fun (k:Nat)=>xs.length - k) (0) (by simp) ?_
 refine ⟨uu,fun k hyp N1 bq=> ?_⟩
 have hyp:k ≤ xs.length∧xs.take k=ys.take k:=hyp
 refine len ?_
 refine dV (fun hb=> ?_) (fun hb=> ?_)
 have hk:k < xs.length:=by simpa using hb
 obtain ⟨x,hx⟩:=dO (xs:=xs) (k:=k) hk
 obtain ⟨y,hy⟩:=dO (xs:=ys) (k:=k) (by omega)
 refine o_ ?_
 refine dM hx ?_
 refine dM hy ?_
 refine iL (uh x y).k ?_
 refine dV (fun hb=> ?_) (fun hb=> ?_)
 refine bq _ _ _ ?_
 exact ay (by simp at *;exact pe hx hy hb)
 refine cg ?_
 refine bq _ _ _ ?_
 refine ur [] (k + 1) (⟨by omega,mB hyp.2 hx (by simp at hb;rw [hb];exact hy)⟩)
 refine bq _ _ _ ?_
 exact ay (by simp at *;exact ph hl hyp.2 hb)
theorem Jq (x y:aQ):aF Tryz.prog 464 [A (iF x),A (iF y)] (RV (.bool (decide (x=y)))):=by
 refine aF.w 15 Tryz.func464 fun w g0 _=> ?_
 refine dV (fun hb=> ?_) (fun hb=> ?_)
 exact ay (by cases x;cases y;simp_all)
 refine dV (fun hb=> ?_) (fun hb=> ?_)
 exact ay (by cases x;cases y;simp_all)
 exact ay (by cases x;cases y;simp_all)
theorem oB (xs ys:List aQ):aF Tryz.prog 365 [L 2 (xs.map aT),L 2 (ys.map aT)] (RV (.bool (decide (xs=ys)))):=by
 refine aF.w 27 Tryz.func365 fun w g0 hM=> ?_
 have hm0:=hM.1.map
 refine len ?_
 refine len ?_
 refine dV (fun hb=> ?_) (fun hb=> ?_)
 exact ay (by simp at *;intro e;subst e;simp at hb)
 have hl:xs.length=ys.length:=by simp at hb;omega
 refine fw [] [] [] (fun (k:Nat)=>[.set 0 (L 2 (xs.map aT)), .set 1 (L 2 (ys.map aT)), .set 5 (I k)]) (fun (k:Nat)=>[]) (fun (k:Nat)=>k ≤ xs.length∧xs.take k=ys.take k) (fun (k:Nat)=>xs.length - k) (0) (by simp) ?_
 refine ⟨uu,fun k hyp N1 bq=> ?_⟩
 have hyp:k ≤ xs.length∧xs.take k=ys.take k:=hyp
 refine len ?_
 refine dV (fun hb=> ?_) (fun hb=> ?_)
 have hk:k < xs.length:=by simpa using hb
 obtain ⟨x,hx⟩:=dO (xs:=xs) (k:=k) hk
 obtain ⟨y,hy⟩:=dO (xs:=ys) (k:=k) (by omega)
 refine o_ ?_
 refine dM hx ?_
 refine dM hy ?_
 refine iL (Jq x y).k ?_
 refine dV (fun hb=> ?_) (fun hb=> ?_)
 refine bq _ _ _ ?_
 exact ay (by simp at *;exact pe hx hy hb)
 refine cg ?_
 refine bq _ _ _ ?_
 refine ur [] (k + 1) (⟨by omega,mB hyp.2 hx (by simp at hb;rw [hb];exact hy)⟩)
 refine bq _ _ _ ?_
 exact ay (by simp at *;exact ph hl hyp.2 hb)
theorem xZ (xs ys:List Bool):aF Tryz.prog 366 [L 1 (xs.map bO),L 1 (ys.map bO)] (RV (.bool (decide (xs=ys)))):=by
 refine aF.w 26 Tryz.func366 fun w g0 hM=> ?_
 have hm0:=hM.1.map
 refine len ?_
 refine len ?_
 refine dV (fun hb=> ?_) (fun hb=> ?_)
 exact ay (by simp at *;intro e;subst e;simp at hb)
 have hl:xs.length=ys.length:=by simp at hb;omega
 refine fw [] [] [] (fun (k:Nat)=>[.set 0 (L 1 (xs.map bO)), .set 1 (L 1 (ys.map bO)), .set 5 (I k)]) (fun (k:Nat)=>[]) (fun (k:Nat)=>k ≤ xs.length∧xs.take k=ys.take k) (fun (k:Nat)=>xs.length - k) (0) (by simp) ?_
 refine ⟨uu,fun k hyp N1 bq=> ?_⟩
 have hyp:k ≤ xs.length∧xs.take k=ys.take k:=hyp
 refine len ?_
 refine dV (fun hb=> ?_) (fun hb=> ?_)
 have hk:k < xs.length:=by simpa using hb
 obtain ⟨x,hx⟩:=dO (xs:=xs) (k:=k) hk
 obtain ⟨y,hy⟩:=dO (xs:=ys) (k:=k) (by omega)
 refine o_ ?_
 refine dM hx ?_
 refine dM hy ?_
 refine dV (fun hb=> ?_) (fun hb=> ?_)
 refine bq _ _ _ ?_
 exact ay (by simp at *;exact pe hx hy hb)
 refine cg ?_
 refine bq _ _ _ ?_
 refine ur [] (k + 1) (⟨by omega,mB hyp.2 hx (by simp at hb;rw [hb];exact hy)⟩)
 refine bq _ _ _ ?_
 exact ay (by simp at *;exact ph hl hyp.2 hb)
theorem Ml (x y:bZ):aF Tryz.prog 371 [A (Eo x),A (Eo y)] (RV (.bool (decide (x=y)))):=by
 refine aF.w 15 Tryz.func371 fun w g0 _=> ?_
 refine dV (fun hb=> ?_) (fun hb=> ?_)
 exact ay (by cases x;cases y;simp_all)
 refine dV (fun hb=> ?_) (fun hb=> ?_)
 exact ay (by cases x;cases y;simp_all)
 exact ay (by cases x;cases y;simp_all)
theorem Ad (xs ys:List bZ):aF Tryz.prog 244 [L 2 (xs.map i_),L 2 (ys.map i_)] (RV (.bool (decide (xs=ys)))):=by
 refine aF.w 27 Tryz.func244 fun w g0 hM=> ?_
 have hm0:=hM.1.map
 refine len ?_
 refine len ?_
 refine dV (fun hb=> ?_) (fun hb=> ?_)
 exact ay (by simp at *;intro e;subst e;simp at hb)
 have hl:xs.length=ys.length:=by simp at hb;omega
 refine fw [] [] [] (fun (k:Nat)=>[.set 0 (L 2 (xs.map i_)), .set 1 (L 2 (ys.map i_)), .set 5 (I k)]) (fun (k:Nat)=>[]) (fun (k:Nat)=>k ≤ xs.length∧xs.take k=ys.take k) (fun (k:Nat)=>xs.length - k) (0) (by simp) ?_
 refine ⟨uu,fun k hyp N1 bq=> ?_⟩
 have hyp:k ≤ xs.length∧xs.take k=ys.take k:=hyp
 refine len ?_
 refine dV (fun hb=> ?_) (fun hb=> ?_)
 have hk:k < xs.length:=by simpa using hb
 obtain ⟨x,hx⟩:=dO (xs:=xs) (k:=k) hk
 obtain ⟨y,hy⟩:=dO (xs:=ys) (k:=k) (by omega)
 refine o_ ?_
 refine dM hx ?_
 refine dM hy ?_
 refine iL (Ml x y).k ?_
 refine dV (fun hb=> ?_) (fun hb=> ?_)
 refine bq _ _ _ ?_
 exact ay (by simp at *;exact pe hx hy hb)
 refine cg ?_
 refine bq _ _ _ ?_
 refine ur [] (k + 1) (⟨by omega,mB hyp.2 hx (by simp at hb;rw [hb];exact hy)⟩)
 refine bq _ _ _ ?_
 exact ay (by simp at *;exact ph hl hyp.2 hb)
theorem Mm (x y:qY):aF Tryz.prog 495 [A (zA x),A (zA y)] (RV (.bool (decide (x=y)))):=by
 refine aF.w 20 Tryz.func495 fun w g0 _=> ?_
 refine dV (fun hb=> ?_) (fun hb=> ?_)
 exact ay (by cases x;cases y;simp_all)
 refine dV (fun hb=> ?_) (fun hb=> ?_)
 exact ay (by cases x;cases y;simp_all)
 refine dV (fun hb=> ?_) (fun hb=> ?_)
 exact ay (by cases x;cases y;simp_all)
 exact ay (by cases x;cases y;simp_all)
theorem Jr (x y:qE):aF Tryz.prog 496 [A (uM x),A (uM y)] (RV (.bool (decide (x=y)))):=by
 refine aF.w 25 Tryz.func496 fun w g0 _=> ?_
 refine dV (fun hb=> ?_) (fun hb=> ?_)
 exact ay (by cases x;cases y;simp_all)
 refine dV (fun hb=> ?_) (fun hb=> ?_)
 exact ay (by cases x;cases y;simp_all)
 refine dV (fun hb=> ?_) (fun hb=> ?_)
 exact ay (by cases x;cases y;simp_all)
 refine dV (fun hb=> ?_) (fun hb=> ?_)
 exact ay (by cases x;cases y;simp_all)
 exact ay (by cases x;cases y;simp_all)
theorem Hu (x y:ax):aF Tryz.prog 465 [A (bK x),A (bK y)] (RV (.bool (decide (x=y)))):=by
 refine aF.w 61 Tryz.func465 fun w g0 _=> ?_
 refine ah (Ad x.Prog y.Prog).k ?_
 refine dV (fun hb=> ?_) (fun hb=> ?_)
 exact ay (by cases x;cases y;simp_all)
 refine dV (fun hb=> ?_) (fun hb=> ?_)
 exact ay (by cases x;cases y;simp_all)
 refine dV (fun hb=> ?_) (fun hb=> ?_)
 exact ay (by cases x;cases y;simp_all)
 refine ah (oB x.Written y.Written).k ?_
 refine dV (fun hb=> ?_) (fun hb=> ?_)
 exact ay (by cases x;cases y;simp_all)
 refine ah (oB x.Live y.Live).k ?_
 refine dV (fun hb=> ?_) (fun hb=> ?_)
 exact ay (by cases x;cases y;simp_all)
 refine ah (Mm x.jv y.jv).k ?_
 refine dV (fun hb=> ?_) (fun hb=> ?_)
 exact ay (by cases x;cases y;simp_all)
 refine dV (fun hb=> ?_) (fun hb=> ?_)
 exact ay (by cases x;cases y;simp_all)
 refine ah (Jr x.Exit y.Exit).k ?_
 refine dV (fun hb=> ?_) (fun hb=> ?_)
 exact ay (by cases x;cases y;simp_all)
 refine dV (fun hb=> ?_) (fun hb=> ?_)
 exact ay (by cases x;cases y;simp_all)
 refine ah (uh x.Seen y.Seen).k ?_
 refine dV (fun hb=> ?_) (fun hb=> ?_)
 exact ay (by cases x;cases y;simp_all)
 exact ay (by cases x;cases y;simp_all)
theorem Ey (xs ys:List ax):aF Tryz.prog 367 [L 15 (xs.map bp),L 15 (ys.map bp)] (RV (.bool (decide (xs=ys)))):=by
 refine aF.w 27 Tryz.func367 fun w g0 hM=> ?_
 have hm0:=hM.1.map
 refine len ?_
 refine len ?_
 refine dV (fun hb=> ?_) (fun hb=> ?_)
 exact ay (by simp at *;intro e;subst e;simp at hb)
 have hl:xs.length=ys.length:=by simp at hb;omega
 refine fw [] [] [] (fun (k:Nat)=>[.set 0 (L 15 (xs.map bp)), .set 1 (L 15 (ys.map bp)), .set 5 (I k)]) (fun (k:Nat)=>[]) (fun (k:Nat)=>k ≤ xs.length∧xs.take k=ys.take k) (fun (k:Nat)=>xs.length - k) (0) (by simp) ?_
 refine ⟨uu,fun k hyp N1 bq=> ?_⟩
 have hyp:k ≤ xs.length∧xs.take k=ys.take k:=hyp
 refine len ?_
 refine dV (fun hb=> ?_) (fun hb=> ?_)
 have hk:k < xs.length:=by simpa using hb
 obtain ⟨x,hx⟩:=dO (xs:=xs) (k:=k) hk
 obtain ⟨y,hy⟩:=dO (xs:=ys) (k:=k) (by omega)
 refine o_ ?_
 refine dM hx ?_
 refine dM hy ?_
 refine iL (Hu x y).k ?_
 refine dV (fun hb=> ?_) (fun hb=> ?_)
 refine bq _ _ _ ?_
 exact ay (by simp at *;exact pe hx hy hb)
 refine cg ?_
 refine bq _ _ _ ?_
 refine ur [] (k + 1) (⟨by omega,mB hyp.2 hx (by simp at hb;rw [hb];exact hy)⟩)
 refine bq _ _ _ ?_
 exact ay (by simp at *;exact ph hl hyp.2 hb)
theorem Js (x y:cE):aF Tryz.prog 466 [A (ia x),A (ia y)] (RV (.bool (decide (x=y)))):=by
 refine aF.w 17 Tryz.func466 fun w g0 _=> ?_
 refine ah (xZ x.cG y.cG).k ?_
 refine dV (fun hb=> ?_) (fun hb=> ?_)
 exact ay (by cases x;cases y;simp_all)
 refine ah (oB x.dQ y.dQ).k ?_
 refine dV (fun hb=> ?_) (fun hb=> ?_)
 exact ay (by cases x;cases y;simp_all)
 exact ay (by cases x;cases y;simp_all)
theorem Hv (xs ys:List cE):aF Tryz.prog 368 [L 2 (xs.map cz),L 2 (ys.map cz)] (RV (.bool (decide (xs=ys)))):=by
 refine aF.w 27 Tryz.func368 fun w g0 hM=> ?_
 have hm0:=hM.1.map
 refine len ?_
 refine len ?_
 refine dV (fun hb=> ?_) (fun hb=> ?_)
 exact ay (by simp at *;intro e;subst e;simp at hb)
 have hl:xs.length=ys.length:=by simp at hb;omega
 refine fw [] [] [] (fun (k:Nat)=>[.set 0 (L 2 (xs.map cz)), .set 1 (L 2 (ys.map cz)), .set 5 (I k)]) (fun (k:Nat)=>[]) (fun (k:Nat)=>k ≤ xs.length∧xs.take k=ys.take k) (fun (k:Nat)=>xs.length - k) (0) (by simp) ?_
 refine ⟨uu,fun k hyp N1 bq=> ?_⟩
 have hyp:k ≤ xs.length∧xs.take k=ys.take k:=hyp
 refine len ?_
 refine dV (fun hb=> ?_) (fun hb=> ?_)
 have hk:k < xs.length:=by simpa using hb
 obtain ⟨x,hx⟩:=dO (xs:=xs) (k:=k) hk
 obtain ⟨y,hy⟩:=dO (xs:=ys) (k:=k) (by omega)
 refine o_ ?_
 refine dM hx ?_
 refine dM hy ?_
 refine iL (Js x y).k ?_
 refine dV (fun hb=> ?_) (fun hb=> ?_)
 refine bq _ _ _ ?_
 exact ay (by simp at *;exact pe hx hy hb)
 refine cg ?_
 refine bq _ _ _ ?_
 refine ur [] (k + 1) (⟨by omega,mB hyp.2 hx (by simp at hb;rw [hb];exact hy)⟩)
 refine bq _ _ _ ?_
 exact ay (by simp at *;exact ph hl hyp.2 hb)
theorem Mn (x y:aV):aF Tryz.prog 234 [A (vv x),A (vv y)] (RV (.bool (decide (x=y)))):=by
 refine aF.w 56 Tryz.func234 fun w g0 _=> ?_
 refine ah (oB x.ak y.ak).k ?_
 refine dV (fun hb=> ?_) (fun hb=> ?_)
 exact ay (by cases x;cases y;simp_all)
 refine ah (xY x.Out y.Out).k ?_
 refine dV (fun hb=> ?_) (fun hb=> ?_)
 exact ay (by cases x;cases y;simp_all)
 refine ah (xZ x.bI y.bI).k ?_
 refine dV (fun hb=> ?_) (fun hb=> ?_)
 exact ay (by cases x;cases y;simp_all)
 refine ah (Ey x.aa y.aa).k ?_
 refine dV (fun hb=> ?_) (fun hb=> ?_)
 exact ay (by cases x;cases y;simp_all)
 refine ah (uh x.cm y.cm).k ?_
 refine dV (fun hb=> ?_) (fun hb=> ?_)
 exact ay (by cases x;cases y;simp_all)
 refine dV (fun hb=> ?_) (fun hb=> ?_)
 exact ay (by cases x;cases y;simp_all)
 refine dV (fun hb=> ?_) (fun hb=> ?_)
 exact ay (by cases x;cases y;simp_all)
 refine ah (Hv x.Tables y.Tables).k ?_
 refine dV (fun hb=> ?_) (fun hb=> ?_)
 exact ay (by cases x;cases y;simp_all)
 refine dV (fun hb=> ?_) (fun hb=> ?_)
 exact ay (by cases x;cases y;simp_all)
 exact ay (by cases x;cases y;simp_all)
theorem Jt (xs ys:List aV):aF Tryz.prog 133 [L 9 (xs.map bA),L 9 (ys.map bA)] (RV (.bool (decide (xs=ys)))):=by
 refine aF.w 27 Tryz.func133 fun w g0 hM=> ?_
 have hm0:=hM.1.map
 refine len ?_
 refine len ?_
 refine dV (fun hb=> ?_) (fun hb=> ?_)
 exact ay (by simp at *;intro e;subst e;simp at hb)
 have hl:xs.length=ys.length:=by simp at hb;omega
 refine fw [] [] [] (fun (k:Nat)=>[.set 0 (L 9 (xs.map bA)), .set 1 (L 9 (ys.map bA)), .set 5 (I k)]) (fun (k:Nat)=>[]) (fun (k:Nat)=>k ≤ xs.length∧xs.take k=ys.take k) (fun (k:Nat)=>xs.length - k) (0) (by simp) ?_
 refine ⟨uu,fun k hyp N1 bq=> ?_⟩
 have hyp:k ≤ xs.length∧xs.take k=ys.take k:=hyp
 refine len ?_
 refine dV (fun hb=> ?_) (fun hb=> ?_)
 have hk:k < xs.length:=by simpa using hb
 obtain ⟨x,hx⟩:=dO (xs:=xs) (k:=k) hk
 obtain ⟨y,hy⟩:=dO (xs:=ys) (k:=k) (by omega)
 refine o_ ?_
 refine dM hx ?_
 refine dM hy ?_
 refine iL (Mn x y).k ?_
 refine dV (fun hb=> ?_) (fun hb=> ?_)
 refine bq _ _ _ ?_
 exact ay (by simp at *;exact pe hx hy hb)
 refine cg ?_
 refine bq _ _ _ ?_
 refine ur [] (k + 1) (⟨by omega,mB hyp.2 hx (by simp at hb;rw [hb];exact hy)⟩)
 refine bq _ _ _ ?_
 exact ay (by simp at *;exact ph hl hyp.2 hb)
theorem Hw (x y:bP):aF Tryz.prog 235 [A (tW x),A (tW y)] (RV (.bool (decide (x=y)))):=by
 refine aF.w 25 Tryz.func235 fun w g0 _=> ?_
 refine dV (fun hb=> ?_) (fun hb=> ?_)
 exact ay (by cases x;cases y;simp_all)
 refine dV (fun hb=> ?_) (fun hb=> ?_)
 exact ay (by cases x;cases y;simp_all)
 refine dV (fun hb=> ?_) (fun hb=> ?_)
 exact ay (by cases x;cases y;simp_all)
 refine dV (fun hb=> ?_) (fun hb=> ?_)
 exact ay (by cases x;cases y;simp_all)
 exact ay (by cases x;cases y;simp_all)
theorem wD (xs ys:List bP):aF Tryz.prog 134 [L 4 (xs.map aC),L 4 (ys.map aC)] (RV (.bool (decide (xs=ys)))):=by
 refine aF.w 27 Tryz.func134 fun w g0 hM=> ?_
 have hm0:=hM.1.map
 refine len ?_
 refine len ?_
 refine dV (fun hb=> ?_) (fun hb=> ?_)
 exact ay (by simp at *;intro e;subst e;simp at hb)
 have hl:xs.length=ys.length:=by simp at hb;omega
 refine fw [] [] [] (fun (k:Nat)=>[.set 0 (L 4 (xs.map aC)), .set 1 (L 4 (ys.map aC)), .set 5 (I k)]) (fun (k:Nat)=>[]) (fun (k:Nat)=>k ≤ xs.length∧xs.take k=ys.take k) (fun (k:Nat)=>xs.length - k) (0) (by simp) ?_
 refine ⟨uu,fun k hyp N1 bq=> ?_⟩
 have hyp:k ≤ xs.length∧xs.take k=ys.take k:=hyp
 refine len ?_
 refine dV (fun hb=> ?_) (fun hb=> ?_)
 have hk:k < xs.length:=by simpa using hb
 obtain ⟨x,hx⟩:=dO (xs:=xs) (k:=k) hk
 obtain ⟨y,hy⟩:=dO (xs:=ys) (k:=k) (by omega)
 refine o_ ?_
 refine dM hx ?_
 refine dM hy ?_
 refine iL (Hw x y).k ?_
 refine dV (fun hb=> ?_) (fun hb=> ?_)
 refine bq _ _ _ ?_
 exact ay (by simp at *;exact pe hx hy hb)
 refine cg ?_
 refine bq _ _ _ ?_
 refine ur [] (k + 1) (⟨by omega,mB hyp.2 hx (by simp at hb;rw [hb];exact hy)⟩)
 refine bq _ _ _ ?_
 exact ay (by simp at *;exact ph hl hyp.2 hb)
theorem uj (x y:ap):aF Tryz.prog 48 [A (aq x),A (aq y)] (RV (.bool (decide (x=y)))):=by
 refine aF.w 29 Tryz.func48 fun w g0 _=> ?_
 refine ah (xY x.au y.au).k ?_
 refine dV (fun hb=> ?_) (fun hb=> ?_)
 exact ay (by cases x;cases y;simp_all)
 refine ah (Jt x.ai y.ai).k ?_
 refine dV (fun hb=> ?_) (fun hb=> ?_)
 exact ay (by cases x;cases y;simp_all)
 refine ah (wD x.Buffer y.Buffer).k ?_
 refine dV (fun hb=> ?_) (fun hb=> ?_)
 exact ay (by cases x;cases y;simp_all)
 refine ah (wD x.aD y.aD).k ?_
 refine dV (fun hb=> ?_) (fun hb=> ?_)
 exact ay (by cases x;cases y;simp_all)
 exact ay (by cases x;cases y;simp_all)
theorem Ju (x y:jE):aF Tryz.prog 145 [A (GF x),A (GF y)] (RV (.bool (decide (x=y)))):=by
 refine aF.w 15 Tryz.func145 fun w g0 _=> ?_
 refine dV (fun hb=> ?_) (fun hb=> ?_)
 exact ay (by cases x;cases y;simp_all)
 refine dV (fun hb=> ?_) (fun hb=> ?_)
 exact ay (by cases x;cases y;simp_all)
 exact ay (by cases x;cases y;simp_all)
theorem sN (xs ys:List jE):aF Tryz.prog 57 [L 2 (xs.map gU),L 2 (ys.map gU)] (RV (.bool (decide (xs=ys)))):=by
 refine aF.w 27 Tryz.func57 fun w g0 hM=> ?_
 have hm0:=hM.1.map
 refine len ?_
 refine len ?_
 refine dV (fun hb=> ?_) (fun hb=> ?_)
 exact ay (by simp at *;intro e;subst e;simp at hb)
 have hl:xs.length=ys.length:=by simp at hb;omega
 refine fw [] [] [] (fun (k:Nat)=>[.set 0 (L 2 (xs.map gU)), .set 1 (L 2 (ys.map gU)), .set 5 (I k)]) (fun (k:Nat)=>[]) (fun (k:Nat)=>k ≤ xs.length∧xs.take k=ys.take k) (fun (k:Nat)=>xs.length - k) (0) (by simp) ?_
 refine ⟨uu,fun k hyp N1 bq=> ?_⟩
 have hyp:k ≤ xs.length∧xs.take k=ys.take k:=hyp
 refine len ?_
 refine dV (fun hb=> ?_) (fun hb=> ?_)
 have hk:k < xs.length:=by simpa using hb
 obtain ⟨x,hx⟩:=dO (xs:=xs) (k:=k) hk
 obtain ⟨y,hy⟩:=dO (xs:=ys) (k:=k) (by omega)
 refine o_ ?_
 refine dM hx ?_
 refine dM hy ?_
 refine iL (Ju x y).k ?_
 refine dV (fun hb=> ?_) (fun hb=> ?_)
 refine bq _ _ _ ?_
 exact ay (by simp at *;exact pe hx hy hb)
 refine cg ?_
 refine bq _ _ _ ?_
 refine ur [] (k + 1) (⟨by omega,mB hyp.2 hx (by simp at hb;rw [hb];exact hy)⟩)
 refine bq _ _ _ ?_
 exact ay (by simp at *;exact ph hl hyp.2 hb)
theorem Mo (x y:dF):aF Tryz.prog 135 [A (CY x),A (CY y)] (RV (.bool (decide (x=y)))):=by
 refine aF.w 35 Tryz.func135 fun w g0 _=> ?_
 refine dV (fun hb=> ?_) (fun hb=> ?_)
 exact ay (by cases x;cases y;simp_all)
 refine dV (fun hb=> ?_) (fun hb=> ?_)
 exact ay (by cases x;cases y;simp_all)
 refine dV (fun hb=> ?_) (fun hb=> ?_)
 exact ay (by cases x;cases y;simp_all)
 refine dV (fun hb=> ?_) (fun hb=> ?_)
 exact ay (by cases x;cases y;simp_all)
 refine dV (fun hb=> ?_) (fun hb=> ?_)
 exact ay (by cases x;cases y;simp_all)
 refine dV (fun hb=> ?_) (fun hb=> ?_)
 exact ay (by cases x;cases y;simp_all)
 exact ay (by cases x;cases y;simp_all)
theorem Jv (xs ys:List dF):aF Tryz.prog 49 [L 6 (xs.map gO),L 6 (ys.map gO)] (RV (.bool (decide (xs=ys)))):=by
 refine aF.w 27 Tryz.func49 fun w g0 hM=> ?_
 have hm0:=hM.1.map
 refine len ?_
 refine len ?_
 refine dV (fun hb=> ?_) (fun hb=> ?_)
 exact ay (by simp at *;intro e;subst e;simp at hb)
 have hl:xs.length=ys.length:=by simp at hb;omega
 refine fw [] [] [] (fun (k:Nat)=>[.set 0 (L 6 (xs.map gO)), .set 1 (L 6 (ys.map gO)), .set 5 (I k)]) (fun (k:Nat)=>[]) (fun (k:Nat)=>k ≤ xs.length∧xs.take k=ys.take k) (fun (k:Nat)=>xs.length - k) (0) (by simp) ?_
 refine ⟨uu,fun k hyp N1 bq=> ?_⟩
 have hyp:k ≤ xs.length∧xs.take k=ys.take k:=hyp
 refine len ?_
 refine dV (fun hb=> ?_) (fun hb=> ?_)
 have hk:k < xs.length:=by simpa using hb
 obtain ⟨x,hx⟩:=dO (xs:=xs) (k:=k) hk
 obtain ⟨y,hy⟩:=dO (xs:=ys) (k:=k) (by omega)
 refine o_ ?_
 refine dM hx ?_
 refine dM hy ?_
 refine iL (Mo x y).k ?_
 refine dV (fun hb=> ?_) (fun hb=> ?_)
 refine bq _ _ _ ?_
 exact ay (by simp at *;exact pe hx hy hb)
 refine cg ?_
 refine bq _ _ _ ?_
 refine ur [] (k + 1) (⟨by omega,mB hyp.2 hx (by simp at hb;rw [hb];exact hy)⟩)
 refine bq _ _ _ ?_
 exact ay (by simp at *;exact ph hl hyp.2 hb)
theorem Hx (xs ys:List (List bZ)):aF Tryz.prog 146 [L 1 (xs.map h_),L 1 (ys.map h_)] (RV (.bool (decide (xs=ys)))):=by
 refine aF.w 27 Tryz.func146 fun w g0 hM=> ?_
 have hm0:=hM.1.map
 refine len ?_
 refine len ?_
 refine dV (fun hb=> ?_) (fun hb=> ?_)
 exact ay (by simp at *;intro e;subst e;simp at hb)
 have hl:xs.length=ys.length:=by simp at hb;omega
 refine fw [] [] [] (fun (k:Nat)=>[.set 0 (L 1 (xs.map h_)), .set 1 (L 1 (ys.map h_)), .set 5 (I k)]) (fun (k:Nat)=>[]) (fun (k:Nat)=>k ≤ xs.length∧xs.take k=ys.take k) (fun (k:Nat)=>xs.length - k) (0) (by simp) ?_
 refine ⟨uu,fun k hyp N1 bq=> ?_⟩
 have hyp:k ≤ xs.length∧xs.take k=ys.take k:=hyp
 refine len ?_
 refine dV (fun hb=> ?_) (fun hb=> ?_)
 have hk:k < xs.length:=by simpa using hb
 obtain ⟨x,hx⟩:=dO (xs:=xs) (k:=k) hk
 obtain ⟨y,hy⟩:=dO (xs:=ys) (k:=k) (by omega)
 refine o_ ?_
 refine dM hx ?_
 refine dM hy ?_
 refine iL (Ad x y).k ?_
 refine dV (fun hb=> ?_) (fun hb=> ?_)
 refine bq _ _ _ ?_
 exact ay (by simp at *;exact pe hx hy hb)
 refine cg ?_
 refine bq _ _ _ ?_
 refine ur [] (k + 1) (⟨by omega,mB hyp.2 hx (by simp at hb;rw [hb];exact hy)⟩)
 refine bq _ _ _ ?_
 exact ay (by simp at *;exact ph hl hyp.2 hb)
theorem Ez (xs ys:List (List (List bZ))):aF Tryz.prog 58 [L 1 (xs.map de),L 1 (ys.map de)] (RV (.bool (decide (xs=ys)))):=by
 refine aF.w 27 Tryz.func58 fun w g0 hM=> ?_
 have hm0:=hM.1.map
 refine len ?_
 refine len ?_
 refine dV (fun hb=> ?_) (fun hb=> ?_)
 exact ay (by simp at *;intro e;subst e;simp at hb)
 have hl:xs.length=ys.length:=by simp at hb;omega
 refine fw [] [] [] (fun (k:Nat)=>[.set 0 (L 1 (xs.map de)), .set 1 (L 1 (ys.map de)), .set 5 (I k)]) (fun (k:Nat)=>[]) (fun (k:Nat)=>k ≤ xs.length∧xs.take k=ys.take k) (fun (k:Nat)=>xs.length - k) (0) (by simp) ?_
 refine ⟨uu,fun k hyp N1 bq=> ?_⟩
 have hyp:k ≤ xs.length∧xs.take k=ys.take k:=hyp
 refine len ?_
 refine dV (fun hb=> ?_) (fun hb=> ?_)
 have hk:k < xs.length:=by simpa using hb
 obtain ⟨x,hx⟩:=dO (xs:=xs) (k:=k) hk
 obtain ⟨y,hy⟩:=dO (xs:=ys) (k:=k) (by omega)
 refine o_ ?_
 refine dM hx ?_
 refine dM hy ?_
 refine iL (Hx x y).k ?_
 refine dV (fun hb=> ?_) (fun hb=> ?_)
 refine bq _ _ _ ?_
 exact ay (by simp at *;exact pe hx hy hb)
 refine cg ?_
 refine bq _ _ _ ?_
 refine ur [] (k + 1) (⟨by omega,mB hyp.2 hx (by simp at hb;rw [hb];exact hy)⟩)
 refine bq _ _ _ ?_
 exact ay (by simp at *;exact ph hl hyp.2 hb)
end Go.Proofs.YtdliggkohdnipaaGreat.T
