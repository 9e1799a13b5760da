import Derived.Test.YtdliggkohdnipaaGreatHqr
set_option linter.unusedVariables false
set_option linter.unusedSimpArgs false
namespace Go.Proofs.YtdliggkohdnipaaGreat.T
open Go
set_option maxRecDepth 100000
set_option maxHeartbeats 1000000
theorem sC (xs:List Int) (n:Int) (h1:0 ≤ n) (h2:n ≤ 1048576):aF Tryz.prog 211 [L 1 (xs.map bH),I n] (RV (.int .i64 (iv xs n))):=by
 refine aF.w 12 Tryz.func211 fun w g0 hM=> ?_
 have hm0:=hM.1.map
 refine len ?_
 refine cD ?_
 refine eJ (fun hb=> ?_) (fun hb=> ?_)
 exact ay (by simp at hb;unfold iv;rw [if_pos (by omega)])
 exact ay (by simp at hb;unfold iv;rw [if_neg (by omega)])
theorem vR (xs:List (List Int)) (n:Int) (h1:0 ≤ n) (h2:n ≤ 1048576):aF Tryz.prog 120 [L 1 (xs.map aN),I n] (RV (.int .i64 (bP xs n))):=by
 refine aF.w 27 Tryz.func120 fun w g0 hM=> ?_
 have hm0:=hM.1.map
 refine len ?_
 refine cD ?_
 refine eJ (fun hb=> ?_) (fun hb=> ?_)
 exact ay (by simp at hb;unfold bP;rw [if_pos (by omega)])
 refine gA [] [] [] (fun ((k,m):Nat×Int)=>[.set 0 (L 1 (xs.map aN)), .set 1 (I m), .set 5 (I k)]) (fun ((k,m):Nat×Int)=>[]) (fun ((k,m):Nat×Int)=>k ≤ xs.length∧0 ≤ m∧m ≤ n∧bP xs n=iu iv (xs.drop k) m) (fun ((k,m):Nat×Int)=>xs.length - k) (0,n - xs.length) ((by simp at hb;refine ⟨by omega,by omega,by omega, ?_⟩;unfold bP;rw [if_neg (by omega),List.drop_zero])) ?_
 refine ⟨vv,fun ⟨k,m⟩ hyp N1 bw=> ?_⟩
 have hyp:k ≤ xs.length∧0 ≤ m∧m ≤ n∧bP xs n=iu iv (xs.drop k) m:=hyp
 refine len ?_
 refine eJ (fun hb=> ?_) (fun hb=> ?_)
 have hk:k < xs.length:=by simpa using hb
 obtain ⟨x,hx⟩:=ev (xs:=xs) (k:=k) hk
 have hs:=rH (f:=iv) hx m
 refine fN hx ?_
 refine ah (sC x m hyp.2.1 (by omega)).k ?_
 have hz:=(s3 x m)
 refine eJ (fun hb=> ?_) (fun hb=> ?_)
 refine bw _ _ _ ?_
 exact ay (by simp at hb;rw [hyp.2.2.2,hs,if_pos hb])
 refine cD ?_
 refine bw _ _ _ ?_
 refine vu [] (k + 1,iv x m) (by (simp at hb;have hz:=hz (by omega);refine ⟨by omega,by omega,by omega, ?_⟩;rw [hyp.2.2.2,hs,if_neg (by omega)]))
 refine bw _ _ _ ?_
 exact ay (by simp at hb;rw [hyp.2.2.2,List.drop_eq_nil_of_le hb];rfl)
theorem ni (xs:List aL) (n:Int) (h1:0 ≤ n) (h2:n ≤ 1048576):aF Tryz.prog 325 [L 2 (xs.map aQ),I n] (RV (.int .i64 (bE xs n))):=by
 refine aF.w 12 Tryz.func325 fun w g0 hM=> ?_
 have hm0:=hM.1.map
 refine len ?_
 refine cD ?_
 refine eJ (fun hb=> ?_) (fun hb=> ?_)
 exact ay (by simp at hb;unfold bE;rw [if_pos (by omega)])
 exact ay (by simp at hb;unfold bE;rw [if_neg (by omega)])
theorem vS (xs:List Bool) (n:Int) (h1:0 ≤ n) (h2:n ≤ 1048576):aF Tryz.prog 326 [L 1 (xs.map bz),I n] (RV (.int .i64 (dF xs n))):=by
 refine aF.w 12 Tryz.func326 fun w g0 hM=> ?_
 have hm0:=hM.1.map
 refine len ?_
 refine cD ?_
 refine eJ (fun hb=> ?_) (fun hb=> ?_)
 exact ay (by simp at hb;unfold dF;rw [if_pos (by omega)])
 exact ay (by simp at hb;unfold dF;rw [if_neg (by omega)])
theorem HE (xs:List iK) (n:Int) (h1:0 ≤ n) (h2:n ≤ 1048576):aF Tryz.prog 240 [L 2 (xs.map jt),I n] (RV (.int .i64 (f_ xs n))):=by
 refine aF.w 12 Tryz.func240 fun w g0 hM=> ?_
 have hm0:=hM.1.map
 refine len ?_
 refine cD ?_
 refine eJ (fun hb=> ?_) (fun hb=> ?_)
 exact ay (by simp at hb;unfold f_;rw [if_pos (by omega)])
 exact ay (by simp at hb;unfold f_;rw [if_neg (by omega)])
theorem FH (x:av) (n:Int) (h1:0 ≤ n) (h2:n ≤ 1048576):aF Tryz.prog 425 [A (bB x),I n] (RV (.int .i64 (iT x n))):=by
 refine aF.w 30 Tryz.func425 fun w g0 _=> ?_
 refine ah (HE x.Prog (n) (by (try simp at *);omega) (by (try simp at *);omega)).k ?_
 refine eJ (fun hb=> ?_) (fun hb=> ?_)
 exact ay (by simp at *;simp [iT,eC, *];try omega)
 refine ah (ni x.Written (f_ x.Prog (n)) (by (try simp at *);have e0:=p8 x.Prog (n) (by omega);omega) (by (try simp at *);have e0:=p8 x.Prog (n) (by omega);omega)).k ?_
 refine eJ (fun hb=> ?_) (fun hb=> ?_)
 exact ay (by simp at *;simp [iT,eC, *];try omega)
 refine ah (ni x.Live (bE x.Written (f_ x.Prog (n))) (by (try simp at *);have e0:=p8 x.Prog (n) (by omega);have e1:=eD x.Written (f_ x.Prog (n)) (by omega);omega) (by (try simp at *);have e0:=p8 x.Prog (n) (by omega);have e1:=eD x.Written (f_ x.Prog (n)) (by omega);omega)).k ?_
 refine eJ (fun hb=> ?_) (fun hb=> ?_)
 exact ay (by simp at *;simp [iT,eC, *];try omega)
 refine ah (sC x.Seen (bE x.Live (bE x.Written (f_ x.Prog (n)))) (by (try simp at *);have e0:=p8 x.Prog (n) (by omega);have e1:=eD x.Written (f_ x.Prog (n)) (by omega);have e2:=eD x.Live (bE x.Written (f_ x.Prog (n))) (by omega);omega) (by (try simp at *);have e0:=p8 x.Prog (n) (by omega);have e1:=eD x.Written (f_ x.Prog (n)) (by omega);have e2:=eD x.Live (bE x.Written (f_ x.Prog (n))) (by omega);omega)).k ?_
 refine eJ (fun hb=> ?_) (fun hb=> ?_)
 exact ay (by simp at *;simp [iT,eC, *];try omega)
 exact ay (by simp at *;simp [iT,eC, *];try omega)
theorem C8 (xs:List av) (n:Int) (h1:0 ≤ n) (h2:n ≤ 1048576):aF Tryz.prog 327 [L 15 (xs.map aY),I n] (RV (.int .i64 (ew xs n))):=by
 refine aF.w 27 Tryz.func327 fun w g0 hM=> ?_
 have hm0:=hM.1.map
 refine len ?_
 refine cD ?_
 refine eJ (fun hb=> ?_) (fun hb=> ?_)
 exact ay (by simp at hb;unfold ew;rw [if_pos (by omega)])
 refine gA [] [] [] (fun ((k,m):Nat×Int)=>[.set 0 (L 15 (xs.map aY)), .set 1 (I m), .set 5 (I k)]) (fun ((k,m):Nat×Int)=>[]) (fun ((k,m):Nat×Int)=>k ≤ xs.length∧0 ≤ m∧m ≤ n∧ew xs n=iu iT (xs.drop k) m) (fun ((k,m):Nat×Int)=>xs.length - k) (0,n - xs.length) ((by simp at hb;refine ⟨by omega,by omega,by omega, ?_⟩;unfold ew;rw [if_neg (by omega),List.drop_zero])) ?_
 refine ⟨vv,fun ⟨k,m⟩ hyp N1 bw=> ?_⟩
 have hyp:k ≤ xs.length∧0 ≤ m∧m ≤ n∧ew xs n=iu iT (xs.drop k) m:=hyp
 refine len ?_
 refine eJ (fun hb=> ?_) (fun hb=> ?_)
 have hk:k < xs.length:=by simpa using hb
 obtain ⟨x,hx⟩:=ev (xs:=xs) (k:=k) hk
 have hs:=rH (f:=iT) hx m
 refine fN hx ?_
 refine ah (FH x m hyp.2.1 (by omega)).k ?_
 have hz:=(E4 x m)
 refine eJ (fun hb=> ?_) (fun hb=> ?_)
 refine bw _ _ _ ?_
 exact ay (by simp at hb;rw [hyp.2.2.2,hs,if_pos hb])
 refine cD ?_
 refine bw _ _ _ ?_
 refine vu [] (k + 1,iT x m) (by (simp at hb;have hz:=hz (by omega);refine ⟨by omega,by omega,by omega, ?_⟩;rw [hyp.2.2.2,hs,if_neg (by omega)]))
 refine bw _ _ _ ?_
 exact ay (by simp at hb;rw [hyp.2.2.2,List.drop_eq_nil_of_le hb];rfl)
theorem HF (x:bQ) (n:Int) (h1:0 ≤ n) (h2:n ≤ 1048576):aF Tryz.prog 426 [A (fU x),I n] (RV (.int .i64 (mB x n))):=by
 refine aF.w 18 Tryz.func426 fun w g0 _=> ?_
 refine ah (vS x.bY (n) (by (try simp at *);omega) (by (try simp at *);omega)).k ?_
 refine eJ (fun hb=> ?_) (fun hb=> ?_)
 exact ay (by simp at *;simp [mB,eC, *];try omega)
 refine ah (ni x.c8 (dF x.bY (n)) (by (try simp at *);have e0:=kG x.bY (n) (by omega);omega) (by (try simp at *);have e0:=kG x.bY (n) (by omega);omega)).k ?_
 refine eJ (fun hb=> ?_) (fun hb=> ?_)
 exact ay (by simp at *;simp [mB,eC, *];try omega)
 exact ay (by simp at *;simp [mB,eC, *];try omega)
theorem FI (xs:List bQ) (n:Int) (h1:0 ≤ n) (h2:n ≤ 1048576):aF Tryz.prog 328 [L 2 (xs.map bS),I n] (RV (.int .i64 (l8 xs n))):=by
 refine aF.w 27 Tryz.func328 fun w g0 hM=> ?_
 have hm0:=hM.1.map
 refine len ?_
 refine cD ?_
 refine eJ (fun hb=> ?_) (fun hb=> ?_)
 exact ay (by simp at hb;unfold l8;rw [if_pos (by omega)])
 refine gA [] [] [] (fun ((k,m):Nat×Int)=>[.set 0 (L 2 (xs.map bS)), .set 1 (I m), .set 5 (I k)]) (fun ((k,m):Nat×Int)=>[]) (fun ((k,m):Nat×Int)=>k ≤ xs.length∧0 ≤ m∧m ≤ n∧l8 xs n=iu mB (xs.drop k) m) (fun ((k,m):Nat×Int)=>xs.length - k) (0,n - xs.length) ((by simp at hb;refine ⟨by omega,by omega,by omega, ?_⟩;unfold l8;rw [if_neg (by omega),List.drop_zero])) ?_
 refine ⟨vv,fun ⟨k,m⟩ hyp N1 bw=> ?_⟩
 have hyp:k ≤ xs.length∧0 ≤ m∧m ≤ n∧l8 xs n=iu mB (xs.drop k) m:=hyp
 refine len ?_
 refine eJ (fun hb=> ?_) (fun hb=> ?_)
 have hk:k < xs.length:=by simpa using hb
 obtain ⟨x,hx⟩:=ev (xs:=xs) (k:=k) hk
 have hs:=rH (f:=mB) hx m
 refine fN hx ?_
 refine ah (HF x m hyp.2.1 (by omega)).k ?_
 have hz:=(IY x m)
 refine eJ (fun hb=> ?_) (fun hb=> ?_)
 refine bw _ _ _ ?_
 exact ay (by simp at hb;rw [hyp.2.2.2,hs,if_pos hb])
 refine cD ?_
 refine bw _ _ _ ?_
 refine vu [] (k + 1,mB x m) (by (simp at hb;have hz:=hz (by omega);refine ⟨by omega,by omega,by omega, ?_⟩;rw [hyp.2.2.2,hs,if_neg (by omega)]))
 refine bw _ _ _ ?_
 exact ay (by simp at hb;rw [hyp.2.2.2,List.drop_eq_nil_of_le hb];rfl)
theorem KI (x:aO) (n:Int) (h1:0 ≤ n) (h2:n ≤ 1048576):aF Tryz.prog 212 [A (va x),I n] (RV (.int .i64 (m5 x n))):=by
 refine aF.w 42 Tryz.func212 fun w g0 _=> ?_
 refine ah (ni x.ai (n) (by (try simp at *);omega) (by (try simp at *);omega)).k ?_
 refine eJ (fun hb=> ?_) (fun hb=> ?_)
 exact ay (by simp at *;simp [m5,eC, *];try omega)
 refine ah (vR x.Out (bE x.ai (n)) (by (try simp at *);have e0:=eD x.ai (n) (by omega);omega) (by (try simp at *);have e0:=eD x.ai (n) (by omega);omega)).k ?_
 refine eJ (fun hb=> ?_) (fun hb=> ?_)
 exact ay (by simp at *;simp [m5,eC, *];try omega)
 refine ah (vS x.a_ (bP x.Out (bE x.ai (n))) (by (try simp at *);have e0:=eD x.ai (n) (by omega);have e1:=fw x.Out (bE x.ai (n)) (by omega);omega) (by (try simp at *);have e0:=eD x.ai (n) (by omega);have e1:=fw x.Out (bE x.ai (n)) (by omega);omega)).k ?_
 refine eJ (fun hb=> ?_) (fun hb=> ?_)
 exact ay (by simp at *;simp [m5,eC, *];try omega)
 refine ah (C8 x.aa (dF x.a_ (bP x.Out (bE x.ai (n)))) (by (try simp at *);have e0:=eD x.ai (n) (by omega);have e1:=fw x.Out (bE x.ai (n)) (by omega);have e2:=kG x.a_ (bP x.Out (bE x.ai (n))) (by omega);omega) (by (try simp at *);have e0:=eD x.ai (n) (by omega);have e1:=fw x.Out (bE x.ai (n)) (by omega);have e2:=kG x.a_ (bP x.Out (bE x.ai (n))) (by omega);omega)).k ?_
 refine eJ (fun hb=> ?_) (fun hb=> ?_)
 exact ay (by simp at *;simp [m5,eC, *];try omega)
 refine ah (sC x.bX (ew x.aa (dF x.a_ (bP x.Out (bE x.ai (n))))) (by (try simp at *);have e0:=eD x.ai (n) (by omega);have e1:=fw x.Out (bE x.ai (n)) (by omega);have e2:=kG x.a_ (bP x.Out (bE x.ai (n))) (by omega);have e3:=rJ x.aa (dF x.a_ (bP x.Out (bE x.ai (n)))) (by omega);omega) (by (try simp at *);have e0:=eD x.ai (n) (by omega);have e1:=fw x.Out (bE x.ai (n)) (by omega);have e2:=kG x.a_ (bP x.Out (bE x.ai (n))) (by omega);have e3:=rJ x.aa (dF x.a_ (bP x.Out (bE x.ai (n)))) (by omega);omega)).k ?_
 refine eJ (fun hb=> ?_) (fun hb=> ?_)
 exact ay (by simp at *;simp [m5,eC, *];try omega)
 refine ah (FI x.Tables (iv x.bX (ew x.aa (dF x.a_ (bP x.Out (bE x.ai (n)))))) (by (try simp at *);have e0:=eD x.ai (n) (by omega);have e1:=fw x.Out (bE x.ai (n)) (by omega);have e2:=kG x.a_ (bP x.Out (bE x.ai (n))) (by omega);have e3:=rJ x.aa (dF x.a_ (bP x.Out (bE x.ai (n)))) (by omega);have e4:=I2 x.bX (ew x.aa (dF x.a_ (bP x.Out (bE x.ai (n))))) (by omega);omega) (by (try simp at *);have e0:=eD x.ai (n) (by omega);have e1:=fw x.Out (bE x.ai (n)) (by omega);have e2:=kG x.a_ (bP x.Out (bE x.ai (n))) (by omega);have e3:=rJ x.aa (dF x.a_ (bP x.Out (bE x.ai (n)))) (by omega);have e4:=I2 x.bX (ew x.aa (dF x.a_ (bP x.Out (bE x.ai (n))))) (by omega);omega)).k ?_
 refine eJ (fun hb=> ?_) (fun hb=> ?_)
 exact ay (by simp at *;simp [m5,eC, *];try omega)
 exact ay (by simp at *;simp [m5,eC, *];try omega)
theorem HG (xs:List aO) (n:Int) (h1:0 ≤ n) (h2:n ≤ 1048576):aF Tryz.prog 121 [L 9 (xs.map bh),I n] (RV (.int .i64 (iL xs n))):=by
 refine aF.w 27 Tryz.func121 fun w g0 hM=> ?_
 have hm0:=hM.1.map
 refine len ?_
 refine cD ?_
 refine eJ (fun hb=> ?_) (fun hb=> ?_)
 exact ay (by simp at hb;unfold iL;rw [if_pos (by omega)])
 refine gA [] [] [] (fun ((k,m):Nat×Int)=>[.set 0 (L 9 (xs.map bh)), .set 1 (I m), .set 5 (I k)]) (fun ((k,m):Nat×Int)=>[]) (fun ((k,m):Nat×Int)=>k ≤ xs.length∧0 ≤ m∧m ≤ n∧iL xs n=iu m5 (xs.drop k) m) (fun ((k,m):Nat×Int)=>xs.length - k) (0,n - xs.length) ((by simp at hb;refine ⟨by omega,by omega,by omega, ?_⟩;unfold iL;rw [if_neg (by omega),List.drop_zero])) ?_
 refine ⟨vv,fun ⟨k,m⟩ hyp N1 bw=> ?_⟩
 have hyp:k ≤ xs.length∧0 ≤ m∧m ≤ n∧iL xs n=iu m5 (xs.drop k) m:=hyp
 refine len ?_
 refine eJ (fun hb=> ?_) (fun hb=> ?_)
 have hk:k < xs.length:=by simpa using hb
 obtain ⟨x,hx⟩:=ev (xs:=xs) (k:=k) hk
 have hs:=rH (f:=m5) hx m
 refine fN hx ?_
 refine ah (KI x m hyp.2.1 (by omega)).k ?_
 have hz:=(MF x m)
 refine eJ (fun hb=> ?_) (fun hb=> ?_)
 refine bw _ _ _ ?_
 exact ay (by simp at hb;rw [hyp.2.2.2,hs,if_pos hb])
 refine cD ?_
 refine bw _ _ _ ?_
 refine vu [] (k + 1,m5 x m) (by (simp at hb;have hz:=hz (by omega);refine ⟨by omega,by omega,by omega, ?_⟩;rw [hyp.2.2.2,hs,if_neg (by omega)]))
 refine bw _ _ _ ?_
 exact ay (by simp at hb;rw [hyp.2.2.2,List.drop_eq_nil_of_le hb];rfl)
theorem uO (xs:List bt) (n:Int) (h1:0 ≤ n) (h2:n ≤ 1048576):aF Tryz.prog 122 [L 4 (xs.map aA),I n] (RV (.int .i64 (gW xs n))):=by
 refine aF.w 12 Tryz.func122 fun w g0 hM=> ?_
 have hm0:=hM.1.map
 refine len ?_
 refine cD ?_
 refine eJ (fun hb=> ?_) (fun hb=> ?_)
 exact ay (by simp at hb;unfold gW;rw [if_pos (by omega)])
 exact ay (by simp at hb;unfold gW;rw [if_neg (by omega)])
theorem HH (x:an) (n:Int) (h1:0 ≤ n) (h2:n ≤ 1048576):aF Tryz.prog 41 [A (aq x),I n] (RV (.int .i64 (mC x n))):=by
 refine aF.w 30 Tryz.func41 fun w g0 _=> ?_
 refine ah (vR x.au (n) (by (try simp at *);omega) (by (try simp at *);omega)).k ?_
 refine eJ (fun hb=> ?_) (fun hb=> ?_)
 exact ay (by simp at *;simp [mC,eC, *];try omega)
 refine ah (HG x.ap (bP x.au (n)) (by (try simp at *);have e0:=fw x.au (n) (by omega);omega) (by (try simp at *);have e0:=fw x.au (n) (by omega);omega)).k ?_
 refine eJ (fun hb=> ?_) (fun hb=> ?_)
 exact ay (by simp at *;simp [mC,eC, *];try omega)
 refine ah (uO x.Buffer (iL x.ap (bP x.au (n))) (by (try simp at *);have e0:=fw x.au (n) (by omega);have e1:=xa x.ap (bP x.au (n)) (by omega);omega) (by (try simp at *);have e0:=fw x.au (n) (by omega);have e1:=xa x.ap (bP x.au (n)) (by omega);omega)).k ?_
 refine eJ (fun hb=> ?_) (fun hb=> ?_)
 exact ay (by simp at *;simp [mC,eC, *];try omega)
 refine ah (uO x.aC (gW x.Buffer (iL x.ap (bP x.au (n)))) (by (try simp at *);have e0:=fw x.au (n) (by omega);have e1:=xa x.ap (bP x.au (n)) (by omega);have e2:=CA x.Buffer (iL x.ap (bP x.au (n))) (by omega);omega) (by (try simp at *);have e0:=fw x.au (n) (by omega);have e1:=xa x.ap (bP x.au (n)) (by omega);have e2:=CA x.Buffer (iL x.ap (bP x.au (n))) (by omega);omega)).k ?_
 refine eJ (fun hb=> ?_) (fun hb=> ?_)
 exact ay (by simp at *;simp [mC,eC, *];try omega)
 exact ay (by simp at *;simp [mC,eC, *];try omega)
theorem HI (xs:List gn) (n:Int) (h1:0 ≤ n) (h2:n ≤ 1048576):aF Tryz.prog 42 [L 6 (xs.map lP),I n] (RV (.int .i64 (sj xs n))):=by
 refine aF.w 12 Tryz.func42 fun w g0 hM=> ?_
 have hm0:=hM.1.map
 refine len ?_
 refine cD ?_
 refine eJ (fun hb=> ?_) (fun hb=> ?_)
 exact ay (by simp at hb;unfold sj;rw [if_pos (by omega)])
 exact ay (by simp at hb;unfold sj;rw [if_neg (by omega)])
theorem ku (xs ys:List Int):aF Tryz.prog 47 [L 1 (xs.map bH),L 1 (ys.map bH)] (RV (.bool (decide (xs=ys)))):=by
 refine aF.w 26 Tryz.func47 fun w g0 hM=> ?_
 have hm0:=hM.1.map
 refine len ?_
 refine len ?_
 refine eJ (fun hb=> ?_) (fun hb=> ?_)
 exact ay (by simp at *;intro e;subst e;simp at hb)
 have hl:xs.length=ys.length:=by simp at hb;omega
 refine gA [] [] [] (fun (k:Nat)=>[.set 0 (L 1 (xs.map bH)), .set 1 (L 1 (ys.map bH)), .set 5 (I k)]) (fun (k:Nat)=>[]) (fun (k:Nat)=>k ≤ xs.length∧xs.take k=ys.take k) (fun (k:Nat)=>xs.length - k) (0) (by simp) ?_
 refine ⟨vv,fun k hyp N1 bw=> ?_⟩
 have hyp:k ≤ xs.length∧xs.take k=ys.take k:=hyp
 refine len ?_
 refine eJ (fun hb=> ?_) (fun hb=> ?_)
 have hk:k < xs.length:=by simpa using hb
 obtain ⟨x,hx⟩:=ev (xs:=xs) (k:=k) hk
 obtain ⟨y,hy⟩:=ev (xs:=ys) (k:=k) (by omega)
 refine pM ?_
 refine fN hx ?_
 refine fN hy ?_
 refine eJ (fun hb=> ?_) (fun hb=> ?_)
 refine bw _ _ _ ?_
 exact ay (by simp at *;exact sg hx hy hb)
 refine cD ?_
 refine bw _ _ _ ?_
 refine vu [] (k + 1) (⟨by omega,og hyp.2 hx (by simp at hb;rw [hb];exact hy)⟩)
 refine bw _ _ _ ?_
 exact ay (by simp at *;exact si hl hyp.2 hb)
theorem vT (xs ys:List (List Int)):aF Tryz.prog 132 [L 1 (xs.map aN),L 1 (ys.map aN)] (RV (.bool (decide (xs=ys)))):=by
 refine aF.w 27 Tryz.func132 fun w g0 hM=> ?_
 have hm0:=hM.1.map
 refine len ?_
 refine len ?_
 refine eJ (fun hb=> ?_) (fun hb=> ?_)
 exact ay (by simp at *;intro e;subst e;simp at hb)
 have hl:xs.length=ys.length:=by simp at hb;omega
 refine gA [] [] [] (fun (k:Nat)=>[.set 0 (L 1 (xs.map aN)), .set 1 (L 1 (ys.map aN)), .set 5 (I k)]) (fun (k:Nat)=>[]) (fun (k:Nat)=>k ≤ xs.length∧xs.take k=ys.take k) (fun (k:Nat)=>xs.length - k) (0) (by simp) ?_
 refine ⟨vv,fun k hyp N1 bw=> ?_⟩
 have hyp:k ≤ xs.length∧xs.take k=ys.take k:=hyp
 refine len ?_
 refine eJ (fun hb=> ?_) (fun hb=> ?_)
 have hk:k < xs.length:=by simpa using hb
 obtain ⟨x,hx⟩:=ev (xs:=xs) (k:=k) hk
 obtain ⟨y,hy⟩:=ev (xs:=ys) (k:=k) (by omega)
 refine pM ?_
 refine fN hx ?_
 refine fN hy ?_
 refine iQ (ku x y).k ?_
 refine eJ (fun hb=> ?_) (fun hb=> ?_)
 refine bw _ _ _ ?_
 exact ay (by simp at *;exact sg hx hy hb)
 refine cD ?_
 refine bw _ _ _ ?_
 refine vu [] (k + 1) (⟨by omega,og hyp.2 hx (by simp at hb;rw [hb];exact hy)⟩)
 refine bw _ _ _ ?_
 exact ay (by simp at *;exact si hl hyp.2 hb)
theorem HJ (x y:aL):aF Tryz.prog 464 [A (gB x),A (gB y)] (RV (.bool (decide (x=y)))):=by
 refine aF.w 15 Tryz.func464 fun w g0 _=> ?_
 refine eJ (fun hb=> ?_) (fun hb=> ?_)
 exact ay (by cases x;cases y;simp_all)
 refine eJ (fun hb=> ?_) (fun hb=> ?_)
 exact ay (by cases x;cases y;simp_all)
 exact ay (by cases x;cases y;simp_all)
theorem nj (xs ys:List aL):aF Tryz.prog 365 [L 2 (xs.map aQ),L 2 (ys.map aQ)] (RV (.bool (decide (xs=ys)))):=by
 refine aF.w 27 Tryz.func365 fun w g0 hM=> ?_
 have hm0:=hM.1.map
 refine len ?_
 refine len ?_
 refine eJ (fun hb=> ?_) (fun hb=> ?_)
 exact ay (by simp at *;intro e;subst e;simp at hb)
 have hl:xs.length=ys.length:=by simp at hb;omega
 refine gA [] [] [] (fun (k:Nat)=>[.set 0 (L 2 (xs.map aQ)), .set 1 (L 2 (ys.map aQ)), .set 5 (I k)]) (fun (k:Nat)=>[]) (fun (k:Nat)=>k ≤ xs.length∧xs.take k=ys.take k) (fun (k:Nat)=>xs.length - k) (0) (by simp) ?_
 refine ⟨vv,fun k hyp N1 bw=> ?_⟩
 have hyp:k ≤ xs.length∧xs.take k=ys.take k:=hyp
 refine len ?_
 refine eJ (fun hb=> ?_) (fun hb=> ?_)
 have hk:k < xs.length:=by simpa using hb
 obtain ⟨x,hx⟩:=ev (xs:=xs) (k:=k) hk
 obtain ⟨y,hy⟩:=ev (xs:=ys) (k:=k) (by omega)
 refine pM ?_
 refine fN hx ?_
 refine fN hy ?_
 refine iQ (HJ x y).k ?_
 refine eJ (fun hb=> ?_) (fun hb=> ?_)
 refine bw _ _ _ ?_
 exact ay (by simp at *;exact sg hx hy hb)
 refine cD ?_
 refine bw _ _ _ ?_
 refine vu [] (k + 1) (⟨by omega,og hyp.2 hx (by simp at hb;rw [hb];exact hy)⟩)
 refine bw _ _ _ ?_
 exact ay (by simp at *;exact si hl hyp.2 hb)
theorem vU (xs ys:List Bool):aF Tryz.prog 366 [L 1 (xs.map bz),L 1 (ys.map bz)] (RV (.bool (decide (xs=ys)))):=by
 refine aF.w 26 Tryz.func366 fun w g0 hM=> ?_
 have hm0:=hM.1.map
 refine len ?_
 refine len ?_
 refine eJ (fun hb=> ?_) (fun hb=> ?_)
 exact ay (by simp at *;intro e;subst e;simp at hb)
 have hl:xs.length=ys.length:=by simp at hb;omega
 refine gA [] [] [] (fun (k:Nat)=>[.set 0 (L 1 (xs.map bz)), .set 1 (L 1 (ys.map bz)), .set 5 (I k)]) (fun (k:Nat)=>[]) (fun (k:Nat)=>k ≤ xs.length∧xs.take k=ys.take k) (fun (k:Nat)=>xs.length - k) (0) (by simp) ?_
 refine ⟨vv,fun k hyp N1 bw=> ?_⟩
 have hyp:k ≤ xs.length∧xs.take k=ys.take k:=hyp
 refine len ?_
 refine eJ (fun hb=> ?_) (fun hb=> ?_)
 have hk:k < xs.length:=by simpa using hb
 obtain ⟨x,hx⟩:=ev (xs:=xs) (k:=k) hk
 obtain ⟨y,hy⟩:=ev (xs:=ys) (k:=k) (by omega)
 refine pM ?_
 refine fN hx ?_
 refine fN hy ?_
 refine eJ (fun hb=> ?_) (fun hb=> ?_)
 refine bw _ _ _ ?_
 exact ay (by simp at *;exact sg hx hy hb)
 refine cD ?_
 refine bw _ _ _ ?_
 refine vu [] (k + 1) (⟨by omega,og hyp.2 hx (by simp at hb;rw [hb];exact hy)⟩)
 refine bw _ _ _ ?_
 exact ay (by simp at *;exact si hl hyp.2 hb)
theorem KJ (x y:iK):aF Tryz.prog 371 [A (E3 x),A (E3 y)] (RV (.bool (decide (x=y)))):=by
 refine aF.w 15 Tryz.func371 fun w g0 _=> ?_
 refine eJ (fun hb=> ?_) (fun hb=> ?_)
 exact ay (by cases x;cases y;simp_all)
 refine eJ (fun hb=> ?_) (fun hb=> ?_)
 exact ay (by cases x;cases y;simp_all)
 exact ay (by cases x;cases y;simp_all)
theorem HK (xs ys:List iK):aF Tryz.prog 244 [L 2 (xs.map jt),L 2 (ys.map jt)] (RV (.bool (decide (xs=ys)))):=by
 refine aF.w 27 Tryz.func244 fun w g0 hM=> ?_
 have hm0:=hM.1.map
 refine len ?_
 refine len ?_
 refine eJ (fun hb=> ?_) (fun hb=> ?_)
 exact ay (by simp at *;intro e;subst e;simp at hb)
 have hl:xs.length=ys.length:=by simp at hb;omega
 refine gA [] [] [] (fun (k:Nat)=>[.set 0 (L 2 (xs.map jt)), .set 1 (L 2 (ys.map jt)), .set 5 (I k)]) (fun (k:Nat)=>[]) (fun (k:Nat)=>k ≤ xs.length∧xs.take k=ys.take k) (fun (k:Nat)=>xs.length - k) (0) (by simp) ?_
 refine ⟨vv,fun k hyp N1 bw=> ?_⟩
 have hyp:k ≤ xs.length∧xs.take k=ys.take k:=hyp
 refine len ?_
 refine eJ (fun hb=> ?_) (fun hb=> ?_)
 have hk:k < xs.length:=by simpa using hb
 obtain ⟨x,hx⟩:=ev (xs:=xs) (k:=k) hk
 obtain ⟨y,hy⟩:=ev (xs:=ys) (k:=k) (by omega)
 refine pM ?_
 refine fN hx ?_
 refine fN hy ?_
 refine iQ (KJ x y).k ?_
 refine eJ (fun hb=> ?_) (fun hb=> ?_)
 refine bw _ _ _ ?_
 exact ay (by simp at *;exact sg hx hy hb)
 refine cD ?_
 refine bw _ _ _ ?_
 refine vu [] (k + 1) (⟨by omega,og hyp.2 hx (by simp at hb;rw [hb];exact hy)⟩)
 refine bw _ _ _ ?_
 exact ay (by simp at *;exact si hl hyp.2 hb)
theorem KK (x y:mA):aF Tryz.prog 495 [A (s0 x),A (s0 y)] (RV (.bool (decide (x=y)))):=by
 refine aF.w 20 Tryz.func495 fun w g0 _=> ?_
 refine eJ (fun hb=> ?_) (fun hb=> ?_)
 exact ay (by cases x;cases y;simp_all)
 refine eJ (fun hb=> ?_) (fun hb=> ?_)
 exact ay (by cases x;cases y;simp_all)
 refine eJ (fun hb=> ?_) (fun hb=> ?_)
 exact ay (by cases x;cases y;simp_all)
 exact ay (by cases x;cases y;simp_all)
theorem HL (x y:kF):aF Tryz.prog 496 [A (oJ x),A (oJ y)] (RV (.bool (decide (x=y)))):=by
 refine aF.w 25 Tryz.func496 fun w g0 _=> ?_
 refine eJ (fun hb=> ?_) (fun hb=> ?_)
 exact ay (by cases x;cases y;simp_all)
 refine eJ (fun hb=> ?_) (fun hb=> ?_)
 exact ay (by cases x;cases y;simp_all)
 refine eJ (fun hb=> ?_) (fun hb=> ?_)
 exact ay (by cases x;cases y;simp_all)
 refine eJ (fun hb=> ?_) (fun hb=> ?_)
 exact ay (by cases x;cases y;simp_all)
 exact ay (by cases x;cases y;simp_all)
theorem FJ (x y:av):aF Tryz.prog 465 [A (bB x),A (bB y)] (RV (.bool (decide (x=y)))):=by
 refine aF.w 61 Tryz.func465 fun w g0 _=> ?_
 refine ah (HK x.Prog y.Prog).k ?_
 refine eJ (fun hb=> ?_) (fun hb=> ?_)
 exact ay (by cases x;cases y;simp_all)
 refine eJ (fun hb=> ?_) (fun hb=> ?_)
 exact ay (by cases x;cases y;simp_all)
 refine eJ (fun hb=> ?_) (fun hb=> ?_)
 exact ay (by cases x;cases y;simp_all)
 refine ah (nj x.Written y.Written).k ?_
 refine eJ (fun hb=> ?_) (fun hb=> ?_)
 exact ay (by cases x;cases y;simp_all)
 refine ah (nj x.Live y.Live).k ?_
 refine eJ (fun hb=> ?_) (fun hb=> ?_)
 exact ay (by cases x;cases y;simp_all)
 refine ah (KK x.iG y.iG).k ?_
 refine eJ (fun hb=> ?_) (fun hb=> ?_)
 exact ay (by cases x;cases y;simp_all)
 refine eJ (fun hb=> ?_) (fun hb=> ?_)
 exact ay (by cases x;cases y;simp_all)
 refine ah (HL x.Exit y.Exit).k ?_
 refine eJ (fun hb=> ?_) (fun hb=> ?_)
 exact ay (by cases x;cases y;simp_all)
 refine eJ (fun hb=> ?_) (fun hb=> ?_)
 exact ay (by cases x;cases y;simp_all)
 refine ah (ku x.Seen y.Seen).k ?_
 refine eJ (fun hb=> ?_) (fun hb=> ?_)
 exact ay (by cases x;cases y;simp_all)
 exact ay (by cases x;cases y;simp_all)
theorem C9 (xs ys:List av):aF Tryz.prog 367 [L 15 (xs.map aY),L 15 (ys.map aY)] (RV (.bool (decide (xs=ys)))):=by
 refine aF.w 27 Tryz.func367 fun w g0 hM=> ?_
 have hm0:=hM.1.map
 refine len ?_
 refine len ?_
 refine eJ (fun hb=> ?_) (fun hb=> ?_)
 exact ay (by simp at *;intro e;subst e;simp at hb)
 have hl:xs.length=ys.length:=by simp at hb;omega
 refine gA [] [] [] (fun (k:Nat)=>[.set 0 (L 15 (xs.map aY)), .set 1 (L 15 (ys.map aY)), .set 5 (I k)]) (fun (k:Nat)=>[]) (fun (k:Nat)=>k ≤ xs.length∧xs.take k=ys.take k) (fun (k:Nat)=>xs.length - k) (0) (by simp) ?_
 refine ⟨vv,fun k hyp N1 bw=> ?_⟩
 have hyp:k ≤ xs.length∧xs.take k=ys.take k:=hyp
 refine len ?_
 refine eJ (fun hb=> ?_) (fun hb=> ?_)
 have hk:k < xs.length:=by simpa using hb
 obtain ⟨x,hx⟩:=ev (xs:=xs) (k:=k) hk
 obtain ⟨y,hy⟩:=ev (xs:=ys) (k:=k) (by omega)
 refine pM ?_
 refine fN hx ?_
 refine fN hy ?_
 refine iQ (FJ x y).k ?_
 refine eJ (fun hb=> ?_) (fun hb=> ?_)
 refine bw _ _ _ ?_
 exact ay (by simp at *;exact sg hx hy hb)
 refine cD ?_
 refine bw _ _ _ ?_
 refine vu [] (k + 1) (⟨by omega,og hyp.2 hx (by simp at hb;rw [hb];exact hy)⟩)
 refine bw _ _ _ ?_
 exact ay (by simp at *;exact si hl hyp.2 hb)
theorem HM (x y:bQ):aF Tryz.prog 466 [A (fU x),A (fU y)] (RV (.bool (decide (x=y)))):=by
 refine aF.w 17 Tryz.func466 fun w g0 _=> ?_
 refine ah (vU x.bY y.bY).k ?_
 refine eJ (fun hb=> ?_) (fun hb=> ?_)
 exact ay (by cases x;cases y;simp_all)
 refine ah (nj x.c8 y.c8).k ?_
 refine eJ (fun hb=> ?_) (fun hb=> ?_)
 exact ay (by cases x;cases y;simp_all)
 exact ay (by cases x;cases y;simp_all)
theorem FK (xs ys:List bQ):aF Tryz.prog 368 [L 2 (xs.map bS),L 2 (ys.map bS)] (RV (.bool (decide (xs=ys)))):=by
 refine aF.w 27 Tryz.func368 fun w g0 hM=> ?_
 have hm0:=hM.1.map
 refine len ?_
 refine len ?_
 refine eJ (fun hb=> ?_) (fun hb=> ?_)
 exact ay (by simp at *;intro e;subst e;simp at hb)
 have hl:xs.length=ys.length:=by simp at hb;omega
 refine gA [] [] [] (fun (k:Nat)=>[.set 0 (L 2 (xs.map bS)), .set 1 (L 2 (ys.map bS)), .set 5 (I k)]) (fun (k:Nat)=>[]) (fun (k:Nat)=>k ≤ xs.length∧xs.take k=ys.take k) (fun (k:Nat)=>xs.length - k) (0) (by simp) ?_
 refine ⟨vv,fun k hyp N1 bw=> ?_⟩
 have hyp:k ≤ xs.length∧xs.take k=ys.take k:=hyp
 refine len ?_
 refine eJ (fun hb=> ?_) (fun hb=> ?_)
 have hk:k < xs.length:=by simpa using hb
 obtain ⟨x,hx⟩:=ev (xs:=xs) (k:=k) hk
 obtain ⟨y,hy⟩:=ev (xs:=ys) (k:=k) (by omega)
 refine pM ?_
 refine fN hx ?_
 refine fN hy ?_
 refine iQ (HM x y).k ?_
 refine eJ (fun hb=> ?_) (fun hb=> ?_)
 refine bw _ _ _ ?_
 exact ay (by simp at *;exact sg hx hy hb)
 refine cD ?_
 refine bw _ _ _ ?_
 refine vu [] (k + 1) (⟨by omega,og hyp.2 hx (by simp at hb;rw [hb];exact hy)⟩)
 refine bw _ _ _ ?_
 exact ay (by simp at *;exact si hl hyp.2 hb)
theorem KL (x y:aO):aF Tryz.prog 234 [A (va x),A (va y)] (RV (.bool (decide (x=y)))):=by
 refine aF.w 56 Tryz.func234 fun w g0 _=> ?_
 refine ah (nj x.ai y.ai).k ?_
 refine eJ (fun hb=> ?_) (fun hb=> ?_)
 exact ay (by cases x;cases y;simp_all)
 refine ah (vT x.Out y.Out).k ?_
 refine eJ (fun hb=> ?_) (fun hb=> ?_)
 exact ay (by cases x;cases y;simp_all)
 refine ah (vU x.a_ y.a_).k ?_
 refine eJ (fun hb=> ?_) (fun hb=> ?_)
 exact ay (by cases x;cases y;simp_all)
 refine ah (C9 x.aa y.aa).k ?_
 refine eJ (fun hb=> ?_) (fun hb=> ?_)
 exact ay (by cases x;cases y;simp_all)
 refine ah (ku x.bX y.bX).k ?_
 refine eJ (fun hb=> ?_) (fun hb=> ?_)
 exact ay (by cases x;cases y;simp_all)
 refine eJ (fun hb=> ?_) (fun hb=> ?_)
 exact ay (by cases x;cases y;simp_all)
 refine eJ (fun hb=> ?_) (fun hb=> ?_)
 exact ay (by cases x;cases y;simp_all)
 refine ah (FK x.Tables y.Tables).k ?_
 refine eJ (fun hb=> ?_) (fun hb=> ?_)
 exact ay (by cases x;cases y;simp_all)
 refine eJ (fun hb=> ?_) (fun hb=> ?_)
 exact ay (by cases x;cases y;simp_all)
 exact ay (by cases x;cases y;simp_all)
theorem HN (xs ys:List aO):aF Tryz.prog 133 [L 9 (xs.map bh),L 9 (ys.map bh)] (RV (.bool (decide (xs=ys)))):=by
 refine aF.w 27 Tryz.func133 fun w g0 hM=> ?_
 have hm0:=hM.1.map
 refine len ?_
 refine len ?_
 refine eJ (fun hb=> ?_) (fun hb=> ?_)
 exact ay (by simp at *;intro e;subst e;simp at hb)
 have hl:xs.length=ys.length:=by simp at hb;omega
 refine gA [] [] [] (fun (k:Nat)=>[.set 0 (L 9 (xs.map bh)), .set 1 (L 9 (ys.map bh)), .set 5 (I k)]) (fun (k:Nat)=>[]) (fun (k:Nat)=>k ≤ xs.length∧xs.take k=ys.take k) (fun (k:Nat)=>xs.length - k) (0) (by simp) ?_
 refine ⟨vv,fun k hyp N1 bw=> ?_⟩
 have hyp:k ≤ xs.length∧xs.take k=ys.take k:=hyp
 refine len ?_
 refine eJ (fun hb=> ?_) (fun hb=> ?_)
 have hk:k < xs.length:=by simpa using hb
 obtain ⟨x,hx⟩:=ev (xs:=xs) (k:=k) hk
 obtain ⟨y,hy⟩:=ev (xs:=ys) (k:=k) (by omega)
 refine pM ?_
 refine fN hx ?_
 refine fN hy ?_
 refine iQ (KL x y).k ?_
 refine eJ (fun hb=> ?_) (fun hb=> ?_)
 refine bw _ _ _ ?_
 exact ay (by simp at *;exact sg hx hy hb)
 refine cD ?_
 refine bw _ _ _ ?_
 refine vu [] (k + 1) (⟨by omega,og hyp.2 hx (by simp at hb;rw [hb];exact hy)⟩)
 refine bw _ _ _ ?_
 exact ay (by simp at *;exact si hl hyp.2 hb)
theorem FL (x y:bt):aF Tryz.prog 235 [A (nQ x),A (nQ y)] (RV (.bool (decide (x=y)))):=by
 refine aF.w 25 Tryz.func235 fun w g0 _=> ?_
 refine eJ (fun hb=> ?_) (fun hb=> ?_)
 exact ay (by cases x;cases y;simp_all)
 refine eJ (fun hb=> ?_) (fun hb=> ?_)
 exact ay (by cases x;cases y;simp_all)
 refine eJ (fun hb=> ?_) (fun hb=> ?_)
 exact ay (by cases x;cases y;simp_all)
 refine eJ (fun hb=> ?_) (fun hb=> ?_)
 exact ay (by cases x;cases y;simp_all)
 exact ay (by cases x;cases y;simp_all)
theorem uP (xs ys:List bt):aF Tryz.prog 134 [L 4 (xs.map aA),L 4 (ys.map aA)] (RV (.bool (decide (xs=ys)))):=by
 refine aF.w 27 Tryz.func134 fun w g0 hM=> ?_
 have hm0:=hM.1.map
 refine len ?_
 refine len ?_
 refine eJ (fun hb=> ?_) (fun hb=> ?_)
 exact ay (by simp at *;intro e;subst e;simp at hb)
 have hl:xs.length=ys.length:=by simp at hb;omega
 refine gA [] [] [] (fun (k:Nat)=>[.set 0 (L 4 (xs.map aA)), .set 1 (L 4 (ys.map aA)), .set 5 (I k)]) (fun (k:Nat)=>[]) (fun (k:Nat)=>k ≤ xs.length∧xs.take k=ys.take k) (fun (k:Nat)=>xs.length - k) (0) (by simp) ?_
 refine ⟨vv,fun k hyp N1 bw=> ?_⟩
 have hyp:k ≤ xs.length∧xs.take k=ys.take k:=hyp
 refine len ?_
 refine eJ (fun hb=> ?_) (fun hb=> ?_)
 have hk:k < xs.length:=by simpa using hb
 obtain ⟨x,hx⟩:=ev (xs:=xs) (k:=k) hk
 obtain ⟨y,hy⟩:=ev (xs:=ys) (k:=k) (by omega)
 refine pM ?_
 refine fN hx ?_
 refine fN hy ?_
 refine iQ (FL x y).k ?_
 refine eJ (fun hb=> ?_) (fun hb=> ?_)
 refine bw _ _ _ ?_
 exact ay (by simp at *;exact sg hx hy hb)
 refine cD ?_
 refine bw _ _ _ ?_
 refine vu [] (k + 1) (⟨by omega,og hyp.2 hx (by simp at hb;rw [hb];exact hy)⟩)
 refine bw _ _ _ ?_
 exact ay (by simp at *;exact si hl hyp.2 hb)
theorem HO (x y:an):aF Tryz.prog 48 [A (aq x),A (aq y)] (RV (.bool (decide (x=y)))):=by
 refine aF.w 29 Tryz.func48 fun w g0 _=> ?_
 refine ah (vT x.au y.au).k ?_
 refine eJ (fun hb=> ?_) (fun hb=> ?_)
 exact ay (by cases x;cases y;simp_all)
 refine ah (HN x.ap y.ap).k ?_
 refine eJ (fun hb=> ?_) (fun hb=> ?_)
 exact ay (by cases x;cases y;simp_all)
 refine ah (uP x.Buffer y.Buffer).k ?_
 refine eJ (fun hb=> ?_) (fun hb=> ?_)
 exact ay (by cases x;cases y;simp_all)
 refine ah (uP x.aC y.aC).k ?_
 refine eJ (fun hb=> ?_) (fun hb=> ?_)
 exact ay (by cases x;cases y;simp_all)
 exact ay (by cases x;cases y;simp_all)
theorem KM (x y:gn):aF Tryz.prog 135 [A (BG x),A (BG y)] (RV (.bool (decide (x=y)))):=by
 refine aF.w 35 Tryz.func135 fun w g0 _=> ?_
 refine eJ (fun hb=> ?_) (fun hb=> ?_)
 exact ay (by cases x;cases y;simp_all)
 refine eJ (fun hb=> ?_) (fun hb=> ?_)
 exact ay (by cases x;cases y;simp_all)
 refine eJ (fun hb=> ?_) (fun hb=> ?_)
 exact ay (by cases x;cases y;simp_all)
 refine eJ (fun hb=> ?_) (fun hb=> ?_)
 exact ay (by cases x;cases y;simp_all)
 refine eJ (fun hb=> ?_) (fun hb=> ?_)
 exact ay (by cases x;cases y;simp_all)
 refine eJ (fun hb=> ?_) (fun hb=> ?_)
 exact ay (by cases x;cases y;simp_all)
 exact ay (by cases x;cases y;simp_all)
theorem HP (xs ys:List gn):aF Tryz.prog 49 [L 6 (xs.map lP),L 6 (ys.map lP)] (RV (.bool (decide (xs=ys)))):=by
 refine aF.w 27 Tryz.func49 fun w g0 hM=> ?_
 have hm0:=hM.1.map
 refine len ?_
 refine len ?_
 refine eJ (fun hb=> ?_) (fun hb=> ?_)
 exact ay (by simp at *;intro e;subst e;simp at hb)
 have hl:xs.length=ys.length:=by simp at hb;omega
 refine gA [] [] [] (fun (k:Nat)=>[.set 0 (L 6 (xs.map lP)), .set 1 (L 6 (ys.map lP)), .set 5 (I k)]) (fun (k:Nat)=>[]) (fun (k:Nat)=>k ≤ xs.length∧xs.take k=ys.take k) (fun (k:Nat)=>xs.length - k) (0) (by simp) ?_
 refine ⟨vv,fun k hyp N1 bw=> ?_⟩
 have hyp:k ≤ xs.length∧xs.take k=ys.take k:=hyp
 refine len ?_
 refine eJ (fun hb=> ?_) (fun hb=> ?_)
 have hk:k < xs.length:=by simpa using hb
 obtain ⟨x,hx⟩:=ev (xs:=xs) (k:=k) hk
 obtain ⟨y,hy⟩:=ev (xs:=ys) (k:=k) (by omega)
 refine pM ?_
 refine fN hx ?_
 refine fN hy ?_
 refine iQ (KM x y).k ?_
 refine eJ (fun hb=> ?_) (fun hb=> ?_)
 refine bw _ _ _ ?_
 exact ay (by simp at *;exact sg hx hy hb)
 refine cD ?_
 refine bw _ _ _ ?_
 refine vu [] (k + 1) (⟨by omega,og hyp.2 hx (by simp at hb;rw [hb];exact hy)⟩)
 refine bw _ _ _ ?_
 exact ay (by simp at *;exact si hl hyp.2 hb)
end Go.Proofs.YtdliggkohdnipaaGreat.T
