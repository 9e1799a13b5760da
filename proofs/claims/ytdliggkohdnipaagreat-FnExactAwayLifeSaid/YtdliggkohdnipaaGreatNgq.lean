import Derived.Test.YtdliggkohdnipaaGreatNdq
set_option linter.unusedVariables false
set_option linter.unusedSimpArgs false
namespace Go.Proofs.YtdliggkohdnipaaGreat.T
open Go
section
variable {p y:Int} {i:Nat}
set_option maxRecDepth 100000
set_option maxHeartbeats 1000000
theorem pow8 {n:Nat} (h:n ≤ 7):IntKind.i64.wrap (1 * 2 ^ n)=2 ^ n:=by
 have:∀ m:Fin 8,IntKind.i64.wrap (1 * 2 ^ m.1)=2 ^ m.1:=by decide +kernel
 exact this ⟨n,by omega⟩
theorem shl {k:Int→Prop} (c:k (2 ^ y.toNat)) (h:0 ≤ y∧y ≤ 7:=by omega):ShlW .i64 1 y k:=⟨y.toNat,_,by omega,by show _ ≤ 64;omega,pow8 (by omega),c⟩
theorem shr {x:Int} {k:Int→Prop} (c:k (x.fdiv (2 ^ y.toNat))) (h:0 ≤ y∧y ≤ 7:=by omega):ShrW .i64 x y k:=⟨y.toNat,_,by omega,by show _ ≤ 64;omega,rfl,c⟩
def YW (m:Nat):Nat:=(gV m 8 + 1).toNat
theorem byt8 {s:ByteArray} {i:Int} {k:UInt8→Prop} (c:k (UInt8.ofNat (YW i.toNat))) (h:(∀ p:Fin 256,s[p.1]? = some (UInt8.ofNat (YW p.1))):=by decide +kernel) (h0:0 ≤ i∧i < 256:=by omega):ByteW s i k:=⟨i.toNat,_,by omega,h ⟨i.toNat,by omega⟩,c⟩
theorem BN (h:0 ≤ p∧p ≤ 255):((UInt8.ofNat (YW p.toNat)).toNat:Int)=gV p 8 + 1∧ -1 ≤ gV p 8∧gV p 8 ≤ 7:=by
 have:∀ m:Fin 256,((UInt8.ofNat (YW m.1)).toNat:Int)=gV m.1 8 + 1∧ -1 ≤ gV m.1 8∧gV m.1 8 ≤ 7:=by decide +kernel
 have h1:=this ⟨p.toNat,by omega⟩
 simpa [show ((p.toNat:Nat):Int)=p by omega] using h1
theorem Wh (h:0 ≤ p∧p ≤ 255) (h0:0 ≤ gV p 8):NP p (2 ^ (gV p 8).toNat)=p - 2 ^ (gV p 8).toNat∧0 ≤ p - 2 ^ (gV p 8).toNat∧p - 2 ^ (gV p 8).toNat ≤ 255:=by
 have:∀ m:Fin 256,0 ≤ gV m.1 8→NP m.1 (2 ^ (gV m.1 8).toNat)=m.1 - 2 ^ (gV m.1 8).toNat∧(0:Int) ≤ m.1 - 2 ^ (gV m.1 8).toNat∧(m.1:Int) - 2 ^ (gV m.1 8).toNat ≤ 255:=by decide +kernel
 have h1:=this ⟨p.toNat,by omega⟩
 simp only [show ((p.toNat:Nat):Int)=p by omega] at h1
 exact h1 h0
theorem Qv (p:Int): -1 ≤ dH p∧dH p ≤ 7∧(0 ≤ dH p→0 ≤ p∧p ≤ 255∧dH p=gV p 8):=by
 unfold dH
 split
 rename_i h
 have h:=of_decide_eq_true h
 have:=BN h
 omega
 omega
theorem xH (h:0 ≤ dH p):NP p (2 ^ (dH p).toNat)=p - 2 ^ (dH p).toNat∧0 ≤ p - 2 ^ (dH p).toNat∧p - 2 ^ (dH p).toNat ≤ 255∧0 ≤ p∧p ≤ 255∧dH p ≤ 7∧gW p=some (p - 2 ^ (dH p).toNat,dH p):=by
 have h1:=Qv p
 obtain ⟨h2,h3,h4⟩:=h1.2.2 h
 have h5:=Wh ⟨h2,h3⟩ (by omega)
 rw [← h4] at h5
 exact ⟨h5.1,h5.2.1,h5.2.2,h2,h3,h1.2.1,if_neg (by omega)⟩
theorem Oc (h:0 < i):gV p i=if bit p ((i:Int) - 1) then (i:Int) - 1 else gV p (i - 1):=by
 obtain ⟨j,rfl⟩:∃ j,i=j + 1:=⟨i - 1,by omega⟩
 have:((j + 1:Nat):Int) - 1=j:=by omega
 rw [this]
 rfl
theorem YX (h:0 ≤ p∧p ≤ 255) (hy:gV p 8=gV p i) (h0:0 ≤ (i:Int) - 1) (hb:s5 (p.fdiv (2 ^ ((i:Int) - 1).toNat)) 1=1):dH p=(i:Int) - 1:=by
 unfold dH
 rw [if_pos (decide_eq_true h),hy,Oc (by omega),if_pos (show bit p _=true from decide_eq_true hb)]
theorem Wi (hy:gV p 8=gV p i) (h0:0 ≤ (i:Int) - 1) (hb:¬ s5 (p.fdiv (2 ^ ((i:Int) - 1).toNat)) 1=1):gV p 8=gV p (i - 1):=by
 rw [hy,Oc (by omega),if_neg]
 exact fun h=>hb (of_decide_eq_true h)
theorem YY (hy:gV p 8=gV p i) (h0:¬ 0 ≤ (i:Int) - 1):dH p= -1:=by
 unfold dH
 rw [hy,show i=0 by omega]
 split <;> rfl
theorem RY (h:¬ (0 ≤ p∧p ≤ 255)):dH p= -1:=if_neg fun e=>h (of_decide_eq_true e)
theorem sE (p:Int) (n:Int):aF Tryz.prog 452 [I p,I n] (RG [.c (.v (.int .i64 ((fQ p n).getD p))), .c (.v (.bool (fQ p n).isSome))]):=by
 refine aF.w 20 Tryz.func452 fun w g0 _=> ?_
 refine ah (nl _).k ?_
 refine aB ?_ ?_ <;> intro gK
 exact (by rw [show fQ p n=none from if_neg (by simp [*])];rfl)
 refine ah (aE _ _ _).k ?_
 refine aB ?_ ?_ <;> intro hb
 exact (by rw [show fQ p n=none from if_neg (by simp [*])];rfl)
 refine cvu ?_
 refine shl ?_
 exact (by rw [show fQ p n=some (ior p (2 ^ n.toNat)) from if_pos (by simp [*])];rfl)
theorem sG (p:Int) (n:Int):aF Tryz.prog 405 [I p,I n] (RG [.c (.v (.int .i64 ((fQ p n).getD p))), .c (.v (.bool (fQ p n).isSome))]):=by
 refine aF.w 19 Tryz.func405 fun w g0 _=> ?_
 refine ah (nq _).k ?_
 refine aB ?_ ?_ <;> intro gK
 exact (by rw [show fQ p n=none from if_neg (by simp [*])];rfl)
 refine ah (aU _ _ _).k ?_
 refine aB ?_ ?_ <;> intro hb
 exact (by rw [show fQ p n=none from if_neg (by simp [*])];rfl)
 refine shl ?_
 exact (by rw [show fQ p n=some (ior p (2 ^ n.toNat)) from if_pos (by simp [*])];rfl)
theorem L7 (c:qY) (n:Int):aF Tryz.prog 490 [A (zA c),I n] (RV (.bool (rq c n))):=by
 refine aF.w 20 Tryz.func490 fun w g0 _=> ?_
 refine ah (vB _).k ?_
 refine aB ?_ ?_ <;> intro oe
 refine ah (aE _ _ _).k ?_
 refine aB ?_ ?_ <;> intro YO
 refine cvu ?_
 refine shr ?_
 exact ay (by simp [rq,bit, *];rfl)
 exact ay (by simp [rq,bit, *];done)
 exact ay (by simp [rq,bit, *];done)
theorem L8 (c:qY) (n:Int):aF Tryz.prog 477 [A (zA c),I n] (RV (.bool (rq c n))):=by
 refine aF.w 19 Tryz.func477 fun w g0 _=> ?_
 refine ah (vC _).k ?_
 refine aB ?_ ?_ <;> intro oe
 refine ah (aU _ _ _).k ?_
 refine aB ?_ ?_ <;> intro YO
 refine shr ?_
 exact ay (by simp [rq,bit, *];rfl)
 exact ay (by simp [rq,bit, *];done)
 exact ay (by simp [rq,bit, *];done)
theorem L9 (p:Int) (hp:0 ≤ p∧p ≤ 255):aF Tryz.prog 504 [V (.int .u64 p)] (RV (.int .i64 (gV p 8 + 1))):=by
 refine aF.w 25 Tryz.func504 fun w g0 _=> ?_
 refine aB ?_ ?_ <;> intro hb
 omega
 refine aB ?_ ?_ <;> intro iz
 omega
 refine aB ?_ ?_ <;> intro tr
 omega
 refine cvb ?_
 refine byt8 ?_
 have hlb:=BN hp
 refine cvs ?_
 refine cg ?_
 exact ay (by have:=BN hp;refine congrArg (Value.int .i64) ?_;omega)
theorem Qw (p:Int) (hp:0 ≤ p∧p ≤ 255):aF Tryz.prog 499 [V (.int .u64 p)] (RV (.int .i64 (gV p 8 + 1))):=by
 refine aF.w 8 Tryz.func499 fun w g0 _=> ?_
 refine ah (L9 p hp).k ?_
 exact rfl
theorem zW (p:Int):aF Tryz.prog 471 [I p] (RV (.int .i64 (dH p))):=by
 refine aF.w 10 Tryz.func471 fun w g0 _=> ?_
 refine ah (nq _).k ?_
 refine aB ?_ ?_ <;> intro hb
 exact ay (by rw [RY (by omega)])
 refine cvu ?_
 have hlb:=BN (p:=p) (by omega)
 refine ah (Qw p (by omega)).k ?_
 refine cg ?_
 exact ay (by unfold dH;rw [if_pos (decide_eq_true (by omega))];refine congrArg (Value.int .i64) ?_;omega)
theorem zX (p:Int):aF Tryz.prog 487 [I p] (RV (.int .i64 (dH p))):=by
 refine aF.w 19 Tryz.func487 fun w g0 _=> ?_
 refine ck [0] [] [] (fun (i:Nat)=>[.set 3 (I ((i:Int) - 1))]) (fun (i:Nat)=>[]) (fun (i:Nat)=>i ≤ 8∧gV p 8=gV p i) (fun (i:Nat)=>i) (8) (⟨by omega,rfl⟩) ?_
 refine ⟨hda,fun i hyp N1 bq=> ?_⟩
 have hyp:i ≤ 8∧gV p 8=gV p i:=hyp
 have Es:=hyp.1
 refine aB ?_ ?_ <;> intro oe
 refine ah (nl _).k ?_
 refine aB ?_ ?_ <;> intro hb
 refine cvu ?_
 refine shr ?_
 refine aB ?_ ?_ <;> intro iz
 refine bq _ _ _ ?_
 exact ay (by rw [YX (by omega) hyp.2 (by omega) ‹_›])
 refine cg ?_
 refine bq _ _ _ ?_
 refine hY (i - 1) (⟨by omega,Wi hyp.2 (by omega) ‹_›⟩)
 refine bq _ _ _ ?_
 exact ay (by rw [RY (by omega)])
 refine bq _ _ _ ?_
 exact ay (by rw [YY hyp.2 (by omega)])
theorem xI (p:Int):aF Tryz.prog 436 [I p] (RG [.c (.v (.int .i64 ((gW p).elim p (·.1)))), .c (.v (.int .i64 ((gW p).elim (-1) (·.2)))), .c (.v (.bool (gW p).isSome))]):=by
 refine aF.w 17 Tryz.func436 fun w g0 _=> ?_
 refine ah (zX _).k ?_
 refine aB ?_ ?_ <;> intro hb
 exact (by rw [show gW p=none from if_pos (by omega)];rfl)
 have hk:=xH (p:=p) (by omega)
 refine cvu ?_
 refine shl ?_
 refine cg ?_
 exact (by rw [hk.2.2.2.2.2.2];rfl)
theorem xJ (p:Int):aF Tryz.prog 409 [I p] (RG [.c (.v (.int .i64 ((gW p).elim p (·.1)))), .c (.v (.int .i64 ((gW p).elim (-1) (·.2)))), .c (.v (.bool (gW p).isSome))]):=by
 refine aF.w 16 Tryz.func409 fun w g0 _=> ?_
 refine ah (zW _).k ?_
 refine aB ?_ ?_ <;> intro hb
 exact (by rw [show gW p=none from if_pos (by omega)];rfl)
 have hk:=xH (p:=p) (by omega)
 refine shl ?_
 exact (by rw [hk.2.2.2.2.2.2, ← hk.1];rfl)
end
set_option maxRecDepth 100000
set_option maxHeartbeats 1000000
theorem RZ {g:ax} {n:Int} (h:g.Seen.length < 40):bK (L1 g n)=(bK g).set 14 (.sl 1 (g.Seen.map bS ++ [bS n])):=by
 unfold L1
 rw [if_pos h]
 simp [bK]
theorem yT (g:ax):canRun g=(decide (g.Exit.Kind=0∧g.Exit.aN=0∧g.Exit.Write=false∧g.Exit.N=0) && !g.kg):=by
 unfold canRun
 congr 1
 rcases g with ⟨_,_,_,_,_,_,_,⟨a,b,c,d⟩,_,_⟩
 simp
theorem jf (g:ax) [Q (aJ g)]:aF Tryz.prog 424 [A (bK g)] (RG [.a (bK (g))]):=by
 refine aF.w 24 Tryz.func424 fun w g0 _=> ?_
 refine cD ?_
 refine cD ?_
 refine cD ?_
 refine cD ?_
 exact rfl
theorem e8 (g:ax) [Q (aJ g)]:aF Tryz.prog 182 [A (bK g)] (RG [.a (bK (g))]):=by
 refine aF.w 20 Tryz.func182 fun w g0 _=> ?_
 refine bu (wm _).k ?_
 refine bu (kn _).k ?_
 refine bu (kn _).k ?_
 refine bu (iC _).k ?_
 exact rfl
theorem k9 (n:Nat) (hn:n ≤ 24:=by omega):aF Tryz.prog 202 [I n] (RL 2 ((gI n).map aT)):=by
 refine aF.w 17 Tryz.func202 fun w g0 _=> ?_
 refine ah (xF hn).k ?_
 refine ck [2,3,16] [3] [3] (fun (i:Nat)=>[.set 4 (I ((n:Int) - i))]) (fun (i:Nat)=>[(3,⟨false,[.own (.sl 2 ((List.replicate i bE).map aT))]⟩)]) (fun (i:Nat)=>i ≤ n) (fun (i:Nat)=>n - i) (0) (bG _) ?_
 refine ⟨hda,fun i hyp N1 bq=> ?_⟩
 have hyp:i ≤ n:=hyp
 refine aB ?_ ?_ <;> intro hb
 refine ah (cW).k ?_
 refine cD ?_
 refine cg ?_
 refine bq _ _ _ ?_
 refine hY (i + 1) (by omega) (by repeat' first|exact rfl|constructor|(refine dL ?_;simp [fX,cS,c_,List.replicate_succ', *];done)|(refine dL ?_;exact congrArg (fun z:Int=>(I z:TS)) (by omega)))
 refine bq _ _ _ ?_
 exact (by rw [show i=n by omega];rfl)
theorem xK (g:ax):aF Tryz.prog 467 [A (bK g)] (RV (.bool (bT g))):=by
 refine aF.w 47 Tryz.func467 fun w g0 _=> ?_
 refine ah (Jc _).k ?_
 refine aB ?_ ?_ <;> intro gK
 refine ah (aE _ _ _).k ?_
 refine aB ?_ ?_ <;> intro Tz
 refine ah (aE _ _ _).k ?_
 refine aB ?_ ?_ <;> intro Wb
 refine ah (sA _ _ _).k ?_
 refine aB ?_ ?_ <;> intro hg18
 refine ah (sA _ _ _).k ?_
 refine aB ?_ ?_ <;> intro hg23
 refine ah (vB _).k ?_
 refine aB ?_ ?_ <;> intro hg28
 refine ah (nl _).k ?_
 refine aB ?_ ?_ <;> intro hg33
 refine ah (Je _).k ?_
 refine aB ?_ ?_ <;> intro hg38
 refine len ?_
 exact ay (by refine congrArg Value.bool ?_;rw [dX];simp [bT, *];omega)
 exact ay (by simp only [bT, *,and_self,decide_true,decide_false,lE,jr,mU,jt,mV,mW];done)
 exact ay (by simp [bT, *];done)
 exact ay (by simp only [bT, *,and_self,decide_true,decide_false,lE,jr,mU,jt,mV,mW];done)
 exact ay (by simp only [bT, *,and_self,decide_true,decide_false,lE,jr,mU,jt,mV,mW];done)
 exact ay (by simp only [bT, *,and_self,decide_true,decide_false,lE,jr,mU,jt,mV,mW];done)
 exact ay (by simp [bT, *];done)
 exact ay (by simp [bT, *];done)
 exact ay (by simp only [bT, *,and_self,decide_true,decide_false,lE,jr,mU,jt,mV,mW];done)
theorem xL (g:ax):aF Tryz.prog 178 [A (bK g)] (RV (.bool (bT g))):=by
 refine aF.w 47 Tryz.func178 fun w g0 _=> ?_
 refine ah (Jd _).k ?_
 refine aB ?_ ?_ <;> intro gK
 refine ah (aU _ _ _).k ?_
 refine aB ?_ ?_ <;> intro Tz
 refine ah (aU _ _ _).k ?_
 refine aB ?_ ?_ <;> intro Wb
 refine ah (sB _ _ _).k ?_
 refine aB ?_ ?_ <;> intro hg18
 refine ah (sB _ _ _).k ?_
 refine aB ?_ ?_ <;> intro hg23
 refine ah (vC _).k ?_
 refine aB ?_ ?_ <;> intro hg28
 refine ah (nq _).k ?_
 refine aB ?_ ?_ <;> intro hg33
 refine ah (Jf _).k ?_
 refine aB ?_ ?_ <;> intro hg38
 refine len ?_
 exact ay (by refine congrArg Value.bool ?_;rw [dX];simp [bT, *];omega)
 exact ay (by simp only [bT, *,and_self,decide_true,decide_false,lE,jr,mU,jt,mV,mW];done)
 exact ay (by simp [bT, *];done)
 exact ay (by simp only [bT, *,and_self,decide_true,decide_false,lE,jr,mU,jt,mV,mW];done)
 exact ay (by simp only [bT, *,and_self,decide_true,decide_false,lE,jr,mU,jt,mV,mW];done)
 exact ay (by simp only [bT, *,and_self,decide_true,decide_false,lE,jr,mU,jt,mV,mW];done)
 exact ay (by simp [bT, *];done)
 exact ay (by simp [bT, *];done)
 exact ay (by simp only [bT, *,and_self,decide_true,decide_false,lE,jr,mU,jt,mV,mW];done)
theorem zY (g:ax):aF Tryz.prog 113 [A (bK g)] (RV (.bool (canRun g))):=by
 refine aF.w 12 Tryz.func113 fun w g0 _=> ?_
 refine Tw ?_
 refine aB ?_ ?_ <;> intro Fu
 exact ay (by first|(rw [yT];simp [*];done))
 exact ay (by first|(rw [yT];simp [*];done))
theorem zZ (g:ax):aF Tryz.prog 377 [A (bK g)] (RV (.bool (canRun g))):=by
 refine aF.w 12 Tryz.func377 fun w g0 _=> ?_
 refine Tw ?_
 refine aB ?_ ?_ <;> intro Fu
 exact ay (by first|(rw [yT];simp [*];done))
 exact ay (by first|(rw [yT];simp [*];done))
theorem wv (g:ax):aF Tryz.prog 434 [A (bK g)] (RV (.bool (k7 g))):=by
 refine aF.w 16 Tryz.func434 fun w g0 _=> ?_
 refine ah (zY _).k ?_
 refine aB ?_ ?_ <;> intro oe
 refine aB ?_ ?_ <;> intro GO
 refine ah (zX _).k ?_
 exact ay (by simp only [k7, *,and_self,decide_true,decide_false,lE,jr,mU,jt,mV,mW];done)
 exact ay (by simp only [k7, *,and_self,decide_true,decide_false,lE,jr,mU,jt,mV,mW];done)
 exact ay (by simp only [k7, *,and_self,decide_true,decide_false,lE,jr,mU,jt,mV,mW];done)
theorem wz (g:ax):aF Tryz.prog 378 [A (bK g)] (RV (.bool (k7 g))):=by
 refine aF.w 16 Tryz.func378 fun w g0 _=> ?_
 refine ah (zZ _).k ?_
 refine aB ?_ ?_ <;> intro oe
 refine aB ?_ ?_ <;> intro GO
 refine ah (zW _).k ?_
 exact ay (by simp only [k7, *,and_self,decide_true,decide_false,lE,jr,mU,jt,mV,mW];done)
 exact ay (by simp only [k7, *,and_self,decide_true,decide_false,lE,jr,mU,jt,mV,mW];done)
 exact ay (by simp only [k7, *,and_self,decide_true,decide_false,lE,jr,mU,jt,mV,mW];done)
theorem GP (g:ax) (n:Int) [Q (aJ g)]:aF Tryz.prog 437 [A (bK g),I n] (RG [.a (bK (L1 g n))]):=by
 refine aF.w 18 Tryz.func437 fun w g0 _=> ?_
 refine an (jf _).k ?_
 refine len ?_
 refine aB ?_ ?_ <;> intro hb
 refine cD ?_
 exact (by rw [RZ (by omega)];rfl)
 exact (by rw [show L1 g n=g from if_neg (by omega)];rfl)
theorem GQ (g:ax) (n:Int) [Q (aJ g)]:aF Tryz.prog 382 [A (bK g),I n] (RG [.a (bK (L1 g n))]):=by
 refine aF.w 19 Tryz.func382 fun w g0 _=> ?_
 refine an (e8 _).k ?_
 refine len ?_
 refine aB ?_ ?_ <;> intro hb
 refine cD ?_
 exact (by rw [RZ (by omega)];rfl)
 exact (by rw [show L1 g n=g from if_neg (by omega)];rfl)
theorem gm (g:ax) (e:qE) [Q (aJ g)]:aF Tryz.prog 441 [A (bK g),A (uM e)] (RG [.a (bK (c8 g e))]):=by
 refine aF.w 10 Tryz.func441 fun w g0 _=> ?_
 refine an (jf _).k ?_
 exact rfl
theorem gn (g:ax) (e:qE) [Q (aJ g)]:aF Tryz.prog 262 [A (bK g),A (uM e)] (RG [.a (bK (c8 g e))]):=by
 refine aF.w 11 Tryz.func262 fun w g0 _=> ?_
 refine an (e8 _).k ?_
 exact rfl
section
variable {p:Int} {g:ax}
set_option maxRecDepth 100000
set_option maxHeartbeats 1000000
instance (g:ax) (n:Int) [h:Q (aJ g)]:Q (aJ (L1 g n)):=⟨by
 unfold L1
 split
 refine ⟨h.h.1,h.h.2.1,h.h.2.2.1, ?_⟩
 show (g.Seen ++ [n]).length ≤ _
 rw [o4,List.length_singleton]
 omega
 exact h.h⟩
instance (g:ax) (e:qE) [h:Q (aJ g)]:Q (aJ (c8 g e)):=⟨h.h⟩
instance (g:ax) [h:Q (aJ g)]:Q (aJ (fU g)):=⟨h.h⟩
instance (g:ax) [h:Q (aJ g)]:Q (aJ (held g)):=⟨h.h⟩
instance (g:ax) (v:Int) [h:Q (aJ g)]:Q (aJ (sx g v)):=⟨(inferInstance:Q (aJ (fU (L1 { g with A:=v } v)))).h⟩
instance (g:ax) [h:Q (aJ g)]:Q (aJ (interrupted g)):=⟨by
 unfold interrupted
 split
 exact (inferInstance:Q (aJ (L1 { g with av:=g.av - 2 ^ (dH g.av).toNat } (100 + dH g.av)))).h
 exact h.h⟩
instance (g:ax) [h:Q (aJ g)]:Q (aJ (ir g)):=⟨by
 unfold ir
 simp only
 split
 exact h.h
 split
 split
 exact h.h
 split
 exact h.h
 split <;> exact h.h
 exact h.h⟩
theorem saw_pc (g:ax) (n:Int):(L1 g n).Pc=g.Pc:=by unfold L1;split <;> rfl
instance (g:ax) (n a:Int) [h:Q (a ≤ g.Pc)]:Q (a ≤ (L1 g n).Pc):=⟨by rw [saw_pc];exact h.h⟩
theorem Od (h:g.Pc ≥ 12):fU g={ g with Pc:=12 }:=by unfold fU;rw [if_pos h]
theorem Oe (h:¬ g.Pc ≥ 12):fU g={ g with Pc:=g.Pc + 1 }:=by unfold fU;rw [if_neg h]
theorem GR (h:0 ≤ dH p):dH p ≤ 7:=(xH h).2.2.2.2.2.1
theorem GS (h:0 ≤ dH p):aF Tryz.prog 436 [I p] (RG [.c (.v (.int .i64 (p - 2 ^ (dH p).toNat))), .c (.v (.int .i64 (dH p))), .c (.v (.bool true))]):=by
 have h1:=xI p
 rw [(xH h).2.2.2.2.2.2] at h1
 exact h1
theorem GU (h:0 ≤ dH p):aF Tryz.prog 409 [I p] (RG [.c (.v (.int .i64 (p - 2 ^ (dH p).toNat))), .c (.v (.int .i64 (dH p))), .c (.v (.bool true))]):=by
 have h1:=xJ p
 rw [(xH h).2.2.2.2.2.2] at h1
 exact h1
theorem yU (h:k7 g=true):0 ≤ dH g.av:=by
 simp only [k7,bh,decide_eq_true_eq] at h
 exact h.2
theorem ua (g:ax):aF Tryz.prog 337 [A (bK g)] (RV (.int .i64 (aK g))):=by
 refine aF.w 24 Tryz.func337 fun w g0 _=> ?_
 refine ah (zY _).k ?_
 refine aB ?_ ?_ <;> intro hb
 exact ay (by first|(unfold aK;simp [*];done))
 refine ah (wv _).k ?_
 refine aB ?_ ?_ <;> intro iz
 exact ay (by first|(unfold aK;simp [*];done))
 refine ah (mH _ _).k ?_
 refine aB ?_ ?_ <;> intro tr
 exact ay (by first|(unfold aK;simp [*];done))
 refine aB ?_ ?_ <;> intro AJ
 exact ay (by first|(unfold aK;simp [*];done))
 refine aB ?_ ?_ <;> intro D0
 exact ay (by first|(unfold aK;simp [*];done))
 refine aB ?_ ?_ <;> intro Pz
 exact ay (by first|(unfold aK;simp [*];done))
 refine aB ?_ ?_ <;> intro TD
 exact ay (by first|(unfold aK;simp [*];done))
 exact ay (by first|(unfold aK;simp [*];done))
theorem nt (g:ax):aF Tryz.prog 257 [A (bK g)] (RV (.int .i64 (aK g))):=by
 refine aF.w 26 Tryz.func257 fun w g0 _=> ?_
 refine ah (zZ _).k ?_
 refine aB ?_ ?_ <;> intro hb
 exact ay (by first|(unfold aK;simp [*];done))
 refine ah (wz _).k ?_
 refine aB ?_ ?_ <;> intro iz
 exact ay (by first|(unfold aK;simp [*];done))
 refine ah (kQ _ _).k ?_
 refine aB ?_ ?_ <;> intro tr
 exact ay (by first|(unfold aK;simp [*];done))
 refine aB ?_ ?_ <;> intro AJ
 exact ay (by first|(unfold aK;simp [*];done))
 refine aB ?_ ?_ <;> intro D0
 exact ay (by first|(unfold aK;simp [*];done))
 refine aB ?_ ?_ <;> intro Pz
 exact ay (by first|(unfold aK;simp [*];done))
 refine aB ?_ ?_ <;> intro TD
 exact ay (by first|(unfold aK;simp [*];done))
 exact ay (by first|(unfold aK;simp [*];done))
theorem AK (g:ax) [Q (aJ g)]:aF Tryz.prog 338 [A (bK g)] (RG [.a (bK (interrupted g))]):=by
 refine aF.w 24 Tryz.func338 fun w g0 _=> ?_
 refine ah (wv _).k ?_
 refine aB ?_ ?_ <;> intro hb
 refine an (jf _).k ?_
 exact (by rw [show interrupted g=g from if_neg (by simp [*])];rfl)
 have ht0:=yU (g:=g) ‹_›
 have ht7:=GR ht0
 refine an (GS (yU ‹_›)).k ?_
 refine cg ?_
 refine an (GP { g with av:=g.av - 2 ^ (dH g.av).toNat } (100 + dH g.av)).k ?_
 exact (by rw [show interrupted g=L1 _ _ from if_pos ‹_›];rfl)
theorem AL (g:ax) [Q (aJ g)]:aF Tryz.prog 390 [A (bK g)] (RG [.a (bK (interrupted g))]):=by
 refine aF.w 24 Tryz.func390 fun w g0 _=> ?_
 refine ah (wz _).k ?_
 refine aB ?_ ?_ <;> intro hb
 refine an (e8 _).k ?_
 exact (by rw [show interrupted g=g from if_neg (by simp [*])];rfl)
 have ht0:=yU (g:=g) ‹_›
 have ht7:=GR ht0
 refine an (GU (yU ‹_›)).k ?_
 refine cg ?_
 refine an (GQ { g with av:=g.av - 2 ^ (dH g.av).toNat } (100 + dH g.av)).k ?_
 exact (by rw [show interrupted g=L1 _ _ from if_pos ‹_›];rfl)
theorem ef (g:ax) [Q (aJ g)] [DE:Q (-9223372036854775808 ≤ g.Pc)]:aF Tryz.prog 438 [A (bK g)] (RG [.a (bK (fU g))]):=by
 refine aF.w 14 Tryz.func438 fun w g0 _=> ?_
 have hpc0:=DE.h
 refine an (jf _).k ?_
 refine aB ?_ ?_ <;> intro hb
 exact (by rw [Od (by omega)];rfl)
 refine cg ?_
 exact (by rw [Oe (by omega)];rfl)
theorem jI (g:ax) [Q (aJ g)] [DE:Q (-9223372036854775808 ≤ g.Pc)]:aF Tryz.prog 381 [A (bK g)] (RG [.a (bK (fU g))]):=by
 refine aF.w 15 Tryz.func381 fun w g0 _=> ?_
 have hpc0:=DE.h
 refine an (e8 _).k ?_
 refine aB ?_ ?_ <;> intro hb
 exact (by rw [Od (by omega)];rfl)
 refine cg ?_
 exact (by rw [Oe (by omega)];rfl)
theorem GV (g:ax):aF Tryz.prog 439 [A (bK g)] (RV (.int .i64 (address g))):=by
 refine aF.w 18 Tryz.func439 fun w g0 _=> ?_
 refine ah (ua _).k ?_
 refine aB ?_ ?_ <;> intro oe
 refine aB ?_ ?_ <;> intro hb
 exact ay (by unfold address;rw [if_neg (by omega)])
 refine ah (mH _ _).k ?_
 exact ay (by unfold address;rw [if_pos (by omega)])
 refine ah (mH _ _).k ?_
 exact ay (by unfold address;rw [if_pos (by omega)])
theorem xM (g:ax):aF Tryz.prog 258 [A (bK g)] (RV (.int .i64 (address g))):=by
 refine aF.w 18 Tryz.func258 fun w g0 _=> ?_
 refine ah (nt _).k ?_
 refine aB ?_ ?_ <;> intro oe
 refine aB ?_ ?_ <;> intro hb
 exact ay (by unfold address;rw [if_neg (by omega)])
 refine ah (kQ _ _).k ?_
 exact ay (by unfold address;rw [if_pos (by omega)])
 refine ah (kQ _ _).k ?_
 exact ay (by unfold address;rw [if_pos (by omega)])
theorem Jg (g:ax) [Q (aJ g)] [DE:Q (-9223372036854775808 ≤ g.Pc)]:aF Tryz.prog 443 [A (bK g)] (RG [.a (bK (fU g))]):=by
 refine aF.w 5 Tryz.func443 fun w g0 _=> ?_
 refine an (ef _).k ?_
 exact rfl
theorem p7 (g:ax) [Q (aJ g)] [DE:Q (-9223372036854775808 ≤ g.Pc)]:aF Tryz.prog 266 [A (bK g)] (RG [.a (bK (fU g))]):=by
 refine aF.w 5 Tryz.func266 fun w g0 _=> ?_
 refine an (jI _).k ?_
 exact rfl
theorem qJ (g:ax) [Q (aJ g)] [DE:Q (-9223372036854775808 ≤ g.Pc)]:aF Tryz.prog 451 [A (bK g)] (RG [.a (bK (held g))]):=by
 refine aF.w 6 Tryz.func451 fun w g0 _=> ?_
 refine an (ef { g with kg:=true }).k ?_
 exact rfl
theorem xN (g:ax) [Q (aJ g)] [DE:Q (-9223372036854775808 ≤ g.Pc)]:aF Tryz.prog 386 [A (bK g)] (RG [.a (bK (held g))]):=by
 refine aF.w 6 Tryz.func386 fun w g0 _=> ?_
 refine an (jI { g with kg:=true }).k ?_
 exact rfl
theorem Jh (g:ax) (v:Int) [Q (aJ g)] [DE:Q (-9223372036854775808 ≤ g.Pc)]:aF Tryz.prog 444 [A (bK g),I v] (RG [.a (bK (sx g v))]):=by
 refine aF.w 11 Tryz.func444 fun w g0 _=> ?_
 refine an (GP { g with A:=v } v).k ?_
 refine an (ef (L1 { g with A:=v } v)).k ?_
 exact rfl
theorem p8 (g:ax) (v:Int) [Q (aJ g)] [DE:Q (-9223372036854775808 ≤ g.Pc)]:aF Tryz.prog 267 [A (bK g),I v] (RG [.a (bK (sx g v))]):=by
 refine aF.w 11 Tryz.func267 fun w g0 _=> ?_
 refine an (GQ { g with A:=v } v).k ?_
 refine an (jI (L1 { g with A:=v } v)).k ?_
 exact rfl
end
end Go.Proofs.YtdliggkohdnipaaGreat.T
