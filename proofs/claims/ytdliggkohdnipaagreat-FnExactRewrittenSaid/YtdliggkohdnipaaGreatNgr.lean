import Derived.Test.YtdliggkohdnipaaGreatNdr
set_option linter.unusedVariables false
set_option linter.unusedSimpArgs false
namespace Go.Proofs.YtdliggkohdnipaaGreat.T
open Go
section
variable {p y:Int} {i:Nat}
set_option maxRecDepth 100000
set_option maxHeartbeats 1000000
theorem pow8 {n:Nat} (h:n ≤ 7):IntKind.i64.wrap (1 * 2 ^ n)=2 ^ n:=by
 have:∀ m:Fin 8,IntKind.i64.wrap (1 * 2 ^ m.1)=2 ^ m.1:=by decide +kernel
 exact this ⟨n,by omega⟩
theorem shl {k:Int→Prop} (c:k (2 ^ y.toNat)) (h:0 ≤ y∧y ≤ 7:=by omega):ShlW .i64 1 y k:=⟨y.toNat,_,by omega,by show _ ≤ 64;omega,pow8 (by omega),c⟩
theorem shr {x:Int} {k:Int→Prop} (c:k (x.fdiv (2 ^ y.toNat))) (h:0 ≤ y∧y ≤ 7:=by omega):ShrW .i64 x y k:=⟨y.toNat,_,by omega,by show _ ≤ 64;omega,rfl,c⟩
def Xh (m:Nat):Nat:=(gl m 8 + 1).toNat
theorem byt8 {s:ByteArray} {i:Int} {k:UInt8→Prop} (c:k (UInt8.ofNat (Xh i.toNat))) (h:(∀ p:Fin 256,s[p.1]? = some (UInt8.ofNat (Xh p.1))):=by decide +kernel) (h0:0 ≤ i∧i < 256:=by omega):Yo s i k:=⟨i.toNat,_,by omega,h ⟨i.toNat,by omega⟩,c⟩
theorem Aq (h:0 ≤ p∧p ≤ 255):((UInt8.ofNat (Xh p.toNat)).toNat:Int)=gl p 8 + 1∧ -1 ≤ gl p 8∧gl p 8 ≤ 7:=by
 have:∀ m:Fin 256,((UInt8.ofNat (Xh m.1)).toNat:Int)=gl m.1 8 + 1∧ -1 ≤ gl m.1 8∧gl m.1 8 ≤ 7:=by decide +kernel
 have h1:=this ⟨p.toNat,by omega⟩
 simpa [show ((p.toNat:Nat):Int)=p by omega] using h1
theorem Uy (h:0 ≤ p∧p ≤ 255) (h0:0 ≤ gl p 8):Ml p (2 ^ (gl p 8).toNat)=p - 2 ^ (gl p 8).toNat∧0 ≤ p - 2 ^ (gl p 8).toNat∧p - 2 ^ (gl p 8).toNat ≤ 255:=by
 have:∀ m:Fin 256,0 ≤ gl m.1 8→Ml m.1 (2 ^ (gl m.1 8).toNat)=m.1 - 2 ^ (gl m.1 8).toNat∧(0:Int) ≤ m.1 - 2 ^ (gl m.1 8).toNat∧(m.1:Int) - 2 ^ (gl m.1 8).toNat ≤ 255:=by decide +kernel
 have h1:=this ⟨p.toNat,by omega⟩
 simp only [show ((p.toNat:Nat):Int)=p by omega] at h1
 exact h1 h0
theorem OV (p:Int): -1 ≤ dn p∧dn p ≤ 7∧(0 ≤ dn p→0 ≤ p∧p ≤ 255∧dn p=gl p 8):=by
 unfold dn
 split
 rename_i h
 have h:=of_decide_eq_true h
 have:=Aq h
 omega
 omega
theorem vD (h:0 ≤ dn p):Ml p (2 ^ (dn p).toNat)=p - 2 ^ (dn p).toNat∧0 ≤ p - 2 ^ (dn p).toNat∧p - 2 ^ (dn p).toNat ≤ 255∧0 ≤ p∧p ≤ 255∧dn p ≤ 7∧gp p=some (p - 2 ^ (dn p).toNat,dn p):=by
 have h1:=OV p
 obtain ⟨h2,h3,h4⟩:=h1.2.2 h
 have h5:=Uy ⟨h2,h3⟩ (by omega)
 rw [← h4] at h5
 exact ⟨h5.1,h5.2.1,h5.2.2,h2,h3,h1.2.1,if_neg (by omega)⟩
theorem MI (h:0 < i):gl p i=if bit p ((i:Int) - 1) then (i:Int) - 1 else gl p (i - 1):=by
 obtain ⟨j,rfl⟩:∃ j,i=j + 1:=⟨i - 1,by omega⟩
 have:((j + 1:Nat):Int) - 1=j:=by omega
 rw [this]
 rfl
theorem Xi (h:0 ≤ p∧p ≤ 255) (hy:gl p 8=gl p i) (h0:0 ≤ (i:Int) - 1) (hb:ry (p.fdiv (2 ^ ((i:Int) - 1).toNat)) 1=1):dn p=(i:Int) - 1:=by
 unfold dn
 rw [if_pos (decide_eq_true h),hy,MI (by omega),if_pos (show bit p _=true from decide_eq_true hb)]
theorem Uz (hy:gl p 8=gl p i) (h0:0 ≤ (i:Int) - 1) (hb:¬ ry (p.fdiv (2 ^ ((i:Int) - 1).toNat)) 1=1):gl p 8=gl p (i - 1):=by
 rw [hy,MI (by omega),if_neg]
 exact fun h=>hb (of_decide_eq_true h)
theorem Xj (hy:gl p 8=gl p i) (h0:¬ 0 ≤ (i:Int) - 1):dn p= -1:=by
 unfold dn
 rw [hy,show i=0 by omega]
 split <;> rfl
theorem Qp (h:¬ (0 ≤ p∧p ≤ 255)):dn p= -1:=if_neg fun e=>h (of_decide_eq_true e)
theorem qT (p:Int) (n:Int):aF Tryz.prog 452 [I p,I n] (RG [.c (.v (.int .i64 ((e_ p n).getD p))), .c (.v (.bool (e_ p n).isSome))]):=by
 refine aF.w 20 Tryz.func452 fun w g0 _=> ?_
 refine ah (lT _).k ?_
 refine aB ?_ ?_ <;> intro gm
 exact (by rw [show e_ p n=none from if_neg (by simp [*])];rfl)
 refine ah (aE _ _ _).k ?_
 refine aB ?_ ?_ <;> intro hb
 exact (by rw [show e_ p n=none from if_neg (by simp [*])];rfl)
 refine cvu ?_
 refine shl ?_
 exact (by rw [show e_ p n=some (ior p (2 ^ n.toNat)) from if_pos (by simp [*])];rfl)
theorem qU (p:Int) (n:Int):aF Tryz.prog 405 [I p,I n] (RG [.c (.v (.int .i64 ((e_ p n).getD p))), .c (.v (.bool (e_ p n).isSome))]):=by
 refine aF.w 19 Tryz.func405 fun w g0 _=> ?_
 refine ah (lU _).k ?_
 refine aB ?_ ?_ <;> intro gm
 exact (by rw [show e_ p n=none from if_neg (by simp [*])];rfl)
 refine ah (aS _ _ _).k ?_
 refine aB ?_ ?_ <;> intro hb
 exact (by rw [show e_ p n=none from if_neg (by simp [*])];rfl)
 refine shl ?_
 exact (by rw [show e_ p n=some (ior p (2 ^ n.toNat)) from if_pos (by simp [*])];rfl)
theorem Ku (c:mA) (n:Int):aF Tryz.prog 490 [A (s0 c),I n] (RV (.bool (pG c n))):=by
 refine aF.w 20 Tryz.func490 fun w g0 _=> ?_
 refine ah (tZ _).k ?_
 refine aB ?_ ?_ <;> intro mS
 refine ah (aE _ _ _).k ?_
 refine aB ?_ ?_ <;> intro W9
 refine cvu ?_
 refine shr ?_
 exact ay (by simp [pG,bit, *];rfl)
 exact ay (by simp [pG,bit, *];done)
 exact ay (by simp [pG,bit, *];done)
theorem Kv (c:mA) (n:Int):aF Tryz.prog 477 [A (s0 c),I n] (RV (.bool (pG c n))):=by
 refine aF.w 19 Tryz.func477 fun w g0 _=> ?_
 refine ah (t_ _).k ?_
 refine aB ?_ ?_ <;> intro mS
 refine ah (aS _ _ _).k ?_
 refine aB ?_ ?_ <;> intro W9
 refine shr ?_
 exact ay (by simp [pG,bit, *];rfl)
 exact ay (by simp [pG,bit, *];done)
 exact ay (by simp [pG,bit, *];done)
theorem Kw (p:Int) (hp:0 ≤ p∧p ≤ 255):aF Tryz.prog 504 [V (.int .u64 p)] (RV (.int .i64 (gl p 8 + 1))):=by
 refine aF.w 25 Tryz.func504 fun w g0 _=> ?_
 refine aB ?_ ?_ <;> intro hb
 omega
 refine aB ?_ ?_ <;> intro gY
 omega
 refine aB ?_ ?_ <;> intro tY
 omega
 refine cvb ?_
 refine byt8 ?_
 have hlb:=Aq hp
 refine cvs ?_
 refine cD ?_
 exact ay (by have:=Aq hp;refine congrArg (Value.int .i64) ?_;omega)
theorem OW (p:Int) (hp:0 ≤ p∧p ≤ 255):aF Tryz.prog 499 [V (.int .u64 p)] (RV (.int .i64 (gl p 8 + 1))):=by
 refine aF.w 8 Tryz.func499 fun w g0 _=> ?_
 refine ah (Kw p hp).k ?_
 exact rfl
theorem yf (p:Int):aF Tryz.prog 471 [I p] (RV (.int .i64 (dn p))):=by
 refine aF.w 10 Tryz.func471 fun w g0 _=> ?_
 refine ah (lU _).k ?_
 refine aB ?_ ?_ <;> intro hb
 exact ay (by rw [Qp (by omega)])
 refine cvu ?_
 have hlb:=Aq (p:=p) (by omega)
 refine ah (OW p (by omega)).k ?_
 refine cD ?_
 exact ay (by unfold dn;rw [if_pos (decide_eq_true (by omega))];refine congrArg (Value.int .i64) ?_;omega)
theorem yg (p:Int):aF Tryz.prog 487 [I p] (RV (.int .i64 (dn p))):=by
 refine aF.w 19 Tryz.func487 fun w g0 _=> ?_
 refine cI [0] [] [] (fun (i:Nat)=>[.set 3 (I ((i:Int) - 1))]) (fun (i:Nat)=>[]) (fun (i:Nat)=>i ≤ 8∧gl p 8=gl p i) (fun (i:Nat)=>i) (8) (⟨by omega,rfl⟩) ?_
 refine ⟨hda,fun i hyp N1 bw=> ?_⟩
 have hyp:i ≤ 8∧gl p 8=gl p i:=hyp
 have MJ:=hyp.1
 refine aB ?_ ?_ <;> intro mS
 refine ah (lT _).k ?_
 refine aB ?_ ?_ <;> intro hb
 refine cvu ?_
 refine shr ?_
 refine aB ?_ ?_ <;> intro gY
 refine bw _ _ _ ?_
 exact ay (by rw [Xi (by omega) hyp.2 (by omega) (by assumption)])
 refine cD ?_
 refine bw _ _ _ ?_
 refine iF (i - 1) (⟨by omega,Uz hyp.2 (by omega) (by assumption)⟩)
 refine bw _ _ _ ?_
 exact ay (by rw [Qp (by omega)])
 refine bw _ _ _ ?_
 exact ay (by rw [Xj hyp.2 (by omega)])
theorem vE (p:Int):aF Tryz.prog 436 [I p] (RG [.c (.v (.int .i64 ((gp p).elim p (·.1)))), .c (.v (.int .i64 ((gp p).elim (-1) (·.2)))), .c (.v (.bool (gp p).isSome))]):=by
 refine aF.w 17 Tryz.func436 fun w g0 _=> ?_
 refine ah (yg _).k ?_
 refine aB ?_ ?_ <;> intro hb
 exact (by rw [show gp p=none from if_pos (by omega)];rfl)
 have hk:=vD (p:=p) (by omega)
 refine cvu ?_
 refine shl ?_
 refine cD ?_
 exact (by rw [hk.2.2.2.2.2.2];rfl)
theorem vF (p:Int):aF Tryz.prog 409 [I p] (RG [.c (.v (.int .i64 ((gp p).elim p (·.1)))), .c (.v (.int .i64 ((gp p).elim (-1) (·.2)))), .c (.v (.bool (gp p).isSome))]):=by
 refine aF.w 16 Tryz.func409 fun w g0 _=> ?_
 refine ah (yf _).k ?_
 refine aB ?_ ?_ <;> intro hb
 exact (by rw [show gp p=none from if_pos (by omega)];rfl)
 have hk:=vD (p:=p) (by omega)
 refine shl ?_
 exact (by rw [hk.2.2.2.2.2.2, ← hk.1];rfl)
end
set_option maxRecDepth 100000
set_option maxHeartbeats 1000000
theorem Qq {g:av} {n:Int} (h:g.Seen.length < 40):bB (Km g n)=(bB g).set 14 (.sl 1 (g.Seen.map bH ++ [bH n])):=by
 unfold Km
 rw [if_pos h]
 simp [bB]
theorem xb (g:av):canRun g=(decide (g.Exit.Kind=0∧g.Exit.aJ=0∧g.Exit.Write=false∧g.Exit.N=0) && !g.i_):=by
 unfold canRun
 congr 1
 rcases g with ⟨_,_,_,_,_,_,_,⟨a,b,c,d⟩,_,_⟩
 simp
theorem iy (g:av) [Q (aG g)]:aF Tryz.prog 424 [A (bB g)] (RG [.a (bB (g))]):=by
 refine aF.w 24 Tryz.func424 fun w g0 _=> ?_
 refine cB ?_
 refine cB ?_
 refine cB ?_
 refine cB ?_
 exact rfl
theorem eu (g:av) [Q (aG g)]:aF Tryz.prog 182 [A (bB g)] (RG [.a (bB (g))]):=by
 refine aF.w 20 Tryz.func182 fun w g0 _=> ?_
 refine bk (C3 _).k ?_
 refine bk (jz _).k ?_
 refine bk (jz _).k ?_
 refine bk (iN _).k ?_
 exact rfl
theorem vG (g:av):aF Tryz.prog 467 [A (bB g)] (RV (.bool (bL g))):=by
 refine aF.w 47 Tryz.func467 fun w g0 _=> ?_
 refine ah (Hs _).k ?_
 refine aB ?_ ?_ <;> intro gm
 refine ah (aE _ _ _).k ?_
 refine aB ?_ ?_ <;> intro Sz
 refine ah (aE _ _ _).k ?_
 refine aB ?_ ?_ <;> intro Us
 refine ah (qQ _ _ _).k ?_
 refine aB ?_ ?_ <;> intro hg18
 refine ah (qQ _ _ _).k ?_
 refine aB ?_ ?_ <;> intro hg23
 refine ah (tZ _).k ?_
 refine aB ?_ ?_ <;> intro hg28
 refine ah (lT _).k ?_
 refine aB ?_ ?_ <;> intro hg33
 refine ah (Hu _).k ?_
 refine aB ?_ ?_ <;> intro hg38
 refine len ?_
 exact ay (by refine congrArg Value.bool ?_;rw [Bool.eq_iff_iff];simp [bL, *];omega)
 exact ay (by simp only [bL, *,and_self,decide_true,decide_false,Bool.and_true,Bool.true_and,Bool.false_and,Bool.and_false,Bool.not_true,Bool.not_false];done)
 exact ay (by simp [bL, *];done)
 exact ay (by simp only [bL, *,and_self,decide_true,decide_false,Bool.and_true,Bool.true_and,Bool.false_and,Bool.and_false,Bool.not_true,Bool.not_false];done)
 exact ay (by simp only [bL, *,and_self,decide_true,decide_false,Bool.and_true,Bool.true_and,Bool.false_and,Bool.and_false,Bool.not_true,Bool.not_false];done)
 exact ay (by simp only [bL, *,and_self,decide_true,decide_false,Bool.and_true,Bool.true_and,Bool.false_and,Bool.and_false,Bool.not_true,Bool.not_false];done)
 exact ay (by simp [bL, *];done)
 exact ay (by simp [bL, *];done)
 exact ay (by simp only [bL, *,and_self,decide_true,decide_false,Bool.and_true,Bool.true_and,Bool.false_and,Bool.and_false,Bool.not_true,Bool.not_false];done)
theorem vH (g:av):aF Tryz.prog 178 [A (bB g)] (RV (.bool (bL g))):=by
 refine aF.w 47 Tryz.func178 fun w g0 _=> ?_
 refine ah (Ht _).k ?_
 refine aB ?_ ?_ <;> intro gm
 refine ah (aS _ _ _).k ?_
 refine aB ?_ ?_ <;> intro Sz
 refine ah (aS _ _ _).k ?_
 refine aB ?_ ?_ <;> intro Us
 refine ah (qR _ _ _).k ?_
 refine aB ?_ ?_ <;> intro hg18
 refine ah (qR _ _ _).k ?_
 refine aB ?_ ?_ <;> intro hg23
 refine ah (t_ _).k ?_
 refine aB ?_ ?_ <;> intro hg28
 refine ah (lU _).k ?_
 refine aB ?_ ?_ <;> intro hg33
 refine ah (Hv _).k ?_
 refine aB ?_ ?_ <;> intro hg38
 refine len ?_
 exact ay (by refine congrArg Value.bool ?_;rw [Bool.eq_iff_iff];simp [bL, *];omega)
 exact ay (by simp only [bL, *,and_self,decide_true,decide_false,Bool.and_true,Bool.true_and,Bool.false_and,Bool.and_false,Bool.not_true,Bool.not_false];done)
 exact ay (by simp [bL, *];done)
 exact ay (by simp only [bL, *,and_self,decide_true,decide_false,Bool.and_true,Bool.true_and,Bool.false_and,Bool.and_false,Bool.not_true,Bool.not_false];done)
 exact ay (by simp only [bL, *,and_self,decide_true,decide_false,Bool.and_true,Bool.true_and,Bool.false_and,Bool.and_false,Bool.not_true,Bool.not_false];done)
 exact ay (by simp only [bL, *,and_self,decide_true,decide_false,Bool.and_true,Bool.true_and,Bool.false_and,Bool.and_false,Bool.not_true,Bool.not_false];done)
 exact ay (by simp [bL, *];done)
 exact ay (by simp [bL, *];done)
 exact ay (by simp only [bL, *,and_self,decide_true,decide_false,Bool.and_true,Bool.true_and,Bool.false_and,Bool.and_false,Bool.not_true,Bool.not_false];done)
theorem yh (g:av):aF Tryz.prog 113 [A (bB g)] (RV (.bool (canRun g))):=by
 refine aF.w 12 Tryz.func113 fun w g0 _=> ?_
 refine RQ ?_
 refine aB ?_ ?_ <;> intro Kr
 exact ay (by first|(rw [xb];simp [*];done))
 exact ay (by first|(rw [xb];simp [*];done))
theorem yj (g:av):aF Tryz.prog 377 [A (bB g)] (RV (.bool (canRun g))):=by
 refine aF.w 12 Tryz.func377 fun w g0 _=> ?_
 refine RQ ?_
 refine aB ?_ ?_ <;> intro Kr
 exact ay (by first|(rw [xb];simp [*];done))
 exact ay (by first|(rw [xb];simp [*];done))
theorem uK (g:av):aF Tryz.prog 434 [A (bB g)] (RV (.bool (j8 g))):=by
 refine aF.w 16 Tryz.func434 fun w g0 _=> ?_
 refine ah (yh _).k ?_
 refine aB ?_ ?_ <;> intro mS
 refine aB ?_ ?_ <;> intro Hw
 refine ah (yg _).k ?_
 exact ay (by simp only [j8, *,and_self,decide_true,decide_false,Bool.and_true,Bool.true_and,Bool.false_and,Bool.and_false,Bool.not_true,Bool.not_false];done)
 exact ay (by simp only [j8, *,and_self,decide_true,decide_false,Bool.and_true,Bool.true_and,Bool.false_and,Bool.and_false,Bool.not_true,Bool.not_false];done)
 exact ay (by simp only [j8, *,and_self,decide_true,decide_false,Bool.and_true,Bool.true_and,Bool.false_and,Bool.and_false,Bool.not_true,Bool.not_false];done)
theorem uL (g:av):aF Tryz.prog 378 [A (bB g)] (RV (.bool (j8 g))):=by
 refine aF.w 16 Tryz.func378 fun w g0 _=> ?_
 refine ah (yj _).k ?_
 refine aB ?_ ?_ <;> intro mS
 refine aB ?_ ?_ <;> intro Hw
 refine ah (yf _).k ?_
 exact ay (by simp only [j8, *,and_self,decide_true,decide_false,Bool.and_true,Bool.true_and,Bool.false_and,Bool.and_false,Bool.not_true,Bool.not_false];done)
 exact ay (by simp only [j8, *,and_self,decide_true,decide_false,Bool.and_true,Bool.true_and,Bool.false_and,Bool.and_false,Bool.not_true,Bool.not_false];done)
 exact ay (by simp only [j8, *,and_self,decide_true,decide_false,Bool.and_true,Bool.true_and,Bool.false_and,Bool.and_false,Bool.not_true,Bool.not_false];done)
theorem Fb (g:av) (n:Int) [Q (aG g)]:aF Tryz.prog 437 [A (bB g),I n] (RG [.a (bB (Km g n))]):=by
 refine aF.w 18 Tryz.func437 fun w g0 _=> ?_
 refine ak (iy _).k ?_
 refine len ?_
 refine aB ?_ ?_ <;> intro hb
 refine cB ?_
 exact (by rw [Qq (by omega)];rfl)
 exact (by rw [show Km g n=g from if_neg (by omega)];rfl)
theorem Fc (g:av) (n:Int) [Q (aG g)]:aF Tryz.prog 382 [A (bB g),I n] (RG [.a (bB (Km g n))]):=by
 refine aF.w 19 Tryz.func382 fun w g0 _=> ?_
 refine ak (eu _).k ?_
 refine len ?_
 refine aB ?_ ?_ <;> intro hb
 refine cB ?_
 exact (by rw [Qq (by omega)];rfl)
 exact (by rw [show Km g n=g from if_neg (by omega)];rfl)
theorem fE (g:av) (e:kF) [Q (aG g)]:aF Tryz.prog 441 [A (bB g),A (oJ e)] (RG [.a (bB (cT g e))]):=by
 refine aF.w 10 Tryz.func441 fun w g0 _=> ?_
 refine ak (iy _).k ?_
 exact rfl
theorem fF (g:av) (e:kF) [Q (aG g)]:aF Tryz.prog 262 [A (bB g),A (oJ e)] (RG [.a (bB (cT g e))]):=by
 refine aF.w 11 Tryz.func262 fun w g0 _=> ?_
 refine ak (eu _).k ?_
 exact rfl
section
variable {p:Int} {g:av}
set_option maxRecDepth 100000
set_option maxHeartbeats 1000000
instance (g:av) (n:Int) [h:Q (aG g)]:Q (aG (Km g n)):=⟨by
 unfold Km
 split
 refine ⟨h.h.1,h.h.2.1,h.h.2.2.1, ?_⟩
 show (g.Seen ++ [n]).length ≤ _
 rw [List.length_append,List.length_singleton]
 omega
 exact h.h⟩
instance (g:av) (e:kF) [h:Q (aG g)]:Q (aG (cT g e)):=⟨h.h⟩
instance (g:av) [h:Q (aG g)]:Q (aG (fj g)):=⟨h.h⟩
instance (g:av) [h:Q (aG g)]:Q (aG (held g)):=⟨h.h⟩
instance (g:av) (v:Int) [h:Q (aG g)]:Q (aG (qN g v)):=⟨(inferInstance:Q (aG (fj (Km { g with A:=v } v)))).h⟩
instance (g:av) [h:Q (aG g)]:Q (aG (interrupted g)):=⟨by
 unfold interrupted
 split
 exact (inferInstance:Q (aG (Km { g with ax:=g.ax - 2 ^ (dn g.ax).toNat } (100 + dn g.ax)))).h
 exact h.h⟩
instance (g:av) [h:Q (aG g)]:Q (aG (gI g)):=⟨by
 unfold gI
 simp only
 split
 exact h.h
 split
 split
 exact h.h
 split
 exact h.h
 split <;> exact h.h
 exact h.h⟩
theorem saw_pc (g:av) (n:Int):(Km g n).Pc=g.Pc:=by unfold Km;split <;> rfl
instance (g:av) (n a:Int) [h:Q (a ≤ g.Pc)]:Q (a ≤ (Km g n).Pc):=⟨by rw [saw_pc];exact h.h⟩
theorem MK (h:g.Pc ≥ 12):fj g={ g with Pc:=12 }:=by unfold fj;rw [if_pos h]
theorem ML (h:¬ g.Pc ≥ 12):fj g={ g with Pc:=g.Pc + 1 }:=by unfold fj;rw [if_neg h]
theorem Fe (h:0 ≤ dn p):dn p ≤ 7:=(vD h).2.2.2.2.2.1
theorem Ff (h:0 ≤ dn p):aF Tryz.prog 436 [I p] (RG [.c (.v (.int .i64 (p - 2 ^ (dn p).toNat))), .c (.v (.int .i64 (dn p))), .c (.v (.bool true))]):=by
 have h1:=vE p
 rw [(vD h).2.2.2.2.2.2] at h1
 exact h1
theorem Fg (h:0 ≤ dn p):aF Tryz.prog 409 [I p] (RG [.c (.v (.int .i64 (p - 2 ^ (dn p).toNat))), .c (.v (.int .i64 (dn p))), .c (.v (.bool true))]):=by
 have h1:=vF p
 rw [(vD h).2.2.2.2.2.2] at h1
 exact h1
theorem xd (h:j8 g=true):0 ≤ dn g.ax:=by
 simp only [j8,Bool.and_eq_true,decide_eq_true_eq] at h
 exact h.2
theorem sv (g:av):aF Tryz.prog 337 [A (bB g)] (RV (.int .i64 (aH g))):=by
 refine aF.w 24 Tryz.func337 fun w g0 _=> ?_
 refine ah (yh _).k ?_
 refine aB ?_ ?_ <;> intro hb
 exact ay (by first|(unfold aH;simp [*];done))
 refine ah (uK _).k ?_
 refine aB ?_ ?_ <;> intro gY
 exact ay (by first|(unfold aH;simp [*];done))
 refine ah (kZ _ _).k ?_
 refine aB ?_ ?_ <;> intro tY
 exact ay (by first|(unfold aH;simp [*];done))
 refine aB ?_ ?_ <;> intro yW
 exact ay (by first|(unfold aH;simp [*];done))
 refine aB ?_ ?_ <;> intro CE
 exact ay (by first|(unfold aH;simp [*];done))
 refine aB ?_ ?_ <;> intro NX
 exact ay (by first|(unfold aH;simp [*];done))
 refine aB ?_ ?_ <;> intro RS
 exact ay (by first|(unfold aH;simp [*];done))
 exact ay (by first|(unfold aH;simp [*];done))
theorem lV (g:av):aF Tryz.prog 257 [A (bB g)] (RV (.int .i64 (aH g))):=by
 refine aF.w 26 Tryz.func257 fun w g0 _=> ?_
 refine ah (yj _).k ?_
 refine aB ?_ ?_ <;> intro hb
 exact ay (by first|(unfold aH;simp [*];done))
 refine ah (uL _).k ?_
 refine aB ?_ ?_ <;> intro gY
 exact ay (by first|(unfold aH;simp [*];done))
 refine ah (jU _ _).k ?_
 refine aB ?_ ?_ <;> intro tY
 exact ay (by first|(unfold aH;simp [*];done))
 refine aB ?_ ?_ <;> intro yW
 exact ay (by first|(unfold aH;simp [*];done))
 refine aB ?_ ?_ <;> intro CE
 exact ay (by first|(unfold aH;simp [*];done))
 refine aB ?_ ?_ <;> intro NX
 exact ay (by first|(unfold aH;simp [*];done))
 refine aB ?_ ?_ <;> intro RS
 exact ay (by first|(unfold aH;simp [*];done))
 exact ay (by first|(unfold aH;simp [*];done))
theorem yX (g:av) [Q (aG g)]:aF Tryz.prog 338 [A (bB g)] (RG [.a (bB (interrupted g))]):=by
 refine aF.w 24 Tryz.func338 fun w g0 _=> ?_
 refine ah (uK _).k ?_
 refine aB ?_ ?_ <;> intro hb
 refine ak (iy _).k ?_
 exact (by rw [show interrupted g=g from if_neg (by simp [*])];rfl)
 have ht0:=xd (g:=g) (by assumption)
 have ht7:=Fe ht0
 refine ak (Ff (xd (by assumption))).k ?_
 refine cD ?_
 refine ak (Fb { g with ax:=g.ax - 2 ^ (dn g.ax).toNat } (100 + dn g.ax)).k ?_
 exact (by rw [show interrupted g=Km _ _ from if_pos (by assumption)];rfl)
theorem yY (g:av) [Q (aG g)]:aF Tryz.prog 390 [A (bB g)] (RG [.a (bB (interrupted g))]):=by
 refine aF.w 24 Tryz.func390 fun w g0 _=> ?_
 refine ah (uL _).k ?_
 refine aB ?_ ?_ <;> intro hb
 refine ak (eu _).k ?_
 exact (by rw [show interrupted g=g from if_neg (by simp [*])];rfl)
 have ht0:=xd (g:=g) (by assumption)
 have ht7:=Fe ht0
 refine ak (Fg (xd (by assumption))).k ?_
 refine cD ?_
 refine ak (Fc { g with ax:=g.ax - 2 ^ (dn g.ax).toNat } (100 + dn g.ax)).k ?_
 exact (by rw [show interrupted g=Km _ _ from if_pos (by assumption)];rfl)
theorem dI (g:av) [Q (aG g)] [Ch:Q (-9223372036854775808 ≤ g.Pc)]:aF Tryz.prog 438 [A (bB g)] (RG [.a (bB (fj g))]):=by
 refine aF.w 14 Tryz.func438 fun w g0 _=> ?_
 have hpc0:=Ch.h
 refine ak (iy _).k ?_
 refine aB ?_ ?_ <;> intro hb
 exact (by rw [MK (by omega)];rfl)
 refine cD ?_
 exact (by rw [ML (by omega)];rfl)
theorem iX (g:av) [Q (aG g)] [Ch:Q (-9223372036854775808 ≤ g.Pc)]:aF Tryz.prog 381 [A (bB g)] (RG [.a (bB (fj g))]):=by
 refine aF.w 15 Tryz.func381 fun w g0 _=> ?_
 have hpc0:=Ch.h
 refine ak (eu _).k ?_
 refine aB ?_ ?_ <;> intro hb
 exact (by rw [MK (by omega)];rfl)
 refine cD ?_
 exact (by rw [ML (by omega)];rfl)
theorem Fh (g:av):aF Tryz.prog 439 [A (bB g)] (RV (.int .i64 (address g))):=by
 refine aF.w 18 Tryz.func439 fun w g0 _=> ?_
 refine ah (sv _).k ?_
 refine aB ?_ ?_ <;> intro mS
 refine aB ?_ ?_ <;> intro hb
 exact ay (by unfold address;rw [if_neg (by omega)])
 refine ah (kZ _ _).k ?_
 exact ay (by unfold address;rw [if_pos (by omega)])
 refine ah (kZ _ _).k ?_
 exact ay (by unfold address;rw [if_pos (by omega)])
theorem vI (g:av):aF Tryz.prog 258 [A (bB g)] (RV (.int .i64 (address g))):=by
 refine aF.w 18 Tryz.func258 fun w g0 _=> ?_
 refine ah (lV _).k ?_
 refine aB ?_ ?_ <;> intro mS
 refine aB ?_ ?_ <;> intro hb
 exact ay (by unfold address;rw [if_neg (by omega)])
 refine ah (jU _ _).k ?_
 exact ay (by unfold address;rw [if_pos (by omega)])
 refine ah (jU _ _).k ?_
 exact ay (by unfold address;rw [if_pos (by omega)])
theorem Hx (g:av) [Q (aG g)] [Ch:Q (-9223372036854775808 ≤ g.Pc)]:aF Tryz.prog 443 [A (bB g)] (RG [.a (bB (fj g))]):=by
 refine aF.w 5 Tryz.func443 fun w g0 _=> ?_
 refine ak (dI _).k ?_
 exact rfl
theorem ot (g:av) [Q (aG g)] [Ch:Q (-9223372036854775808 ≤ g.Pc)]:aF Tryz.prog 266 [A (bB g)] (RG [.a (bB (fj g))]):=by
 refine aF.w 5 Tryz.func266 fun w g0 _=> ?_
 refine ak (iX _).k ?_
 exact rfl
theorem oO (g:av) [Q (aG g)] [Ch:Q (-9223372036854775808 ≤ g.Pc)]:aF Tryz.prog 451 [A (bB g)] (RG [.a (bB (held g))]):=by
 refine aF.w 6 Tryz.func451 fun w g0 _=> ?_
 refine ak (dI { g with i_:=true }).k ?_
 exact rfl
theorem vJ (g:av) [Q (aG g)] [Ch:Q (-9223372036854775808 ≤ g.Pc)]:aF Tryz.prog 386 [A (bB g)] (RG [.a (bB (held g))]):=by
 refine aF.w 6 Tryz.func386 fun w g0 _=> ?_
 refine ak (iX { g with i_:=true }).k ?_
 exact rfl
theorem Hy (g:av) (v:Int) [Q (aG g)] [Ch:Q (-9223372036854775808 ≤ g.Pc)]:aF Tryz.prog 444 [A (bB g),I v] (RG [.a (bB (qN g v))]):=by
 refine aF.w 11 Tryz.func444 fun w g0 _=> ?_
 refine ak (Fb { g with A:=v } v).k ?_
 refine ak (dI (Km { g with A:=v } v)).k ?_
 exact rfl
theorem ou (g:av) (v:Int) [Q (aG g)] [Ch:Q (-9223372036854775808 ≤ g.Pc)]:aF Tryz.prog 267 [A (bB g),I v] (RG [.a (bB (qN g v))]):=by
 refine aF.w 11 Tryz.func267 fun w g0 _=> ?_
 refine ak (Fc { g with A:=v } v).k ?_
 refine ak (iX (Km { g with A:=v } v)).k ?_
 exact rfl
end
end Go.Proofs.YtdliggkohdnipaaGreat.T
