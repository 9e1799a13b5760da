/- the program's AwayLife returns what the reference's returns, for all arguments -/
import Derived.Test.YtdliggkohdnipaaGreatRwq
import Derived.Test.YtdliggkohdnipaaGreatOfq
import Derived.Test.YtdliggkohdnipaaGreatHbq
import Derived.Test.YtdliggkohdnipaaGreatHdq
import Derived.Test.YtdliggkohdnipaaGreatHeq
import Derived.Test.YtdliggkohdnipaaGreatOdq
import Derived.Test.YtdliggkohdnipaaGreatRows
import Derived.WalkKit
import Derived.WalkSpells
import Derived.WalkLawsBesides
import Derived.ProofKit
import Derived.OpenShut
import Derived.Lib.Hide
import Derived.Test.YtdliggkohdnipaaGreatT2q
import Derived.Carry
set_option linter.unusedVariables false
set_option linter.unusedSimpArgs false
namespace Go.Proofs.YtdliggkohdnipaaGreat.T
open Go
set_option maxRecDepth 100000
set_option maxHeartbeats 8000000
theorem Uh {xs:List jE} (h:yS xs):nw xs ≤ 2097152:=by
 have:=jO (c:=fM) (N:=2) (by decide) (fun x _=>by simp [fM]) h
 unfold nw
 omega
section
variable {io:Bool} {a n pg:Int} {aX:List dF} {T:List jE} {g m p q:Nat} {u:ax} {H h:ap}
set_option maxRecDepth 100000
set_option maxHeartbeats 8000000
theorem j3 {x:aV}:(fT h m x).ai.length=h.ai.length:=bD
theorem FP {s:aQ}:(tn h m p s).ai.length=h.ai.length:=bD
theorem SZ:(cy h m p).ai.length=h.ai.length:=FP.trans j3
theorem ZQ:(xA h m p).ai.length=h.ai.length:=FP.trans j3
theorem ZR:(roomFor h).ai.length=h.ai.length:=by
 unfold roomFor
 split
 split
 exact SZ
 rfl
 rfl
theorem Ps:(cB h m p).ai.length=h.ai.length:=ZQ.trans ZR
theorem Ui:(xB h m p).ai.length=h.ai.length:=by
 unfold xB
 split
 exact j3
 exact FP.trans j3
theorem ZS:(zB h m p).ai.length=h.ai.length:=by
 unfold zB
 split
 exact FP.trans j3
 exact j3
theorem S0:(cP h m p n).ai.length=h.ai.length:=by
 have h1:(if (pu h m p).aN= -1 then cB h m p else h).ai.length=h.ai.length:=by
  split
  exact Ps
  rfl
 unfold cP
 simp only
 split
 exact h1
 exact ZS.trans h1
theorem Lh:(if n=2 then lT h m q true else h).ai.length=h.ai.length:=by
 split
 exact j3
 rfl
theorem Uj:(filled h m g pg q n).ai.length=h.ai.length:=by
 unfold filled
 split
 rfl
 exact j3.trans S0
theorem Uk {b:List bP}:(pz h io b).ai.length=h.ai.length:=by cases io <;> rfl
theorem XA:(wk h m g pg n io q).1.ai.length=h.ai.length:=by
 unfold wk
 simp only
 split
 exact Lh
 exact Uk.trans (Uj.trans Lh)
theorem M9 {m g:Int}:∀ q,find h m g pg n io=some q→q.1.ai.length=h.ai.length:=fun q hq=>by
 unfold find at hq
 split at hq
 obtain ⟨p,_,rfl⟩:=iX.1 hq
 exact XA
 cases hq
theorem Rf {w:Bool}:(ie h m g u w).ai.length=h.ai.length:=by
 unfold ie
 cases e:find h m g (bz (address u)) (cA w) false with
 | none=>exact j3
 | some q=>
  have h1:=M9 q e
  show (if w=true then iH { q.1 with au:=_ } m g _ else iH q.1 m g _).ai.length=_
  split
  exact j3.trans h1
  exact j3.trans h1
theorem ZT:(iM h m g u).ai.length=h.ai.length:=by
 unfold iM
 repeat' split
 all_goals first|exact j3|exact Rf
theorem j4 {q:Option ap} (hq:∀ k,q=some k→k.ai.length=h.ai.length):(q.getD h).ai.length=h.ai.length:=by
 cases q with
 | none=>rfl
 | some k=>exact hq k rfl
theorem s0 {m:Int} {f:aS→Option aS}:∀ k,bC h m f=some k→k.ai.length=h.ai.length:=fun k hk=>by
 unfold bC at hk
 split at hk
 obtain ⟨p,_,rfl⟩:=iX.1 hk
 exact j3
 cases hk
theorem ln_act {a:dF}:(aW h a).1.ai.length=h.ai.length:=by
 by_cases hk:1 ≤ a.Kind∧a.Kind ≤ 17
 have:a.Kind=1 ∨ a.Kind=2 ∨ a.Kind=3 ∨ a.Kind=4 ∨ a.Kind=5 ∨ a.Kind=6 ∨ a.Kind=7 ∨ a.Kind=8 ∨ a.Kind=9 ∨ a.Kind=10 ∨ a.Kind=11 ∨ a.Kind=12 ∨ a.Kind=13 ∨ a.Kind=14 ∨ a.Kind=15 ∨ a.Kind=16 ∨ a.Kind=17:=by omega
 rcases this with k|k|k|k|k|k|k|k|k|k|k|k|k|k|k|k|k
 rw [ZD k];exact j4 fun q hq=>by
  unfold cn at hq
  split at hq
  split at hq
  cases hq
  cases hq;exact ZT
  cases hq
 rw [ZE k];exact j4 s0
 rw [ZF k];exact j4 fun q hq=>by
  unfold dx at hq
  obtain ⟨p,hp,rfl⟩:=iX.1 hq
  exact j3.trans (s0 p hp)
 rw [ZG k];exact j4 s0
 rw [ZH k];exact j4 s0
 rw [ZI k];exact j4 s0
 rw [ZJ k];exact j4 s0
 rw [ZK k];exact j4 fun q hq=>by
  unfold jG at hq
  split at hq
  cases hq;exact S0
  cases hq
 rw [ZL k];exact j4 s0
 rw [SO k];exact j4 fun q hq=>by
  unfold dW at hq
  split at hq
  obtain ⟨p,hp,rfl⟩:=iX.1 hq
  obtain ⟨r,_,rfl⟩:=iX.1 hp
  exact j3
  cases hq
 rw [SP k];exact j4 fun q hq=>by
  unfold kP at hq
  split at hq
  obtain ⟨p,hp,rfl⟩:=iX.1 hq
  exact M9 p hp
  cases hq
 rw [SQ k];exact j4 fun q hq=>by
  unfold gl at hq
  split at hq
  obtain ⟨p,hp,rfl⟩:=iX.1 hq
  obtain ⟨r,hr,rfl⟩:=iX.1 hp
  exact M9 r hr
  cases hq
 rw [SR k];exact j4 fun q hq=>by
  unfold jj at hq
  split at hq
  cases hq;exact SZ
  cases hq
 rw [SS k];exact j4 fun q hq=>by
  unfold m4 at hq
  split at hq
  cases hq;exact Ps
  cases hq
 rw [SU k];exact j4 fun q hq=>by
  unfold guard at hq
  split at hq
  cases hq;exact Ui
  cases hq
 rw [SV k];exact j4 fun q hq=>by
  unfold jd at hq
  split at hq
  cases hq;exact j3
  cases hq
 rw [SW k];exact aI ..
 rw [ZM hk]
theorem M_:∀ {l:List dF} {h:ap},(dJ aW l h).ai.length=h.ai.length
 | [],h=>rfl
 | a :: l,h=>(M_ (l:=l) (h:=(aW h a).1)).trans ln_act
theorem ZU {al:List (List (List bZ))} {l:List dF}:(je al l).1.ai.length ≤ 3:=by
 show (dJ aW _ _).ai.length ≤ 3
 rw [M_]
 show ((al.take 3).map pn).length ≤ 3
 rw [aI,e_]
 omega
theorem ln_awG {al:List (List (List bZ))}:(ZO al aX a).ai.length ≤ 3:=by
 have h1:(awH al aX a).ai.length ≤ 3:=ZU
 unfold ZO nU
 split
 show (mF _ _).length ≤ 3
 unfold mF
 rw [aI,List.length_range]
 show (mE _).length ≤ 3
 unfold mE
 rw [aI,List.length_range]
 exact h1
 exact h1
theorem XB {al:List (List (List bZ))} (hx:dY al) (hA:k8 al aX a=(H,T)):aj H∧yS T∧nv H ≤ 400000000000000∧nw T ≤ 2097152:=by
 have h1:(k8 al aX a).1=dJ aW (wV aX a) (ZO al aX a):=rfl
 have h2:(k8 al aX a).2=awT al aX a ++ toldOf aW (wV aX a) (ZO al aX a):=rfl
 rw [hA] at h1 h2
 have h3:aj H:=by rw [show H=_ from h1];exact Cx (Xy hx)
 have h4:T.length ≤ 160:=by
  rw [show T=_ from h2,o4,ve]
  have:=M5 (al:=al) (aX:=aX) (a:=a)
  have:=M6 (aX:=aX) (a:=a)
  omega
 have h5:yS T:=by unfold yS;omega
 exact ⟨h3,h5,Ug h3 (by rw [show H=_ from h1,M_];exact ln_awG),Uh h5⟩
theorem wW (al:List (List (List bZ))) (aX:List dF) (jy:Int) [Q (dY al)] [Q (ja aX)] (hr:EZ aX) (hA:k8 al aX jy=(H,T)):aF Tryz.prog 15 [L 1 (al.map de),L 6 (aX.map gO),I jy] (RG [.a (aq H), .c (.sl 2 (T.map gU))]):=by
 have h:=E_ al aX jy hr
 rw [hA] at h
 exact h
theorem Fb (al:List (List (List bZ))) (aX:List dF) (jy:Int) [Q (dY al)] [Q (ja aX)] (hA:k8 al aX jy=(H,T)):aF Tryz.prog 55 [L 1 (al.map de),L 6 (aX.map gO),I jy] (RG [.a (aq H), .c (.sl 2 (T.map gU))]):=by
 have h:=Fa al aX jy
 rw [hA] at h
 exact h
theorem vZ (x:List (List (List bZ))) (l:List dF) (jy:Int) (hr:EZ l) {R:ap} (hA:k8 x l jy=(R,T)):aF Tryz.prog 10 [L 1 (x.map de),L 6 (l.map gO),I jy] (RV (.bool true)):=by
 refine aF.w 140 Tryz.func10 fun w g0 _=> ?_
 refine ah (Ex x 1048576 (by omega) (by omega)).k ?_
 refine aB ?_ ?_ <;> intro hb
 exact rfl
 have hx0:0 ≤ jF x 1048576:=by omega
 have hx:=(DX x 1048576 hx0).2 (by omega)
 have hle:=(DX x 1048576 hx0).1
 have gz:=Mw x 1048576 hx0
 have hcn:=Mu x
 have:Q (dY x):=⟨hx⟩
 refine ah (Jp l (jF x 1048576) (by omega) (by omega)).k ?_
 refine aB ?_ ?_ <;> intro iz
 exact rfl
 have Lk:0 ≤ tX l (jF x 1048576):=by omega
 have hf:=(Ky l _ Lk).2 (by omega)
 have hfl:=(Ky l _ Lk).1
 have hcf:=QI l _ Lk
 have hcnf:=QG l
 have:Q (ja l):=⟨hf⟩
 obtain ⟨Xi,hst,hsc,htc⟩:=XB hx hA
 have XW:=OG R
 have htn:=OH T
 have hrs0:=l9 R.au
 have hrs1:=vK R.ai
 have hrs2:=jL R.Buffer
 have hrs3:=jL R.aD
 have hrs5:nv R=bX R.au + gv R.ai + cY R.Buffer + cY R.aD:=rfl
 refine bu (nJ x hx).k ?_
 refine bu (qc l hf).k ?_
 refine an (Fb x l jy hA).k ?_
 refine bu (nJ x hx).k ?_
 refine bu (qc l hf).k ?_
 refine an (wW x l jy hr hA).k ?_
 refine ah (uj R R).k ?_
 refine aB ?_ ?_ <;> intro Fu
 (exfalso;contradiction)
 refine ah (sN T T).k ?_
 refine aB ?_ ?_ <;> intro tr
 (exfalso;contradiction)
 refine bu (nJ x hx).k ?_
 refine ah (Ez x x).k ?_
 refine aB ?_ ?_ <;> intro AJ
 (exfalso;contradiction)
 refine bu (qc l hf).k ?_
 refine ah (Jv l l).k ?_
 refine aB ?_ ?_ <;> intro D0
 (exfalso;contradiction)
 refine zN [(39,0)] (BZ x 1 (by omega) (by omega) hx) ?_
 refine zN [(41,0)] (EC l (1 + pG x) (by omega) (by omega) hf) ?_
 refine aB ?_ ?_ <;> intro oe
 (exfalso;omega)
 refine ah (uj R R).k ?_
 refine aB ?_ ?_ <;> intro Tz
 (exfalso;contradiction)
 refine ah (sN T T).k ?_
 refine aB ?_ ?_ <;> intro Pz
 (exfalso;contradiction)
 refine zN [(12,0),(12,1),(12,2),(12,3)] (EB R 1 (by omega) (by omega) Xi) ?_
 refine zN [(46,4)] (C_ T (1 + bX R.au + gv R.ai + cY R.Buffer + cY R.aD) (by omega) (by omega) hst) ?_
 refine ah (wF R 1 (by omega) (by omega) Xi).k ?_
 refine aB ?_ ?_ <;> intro TD
 (exfalso;omega)
 refine ah (uX T (1 + bX R.au + gv R.ai + cY R.Buffer + cY R.aD) (by omega) (by omega) hst).k ?_
 refine aB ?_ ?_ <;> intro YT
 (exfalso;omega)
 refine aB ?_ ?_ <;> intro hb9
 (exfalso;omega)
 refine bu (nJ x hx).k ?_
 refine bu (qc l hf).k ?_
 refine an (wW x l jy hr hA).k ?_
 refine ah (uj R R).k ?_
 refine aB ?_ ?_ <;> intro Fu
 (exfalso;contradiction)
 refine ah (sN T T).k ?_
 refine aB ?_ ?_ <;> intro We
 (exfalso;contradiction)
 refine ah (wF R 1 (by omega) (by omega) Xi).k ?_
 refine aB ?_ ?_ <;> intro Wf
 (exfalso;omega)
 refine ah (uX T (1 + bX R.au + gv R.ai + cY R.Buffer + cY R.aD) (by omega) (by omega) hst).k ?_
 refine aB ?_ ?_ <;> intro Wg
 (exfalso;omega)
 refine aB ?_ ?_ <;> intro YU
 (exfalso;omega)
 exact rfl
end
end Go.Proofs.YtdliggkohdnipaaGreat.T
namespace Go.Proofs.YtdliggkohdnipaaGreat.Base
open Go.ChangeShapes Go.WideShapes Go.ChangeAt Go.RowKit
section
variable {H:Type} {enc:TypeId×Value→H} {P:Program}
theorem JI {f:Func} {s:ChangeSpec} {apart fresh handsOn again:Bool} {W W':World} {args:Array Value} {v:Value} {ds gs:List (DataW H)} {before pa pv:List MemPlace}
  (hW:DataW.Whole enc P f.params.toList s.vars apart W args.toList ds gs before)
  (hres:∀ (b:Nat) (sp:Nat→Bool) (hd:Bool),DataW.TrodAll enc P W' b sp hd f.resultTypes.toList (v.resultList f.resultTypes.size) (s.fn H (ds ++ gs)).results [])
  (hargs:∀ sp:Nat→Bool,(∀ p ∈ before,sp p.block=true)→DataW.TrodAll enc P W' 0 sp true f.params.toList args.toList (s.fn H (ds ++ gs)).args pa)
  (hvars:∀ sp:Nat→Bool,(∀ p ∈ before,sp p.block=true)→DataW.TrodVars enc P W' sp s.vars (s.fn H (ds ++ gs)).vars pv)
  (hps:before=pa ++ pv) (hb:Below W.heap.size W W')
  (hok:∀ (j:Nat) (t:TypeId) (r:Value),f.resultTypes[j]? = some t→(v.resultList f.resultTypes.size)[j]? = some r→Value.okWide P W' .any 0 t r):
  s.post enc P f apart fresh handsOn again W args v W':=by
 have hlt:∀ p ∈ before,p.block < W.heap.size:=fun p hp=>hW.lt p hp
 have hold:∀ p ∈ before,(fun b=>decide (b < W.heap.size)) p.block=true:=fun p hp=>by simpa using hlt p hp
 refine ⟨ds,gs,before,[],pa,pv,hW,hres _ _ _,hargs _ hold,hvars _ hold,World.keptBut_mono (fun p hp=>⟨hp, ?_⟩) (hb.frame (· ∈ before)),fun _=> ?_⟩
 rw [hps,List.mem_append] at hp
 exact Or.inr hp
 obtain ⟨_,_,_,_,_,hz,hn⟩:=hW
 refine ⟨hok,_,_,([] ++ pa) ++ pv,⟨[] ++ pa,pv,trodAll_append (hargs _ (fun _ _=>rfl)) (hres _ _ _),hvars _ (fun _ _=>rfl),rfl, ?_, ?_⟩, ?_⟩
 intro b off hp
 have hin:MemPlace.cell b off ∈ before:=by rw [hps];simpa using hp
 rw [hb.frozen (hlt _ hin)]
 exact hz b off hin
 intro ha
 have:=hn ha
 rw [hps] at this
 simpa using this
 intro p hp _
 rw [hps]
 simpa using hp
end
theorem own:ownKnob Tryz.prog.godebug=none:=by kernel_rfl
end Go.Proofs.YtdliggkohdnipaaGreat.Base
namespace Go.Proofs.YtdliggkohdnipaaGreat.ExactAwayLife
open Go.ChangeShapes Go.WideShapes Go.ChangeAt Go.RowKit Go.Proofs.YtdliggkohdnipaaGreat.Base Go.Proofs.YtdliggkohdnipaaGreat.T
section
variable {r:List D}
set_option maxRecDepth 100000
def I64 (n:Int):Prop:= -9223372036854775808 ≤ n∧n ≤ 9223372036854775807
theorem XC {n:Int} (h:(Lit.int .i64 n).wf=true):I64 n:=by
 simp only [Lit.wf,bh,decide_eq_true_eq] at h
 have h1:IntKind.i64.min= -9223372036854775808:=by decide
 have h2:IntKind.i64.max=9223372036854775807:=by decide
 rw [h1,h2] at h
 exact h
theorem qS {t:Ty} {l:List Ty} (h:Ta (t :: l) r):∃ a b,r=a ++ b∧t.is a∧Ta l b:=by rw [Ta] at h;exact h
theorem S1 (h:Ta [] r):r=[]:=by rw [Ta] at h;exact h
theorem Cy {α:Type} {f: α→D} {q: α→Prop} {p:D→Prop} (h:∀ d,p d→∃ x,d=f x∧q x):∀ {ds:List D},(∀ d ∈ ds,p d)→∃ xs:List α,ds=xs.map f∧∀ x ∈ xs,q x
 | [],_=>⟨[],rfl,fun x hx=>by cases hx⟩
 | d :: ds,hd=>by
  obtain ⟨x,rfl,hx⟩:=h d (hd d uy)
  obtain ⟨xs,rfl,hxs⟩:=Cy h (ds:=ds) fun d' h'=>hd d' (xb _ h')
  refine ⟨x :: xs,rfl,fun y hy=> ?_⟩
  rcases m8.1 hy with rfl|hy
  exact hx
  exact hxs y hy
abbrev oK:Ty:= .int .i64
def Ag (x:Int):Prop:=I64 x
theorem yx (r:List D) (h:oK.is r):∃ x,r=[bS x]∧Ag x:=by
 simp only [Ty.is] at h
 obtain ⟨n,rfl,hw⟩:=h
 exact ⟨n,rfl,XC hw⟩
theorem el_Int (d:D) (h:oK.elem d):∃ x,d=bS x∧Ag x:=by
 simp only [Ty.elem] at h
 obtain ⟨n,rfl,hw⟩:=h
 exact ⟨n,rfl,XC hw⟩
abbrev tyIns:Ty:= .st [oK,oK]
def XD (x:bZ):Prop:=Ag x.Op∧Ag x.X
theorem ZV (r:List D) (h:Ta [oK,oK] r):∃ x,r=Eo x∧XD x:=by
 obtain ⟨a0,b0,e0,g0,h0⟩:=qS h
 obtain ⟨x0,e00,w0⟩:=yx _ g0
 obtain ⟨a1,b1,e1,g1,h1⟩:=qS h0
 obtain ⟨x1,e11,w1⟩:=yx _ g1
 have en:=S1 h1
 exact ⟨⟨x0,x1⟩,by rw [e0,e00,e1,e11,en];rfl,⟨w0,w1⟩⟩
theorem el_Ins (d:D) (h:tyIns.elem d):∃ x,d=i_ x∧XD x:=by
 rw [Ty.elem] at h
 obtain ⟨r,rfl,h⟩:=h
 obtain ⟨x,rfl,hx⟩:=ZV r h
 exact ⟨x,rfl,hx⟩
abbrev XE:Ty:= .list tyIns
def XF (xs:List bZ):Prop:=∀ x ∈ xs,XD x
theorem ZW (d:D) (h:XE.elem d):∃ x,d=h_ x∧XF x:=by
 rw [Ty.elem] at h
 obtain ⟨ds,rfl,h⟩:=h
 obtain ⟨xs,rfl,hx⟩:=Cy el_Ins h
 exact ⟨xs,rfl,hx⟩
abbrev S2:Ty:= .list XE
def S3 (xs:List (List bZ)):Prop:=∀ x ∈ xs,XF x
theorem XG (d:D) (h:S2.elem d):∃ x,d=de x∧S3 x:=by
 rw [Ty.elem] at h
 obtain ⟨ds,rfl,h⟩:=h
 obtain ⟨xs,rfl,hx⟩:=Cy ZW h
 exact ⟨xs,rfl,hx⟩
abbrev Pt:Ty:= .list S2
def XH (xs:List (List (List bZ))):Prop:=∀ x ∈ xs,S3 x
theorem Ul (d:D) (h:Pt.elem d):∃ x,d=YN x∧XH x:=by
 rw [Ty.elem] at h
 obtain ⟨ds,rfl,h⟩:=h
 obtain ⟨xs,rfl,hx⟩:=Cy XG h
 exact ⟨xs,rfl,hx⟩
abbrev tyAct:Ty:= .st [oK,oK,oK,oK,oK,oK]
def XI (x:dF):Prop:=Ag x.Kind∧Ag x.M∧Ag x.G∧Ag x.X∧Ag x.Y∧Ag x.Z
theorem ZX (r:List D) (h:Ta [oK,oK,oK,oK,oK,oK] r):∃ x,r=CY x∧XI x:=by
 obtain ⟨a0,b0,e0,g0,h0⟩:=qS h
 obtain ⟨x0,e00,w0⟩:=yx _ g0
 obtain ⟨a1,b1,e1,g1,h1⟩:=qS h0
 obtain ⟨x1,e11,w1⟩:=yx _ g1
 obtain ⟨a2,b2,e2,g2,h2⟩:=qS h1
 obtain ⟨x2,e22,w2⟩:=yx _ g2
 obtain ⟨a3,b3,e3,g3,h3⟩:=qS h2
 obtain ⟨x3,e33,w3⟩:=yx _ g3
 obtain ⟨a4,b4,e4,g4,h4⟩:=qS h3
 obtain ⟨x4,e44,w4⟩:=yx _ g4
 obtain ⟨a5,b5,e5,g5,h5⟩:=qS h4
 obtain ⟨x5,e55,w5⟩:=yx _ g5
 have en:=S1 h5
 exact ⟨⟨x0,x1,x2,x3,x4,x5⟩,by rw [e0,e00,e1,e11,e2,e22,e3,e33,e4,e44,e5,e55,en];rfl,⟨w0,w1,w2,w3,w4,w5⟩⟩
theorem el_Act (d:D) (h:tyAct.elem d):∃ x,d=gO x∧XI x:=by
 rw [Ty.elem] at h
 obtain ⟨r,rfl,h⟩:=h
 obtain ⟨x,rfl,hx⟩:=ZX r h
 exact ⟨x,rfl,hx⟩
abbrev XJ:Ty:= .list tyAct
def WfActS (xs:List dF):Prop:=∀ x ∈ xs,XI x
theorem ZY (d:D) (h:XJ.elem d):∃ x,d=dActS x∧WfActS x:=by
 rw [Ty.elem] at h
 obtain ⟨ds,rfl,h⟩:=h
 obtain ⟨xs,rfl,hx⟩:=Cy el_Act h
 exact ⟨xs,rfl,hx⟩
theorem contract (H:Type) (enc:TypeId×Value→H) (W:World) (base:Nat) (args:Array Value) (ds gs:List (DataW H)) (before:List MemPlace)
  (hval:∀ (j:Nat) t v,Tryz.f10.params[j]? = some t→args[j]? = some v→Value.okWide Tryz.prog W .any base t v)
  (hW:DataW.Whole enc Tryz.prog Tryz.f10.params.toList Rows.fnExactAwayLifeSpec.vars false W args.toList ds gs before):
  Calls Tryz.prog 10 args W fun e W'=>∃ v,e= .returned v∧Rows.fnExactAwayLifeSpec.post enc Tryz.prog Tryz.f10 false true false false W args v W':=by
 have hW':=hW
 obtain ⟨p,q,hA0,hV,rfl,hfz,hnd⟩:=hW
 have hA:DataW.TrodAll enc Tryz.prog W 0 (fun _=>true) true Tryz.f10.params.toList args.toList ds p:=hA0
 rw [Tryz.params10] at hA hval
 obtain ⟨v0,vs0,d0,ds0,p0,q0,hargs0,rfl,rfl,h0,r0⟩:=trodAll_cons hA
 obtain ⟨v1,vs1,d1,ds1,p1,q1,hargs1,rfl,rfl,h1,r1⟩:=trodAll_cons r0
 obtain ⟨v2,vs2,d2,PZ,p2,q2,hargs2,rfl,rfl,h2,r2⟩:=trodAll_cons r1
 obtain ⟨rfl,rfl,rfl⟩:=trodAll_nil r2
 obtain rfl:args= #[v0,v1,v2]:=by cases args;simp_all
 obtain ⟨rfl,rfl⟩:=trodVars_none hV
 clear hA0
 simp only [List.append_nil] at hW'
 have hlt:∀ x ∈ (p0 ++ (p1 ++ (p2))),x.block < W.heap.size:=fun x hx=>hW'.lt x hx
 obtain ⟨a0,len0,cap0,hv0⟩:=okWide_slice Tryz.underlying98 (hval 0 98 v0 rfl rfl)
 obtain ⟨l0,eW,uB⟩:=FX (e:=Pt) (by kernel_rfl) h0 (by rw [hv0];rfl) rfl
 obtain ⟨x0,rfl,hwf0⟩:=Ul l0 eW
 obtain ⟨a1,len1,cap1,hv1⟩:=okWide_slice Tryz.underlying88 (hval 1 88 v1 rfl rfl)
 obtain ⟨l1,F3,hrep1⟩:=FX (e:=XJ) (by kernel_rfl) h1 (by rw [hv1];rfl) rfl
 obtain ⟨x1,rfl,hwf1⟩:=ZY l1 F3
 obtain ⟨a2,hv2⟩:=okWide_int Tryz.underlying3 (hval 2 3 v2 rfl rfl)
 obtain ⟨l2,Y2,hrep2⟩:=FX (e:=oK) (by kernel_rfl) h2 (by rw [hv2];rfl) rfl
 obtain ⟨x2,rfl,hwf2⟩:=el_Int l2 Y2
 refine (aF.done (vZ x0 x1 x2 (fun a ha=>(hwf1 a ha).2.2.2.1.2) (R:=(k8 x0 x1 x2).1) (T:=(k8 x0 x1 x2).2) rfl) (W:=W) (args:= #[v0,v1,v2]) rfl fun g hg i t u hi hu=> ?_).mono fun e W' ⟨he,hb⟩=> ?_
 ·match i,hi,hu with
  | 0,hi,hu=>
   have hi':=Option.some.inj hi
   have Uv:v0=u:=by simpa using hu
   subst hi';subst Uv
   exact uB g hg
  | 1,hi,hu=>
   have hi':=Option.some.inj hi
   have Uv:v1=u:=by simpa using hu
   subst hi';subst Uv
   exact hrep1 g hg
  | 2,hi,hu=>
   have hi':=Option.some.inj hi
   have Uv:v2=u:=by simpa using hu
   subst hi';subst Uv
   exact hrep2 g hg
 ·subst he
  exact ⟨_,rfl,JI (pa:=(p0 ++ (p1 ++ (p2)))) (pv:=[]) hW' (fun _ _ _=>(trodAll_cons_mk (shut_bool Tryz.underlying4 _) trodAll_mk0))
   (fun sp hsp=>by
    have:=trodAll_cons_mk (WideElems.Trod_stays (by kernel_rfl) (by kernel_rfl) (of_decide_eq_true (by kernel_rfl)) h0 (fun x hx=>hb.same (hlt x (by simp [xa,hx]))) (fun x hx=>hsp x (by simp [xa,hx]))) (trodAll_cons_mk (WideElems.Trod_stays (by kernel_rfl) (by kernel_rfl) (of_decide_eq_true (by kernel_rfl)) h1 (fun x hx=>hb.same (hlt x (by simp [xa,hx]))) (fun x hx=>hsp x (by simp [xa,hx]))) (trodAll_mk1 (WideElems.Trod_stays (by kernel_rfl) (by kernel_rfl) (of_decide_eq_true (by kernel_rfl)) h2 (fun x hx=>hb.same (hlt x (by simp [xa,hx]))) (fun x hx=>hsp x (by simp [xa,hx])))))
    exact this) (fun _ _=>rfl) (by simp)
   hb (ok_one (by kernel_rfl) rfl (okWide_bool_mk Tryz.underlying4 _))⟩
theorem lifted (os:Os) (started:os.Started) (H:Type) (enc:TypeId×Value→H):
  ReturnsInHanded {} Tryz.checked os 10 .any (Rows.fnExactAwayLifeSpec.pre6 enc Tryz.prog Tryz.f10 Rows.fnExactAwayLifeRow.domain false) (Rows.fnExactAwayLifeSpec.post enc Tryz.prog Tryz.f10 false true false false):=by
 refine returnsInHanded_of_change (C:=Tryz.checked) own started (by kernel_rfl) Tryz.func10
  (ChangeSpec.witness6 (enc:=enc) (C:=Tryz.checked) false ⟨#[], #[.slice none 0 0, .slice none 0 0, .int .i64 0],[]⟩ 8 (by kernel_rfl) (by kernel_rfl) (by kernel_rfl) (by kernel_rfl)) ?_
 intro W base args ds gs before hval hW _ _
 exact contract H enc W base args ds gs before hval hW
set_option maxHeartbeats 8000000 in
theorem joined:joinedFacts Tryz.pinned.checked.prog 10 Tryz.f10 Rows.fnExactAwayLifeSpec Rows.fnExactAwayLifeRow=true:=by
 unfold joinedFacts
 simp only [bh]
 repeat' apply And.intro
 all_goals (as_aux_lemma=>kernel_rfl)
theorem proved:Rows.FnExactAwayLifeSaid:=
 OpenClaim.holds_of_wide 10 Tryz.f10 rfl rfl rfl rfl rfl rfl rfl ⟨rfl,rfl,rfl,rfl,rfl⟩ rfl rfl rfl rfl rfl (by kernel_rfl) Tryz.func10 joined
  (of_decide_eq_true (by kernel_rfl)) (by unfold Func.isWrapper;first|(rw [if_pos (by decide +kernel)];kernel_rfl)|(rw [if_neg (by decide +kernel)];exact ⟨rfl,rfl⟩))
  (fun os started H enc _=>lifted os started H enc)
end
end Go.Proofs.YtdliggkohdnipaaGreat.ExactAwayLife
#print axioms Go.Proofs.YtdliggkohdnipaaGreat.ExactAwayLife.proved
