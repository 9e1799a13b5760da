/- the program's Rewritten returns what the reference's returns, for all arguments -/
import Derived.Test.YtdliggkohdnipaaGreatRows
import Derived.WalkKit
import Derived.WalkSpells
import Derived.WalkLawsBesides
import Derived.ProofKit
import Derived.OpenShut
import Derived.Lib.Hide
import Derived.Test.YtdliggkohdnipaaGreatSbr
import Derived.Test.YtdliggkohdnipaaGreatT2r
import Derived.Carry
set_option linter.unusedVariables false
set_option linter.unusedSimpArgs false
namespace Go.Proofs.YtdliggkohdnipaaGreat.Base
open Go.ChangeShapes Go.WideShapes Go.ChangeAt Go.RowKit
section
variable {H:Type} {enc:TypeId×Value→H} {P:Program}
theorem Ia {f:Func} {s:ChangeSpec} {apart fresh handsOn again:Bool} {W W':World} {args:Array Value} {v:Value} {ds gs:List (DataW H)} {before pa pv:List MemPlace}
  (hW:DataW.Whole enc P f.params.toList s.vars apart W args.toList ds gs before)
  (hres:∀ (b:Nat) (sp:Nat→Bool) (hd:Bool),DataW.TrodAll enc P W' b sp hd f.resultTypes.toList (v.resultList f.resultTypes.size) (s.fn H (ds ++ gs)).results [])
  (hargs:∀ sp:Nat→Bool,(∀ p ∈ before,sp p.block=true)→DataW.TrodAll enc P W' 0 sp true f.params.toList args.toList (s.fn H (ds ++ gs)).args pa)
  (hvars:∀ sp:Nat→Bool,(∀ p ∈ before,sp p.block=true)→DataW.TrodVars enc P W' sp s.vars (s.fn H (ds ++ gs)).vars pv)
  (hps:before=pa ++ pv) (hb:Below W.heap.size W W')
  (hok:∀ (j:Nat) (t:TypeId) (r:Value),f.resultTypes[j]? = some t→(v.resultList f.resultTypes.size)[j]? = some r→Value.okWide P W' .any 0 t r):
  s.post enc P f apart fresh handsOn again W args v W':=by
 have hlt:∀ p ∈ before,p.block < W.heap.size:=fun p hp=>hW.lt p hp
 have hold:∀ p ∈ before,(fun b=>decide (b < W.heap.size)) p.block=true:=fun p hp=>by simpa using hlt p hp
 refine ⟨ds,gs,before,[],pa,pv,hW,hres _ _ _,hargs _ hold,hvars _ hold,World.keptBut_mono (fun p hp=>⟨hp, ?_⟩) (hb.frame (· ∈ before)),fun _=> ?_⟩
 rw [hps,List.mem_append] at hp
 exact Or.inr hp
 obtain ⟨_,_,_,_,_,hz,hn⟩:=hW
 refine ⟨hok,_,_,([] ++ pa) ++ pv,⟨[] ++ pa,pv,trodAll_append (hargs _ (fun _ _=>rfl)) (hres _ _ _),hvars _ (fun _ _=>rfl),rfl, ?_, ?_⟩, ?_⟩
 intro b off hp
 have hin:MemPlace.cell b off ∈ before:=by rw [hps];simpa using hp
 rw [hb.frozen (hlt _ hin)]
 exact hz b off hin
 intro ha
 have:=hn ha
 rw [hps] at this
 simpa using this
 intro p hp _
 rw [hps]
 simpa using hp
end
theorem own:ownKnob Tryz.prog.godebug=none:=by kernel_rfl
end Go.Proofs.YtdliggkohdnipaaGreat.Base
namespace Go.Proofs.YtdliggkohdnipaaGreat.ExactRewritten
open Go.ChangeShapes Go.WideShapes Go.ChangeAt Go.RowKit Go.Proofs.YtdliggkohdnipaaGreat.Base Go.Proofs.YtdliggkohdnipaaGreat.T
section
variable {r:List D}
set_option maxRecDepth 100000
def I64 (n:Int):Prop:= -9223372036854775808 ≤ n∧n ≤ 9223372036854775807
theorem VO {n:Int} (h:(Lit.int .i64 n).wf=true):I64 n:=by
 simp only [Lit.wf,Bool.and_eq_true,decide_eq_true_eq] at h
 have h1:IntKind.i64.min= -9223372036854775808:=by decide
 have h2:IntKind.i64.max=9223372036854775807:=by decide
 rw [h1,h2] at h
 exact h
theorem bK {t:Ty} {l:List Ty} (h:G5 (t :: l) r):∃ a b,r=a ++ b∧t.is a∧G5 l b:=by rw [G5] at h;exact h
theorem oB (h:G5 [] r):r=[]:=by rw [G5] at h;exact h
theorem mr {α:Type} {f: α→D} {q: α→Prop} {p:D→Prop} (h:∀ d,p d→∃ x,d=f x∧q x):∀ {ds:List D},(∀ d ∈ ds,p d)→∃ xs:List α,ds=xs.map f∧∀ x ∈ xs,q x
 | [],_=>⟨[],rfl,fun x hx=>by cases hx⟩
 | d :: ds,hd=>by
  obtain ⟨x,rfl,hx⟩:=h d (hd d List.mem_cons_self)
  obtain ⟨xs,rfl,hxs⟩:=mr h (ds:=ds) fun d' h'=>hd d' (List.mem_cons_of_mem _ h')
  refine ⟨x :: xs,rfl,fun y hy=> ?_⟩
  rcases List.mem_cons.1 hy with rfl|hy
  exact hx
  exact hxs y hy
abbrev dA:Ty:= .int .i64
def jh (x:Int):Prop:=I64 x
theorem gU (r:List D) (h:dA.is r):∃ x,r=[bH x]∧jh x:=by
 simp only [Ty.is] at h
 obtain ⟨n,rfl,hw⟩:=h
 exact ⟨n,rfl,VO hw⟩
theorem PF (d:D) (h:dA.elem d):∃ x,d=bH x∧jh x:=by
 simp only [Ty.elem] at h
 obtain ⟨n,rfl,hw⟩:=h
 exact ⟨n,rfl,VO hw⟩
abbrev zE:Ty:= .list dA
def G2 (xs:List Int):Prop:=∀ x ∈ xs,jh x
theorem Rg (r:List D) (h:zE.is r):∃ x,r=[aN x]∧G2 x:=by
 rw [Ty.is] at h
 obtain ⟨ds,rfl,h⟩:=h
 obtain ⟨xs,rfl,hx⟩:=mr PF h
 exact ⟨xs,rfl,hx⟩
theorem XV (d:D) (h:zE.elem d):∃ x,d=aN x∧G2 x:=by
 rw [Ty.elem] at h
 obtain ⟨ds,rfl,h⟩:=h
 obtain ⟨xs,rfl,hx⟩:=mr PF h
 exact ⟨xs,rfl,hx⟩
abbrev Be:Ty:= .list zE
def Lw (xs:List (List Int)):Prop:=∀ x ∈ xs,G2 x
theorem NP (r:List D) (h:Be.is r):∃ x,r=[Z4 x]∧Lw x:=by
 rw [Ty.is] at h
 obtain ⟨ds,rfl,h⟩:=h
 obtain ⟨xs,rfl,hx⟩:=mr XV h
 exact ⟨xs,rfl,hx⟩
abbrev VP:Ty:= .st [dA,dA]
def PG (x:aL):Prop:=jh x.aJ∧jh x.aT
theorem VQ (r:List D) (h:G5 [dA,dA] r):∃ x,r=gB x∧PG x:=by
 obtain ⟨a0,b0,e0,g0,h0⟩:=bK h
 obtain ⟨x0,Lx,w0⟩:=gU _ g0
 obtain ⟨a1,b1,e1,g1,h1⟩:=bK h0
 obtain ⟨x1,Ly,w1⟩:=gU _ g1
 have en:=oB h1
 exact ⟨⟨x0,x1⟩,by rw [e0,Lx,e1,Ly,en];rfl,⟨w0,w1⟩⟩
theorem XW (d:D) (h:VP.elem d):∃ x,d=aQ x∧PG x:=by
 rw [Ty.elem] at h
 obtain ⟨r,rfl,h⟩:=h
 obtain ⟨x,rfl,hx⟩:=VQ r h
 exact ⟨x,rfl,hx⟩
abbrev pY:Ty:= .list VP
def Bf (xs:List aL):Prop:=∀ x ∈ xs,PG x
theorem Bg (r:List D) (h:pY.is r):∃ x,r=[Z5 x]∧Bf x:=by
 rw [Ty.is] at h
 obtain ⟨ds,rfl,h⟩:=h
 obtain ⟨xs,rfl,hx⟩:=mr XW h
 exact ⟨xs,rfl,hx⟩
abbrev uz:Ty:= .bool
def Ce (_:Bool):Prop:=True
theorem Lz (r:List D) (h:uz.is r):∃ x,r=[bz x]∧Ce x:=by
 simp only [Ty.is] at h
 obtain ⟨n,rfl⟩:=h
 exact ⟨n,rfl,trivial⟩
theorem XX (d:D) (h:uz.elem d):∃ x,d=bz x∧Ce x:=by
 simp only [Ty.elem] at h
 obtain ⟨n,rfl⟩:=h
 exact ⟨n,rfl,trivial⟩
abbrev Bh:Ty:= .list uz
def LA (xs:List Bool):Prop:=∀ x ∈ xs,Ce x
theorem NQ (r:List D) (h:Bh.is r):∃ x,r=[Z6 x]∧LA x:=by
 rw [Ty.is] at h
 obtain ⟨ds,rfl,h⟩:=h
 obtain ⟨xs,rfl,hx⟩:=mr XX h
 exact ⟨xs,rfl,hx⟩
abbrev YQ:Ty:= .st [dA,dA]
def VR (x:iK):Prop:=jh x.Op∧jh x.X
theorem XY (r:List D) (h:G5 [dA,dA] r):∃ x,r=E3 x∧VR x:=by
 obtain ⟨a0,b0,e0,g0,h0⟩:=bK h
 obtain ⟨x0,Lx,w0⟩:=gU _ g0
 obtain ⟨a1,b1,e1,g1,h1⟩:=bK h0
 obtain ⟨x1,Ly,w1⟩:=gU _ g1
 have en:=oB h1
 exact ⟨⟨x0,x1⟩,by rw [e0,Lx,e1,Ly,en];rfl,⟨w0,w1⟩⟩
theorem el_Ins (d:D) (h:YQ.elem d):∃ x,d=jt x∧VR x:=by
 rw [Ty.elem] at h
 obtain ⟨r,rfl,h⟩:=h
 obtain ⟨x,rfl,hx⟩:=XY r h
 exact ⟨x,rfl,hx⟩
abbrev PI:Ty:= .list YQ
def VS (xs:List iK):Prop:=∀ x ∈ xs,VR x
theorem XZ (r:List D) (h:PI.is r):∃ x,r=[dInsS x]∧VS x:=by
 rw [Ty.is] at h
 obtain ⟨ds,rfl,h⟩:=h
 obtain ⟨xs,rfl,hx⟩:=mr el_Ins h
 exact ⟨xs,rfl,hx⟩
abbrev VT:Ty:= .st [dA,dA,uz]
def VU (x:mA):Prop:=jh x.bq∧jh x.Post∧Ce x.Open
theorem X0 (r:List D) (h:G5 [dA,dA,uz] r):∃ x,r=s0 x∧VU x:=by
 obtain ⟨a0,b0,e0,g0,h0⟩:=bK h
 obtain ⟨x0,Lx,w0⟩:=gU _ g0
 obtain ⟨a1,b1,e1,g1,h1⟩:=bK h0
 obtain ⟨x1,Ly,w1⟩:=gU _ g1
 obtain ⟨a2,b2,e2,g2,h2⟩:=bK h1
 obtain ⟨x2,Sm,w2⟩:=Lz _ g2
 have en:=oB h2
 exact ⟨⟨x0,x1,x2⟩,by rw [e0,Lx,e1,Ly,e2,Sm,en];rfl,⟨w0,w1,w2⟩⟩
theorem is_Ctl (r:List D) (h:VT.is r):∃ x,r=s0 x∧VU x:=by
 rw [Ty.is] at h
 exact X0 r h
abbrev PJ:Ty:= .st [dA,dA,uz,dA]
def PK (x:kF):Prop:=jh x.Kind∧jh x.aJ∧Ce x.Write∧jh x.N
theorem VV (r:List D) (h:G5 [dA,dA,uz,dA] r):∃ x,r=oJ x∧PK x:=by
 obtain ⟨a0,b0,e0,g0,h0⟩:=bK h
 obtain ⟨x0,Lx,w0⟩:=gU _ g0
 obtain ⟨a1,b1,e1,g1,h1⟩:=bK h0
 obtain ⟨x1,Ly,w1⟩:=gU _ g1
 obtain ⟨a2,b2,e2,g2,h2⟩:=bK h1
 obtain ⟨x2,Sm,w2⟩:=Lz _ g2
 obtain ⟨a3,b3,e3,g3,h3⟩:=bK h2
 obtain ⟨x3,VW,w3⟩:=gU _ g3
 have en:=oB h3
 exact ⟨⟨x0,x1,x2,x3⟩,by rw [e0,Lx,e1,Ly,e2,Sm,e3,VW,en];rfl,⟨w0,w1,w2,w3⟩⟩
theorem X1 (r:List D) (h:PJ.is r):∃ x,r=oJ x∧PK x:=by
 rw [Ty.is] at h
 exact VV r h
abbrev Rh:Ty:= .st [PI,dA,dA,pY,pY,VT,dA,PJ,uz,zE]
def LB (x:av):Prop:=VS x.Prog∧jh x.A∧jh x.Pc∧Bf x.Written∧Bf x.Live∧VU x.iG∧jh x.ax∧PK x.Exit∧Ce x.i_∧G2 x.Seen
theorem Sn (r:List D) (h:G5 [PI,dA,dA,pY,pY,VT,dA,PJ,uz,zE] r):∃ x,r=bB x∧LB x:=by
 obtain ⟨a0,b0,e0,g0,h0⟩:=bK h
 obtain ⟨x0,Lx,w0⟩:=XZ _ g0
 obtain ⟨a1,b1,e1,g1,h1⟩:=bK h0
 obtain ⟨x1,Ly,w1⟩:=gU _ g1
 obtain ⟨a2,b2,e2,g2,h2⟩:=bK h1
 obtain ⟨x2,Sm,w2⟩:=gU _ g2
 obtain ⟨a3,b3,e3,g3,h3⟩:=bK h2
 obtain ⟨x3,VW,w3⟩:=Bg _ g3
 obtain ⟨a4,b4,e4,g4,h4⟩:=bK h3
 obtain ⟨x4,e44,w4⟩:=Bg _ g4
 obtain ⟨a5,b5,e5,g5,h5⟩:=bK h4
 obtain ⟨x5,e55,w5⟩:=is_Ctl _ g5
 obtain ⟨a6,b6,e6,g6,h6⟩:=bK h5
 obtain ⟨x6,e66,w6⟩:=gU _ g6
 obtain ⟨a7,b7,e7,g7,h7⟩:=bK h6
 obtain ⟨x7,e77,w7⟩:=X1 _ g7
 obtain ⟨a8,b8,e8,g8,h8⟩:=bK h7
 obtain ⟨x8,e88,w8⟩:=Lz _ g8
 obtain ⟨a9,b9,e9,g9,h9⟩:=bK h8
 obtain ⟨x9,e99,w9⟩:=Rg _ g9
 have en:=oB h9
 exact ⟨⟨x0,x1,x2,x3,x4,x5,x6,x7,x8,x9⟩,by rw [e0,Lx,e1,Ly,e2,Sm,e3,VW,e4,e44,e5,e55,e6,e66,e7,e77,e8,e88,e9,e99,en];rfl,⟨w0,w1,w2,w3,w4,w5,w6,w7,w8,w9⟩⟩
theorem VX (d:D) (h:Rh.elem d):∃ x,d=aY x∧LB x:=by
 rw [Ty.elem] at h
 obtain ⟨r,rfl,h⟩:=h
 obtain ⟨x,rfl,hx⟩:=Sn r h
 exact ⟨x,rfl,hx⟩
abbrev G3:Ty:= .list Rh
def NR (xs:List av):Prop:=∀ x ∈ xs,LB x
theorem So (r:List D) (h:G3.is r):∃ x,r=[W7 x]∧NR x:=by
 rw [Ty.is] at h
 obtain ⟨ds,rfl,h⟩:=h
 obtain ⟨xs,rfl,hx⟩:=mr VX h
 exact ⟨xs,rfl,hx⟩
abbrev VY:Ty:= .st [Bh,pY]
def PM (x:bQ):Prop:=LA x.bY∧Bf x.c8
theorem VZ (r:List D) (h:G5 [Bh,pY] r):∃ x,r=fU x∧PM x:=by
 obtain ⟨a0,b0,e0,g0,h0⟩:=bK h
 obtain ⟨x0,Lx,w0⟩:=NQ _ g0
 obtain ⟨a1,b1,e1,g1,h1⟩:=bK h0
 obtain ⟨x1,Ly,w1⟩:=Bg _ g1
 have en:=oB h1
 exact ⟨⟨x0,x1⟩,by rw [e0,Lx,e1,Ly,en];rfl,⟨w0,w1⟩⟩
theorem X2 (d:D) (h:VY.elem d):∃ x,d=bS x∧PM x:=by
 rw [Ty.elem] at h
 obtain ⟨r,rfl,h⟩:=h
 obtain ⟨x,rfl,hx⟩:=VZ r h
 exact ⟨x,rfl,hx⟩
abbrev LC:Ty:= .list VY
def Ri (xs:List bQ):Prop:=∀ x ∈ xs,PM x
theorem V0 (r:List D) (h:LC.is r):∃ x,r=[Z7 x]∧Ri x:=by
 rw [Ty.is] at h
 obtain ⟨ds,rfl,h⟩:=h
 obtain ⟨xs,rfl,hx⟩:=mr X2 h
 exact ⟨xs,rfl,hx⟩
abbrev YR:Ty:= .st [pY,Be,Bh,G3,zE,dA,dA,LC,dA]
def V1 (x:aO):Prop:=Bf x.ai∧Lw x.Out∧LA x.a_∧NR x.aa∧G2 x.bX∧jh x.ax∧jh x.bq∧Ri x.Tables∧jh x.Own
theorem X3 (r:List D) (h:G5 [pY,Be,Bh,G3,zE,dA,dA,LC,dA] r):∃ x,r=va x∧V1 x:=by
 obtain ⟨a0,b0,e0,g0,h0⟩:=bK h
 obtain ⟨x0,Lx,w0⟩:=Bg _ g0
 obtain ⟨a1,b1,e1,g1,h1⟩:=bK h0
 obtain ⟨x1,Ly,w1⟩:=NP _ g1
 obtain ⟨a2,b2,e2,g2,h2⟩:=bK h1
 obtain ⟨x2,Sm,w2⟩:=NQ _ g2
 obtain ⟨a3,b3,e3,g3,h3⟩:=bK h2
 obtain ⟨x3,VW,w3⟩:=So _ g3
 obtain ⟨a4,b4,e4,g4,h4⟩:=bK h3
 obtain ⟨x4,e44,w4⟩:=Rg _ g4
 obtain ⟨a5,b5,e5,g5,h5⟩:=bK h4
 obtain ⟨x5,e55,w5⟩:=gU _ g5
 obtain ⟨a6,b6,e6,g6,h6⟩:=bK h5
 obtain ⟨x6,e66,w6⟩:=gU _ g6
 obtain ⟨a7,b7,e7,g7,h7⟩:=bK h6
 obtain ⟨x7,e77,w7⟩:=V0 _ g7
 obtain ⟨a8,b8,e8,g8,h8⟩:=bK h7
 obtain ⟨x8,e88,w8⟩:=gU _ g8
 have en:=oB h8
 exact ⟨⟨x0,x1,x2,x3,x4,x5,x6,x7,x8⟩,by rw [e0,Lx,e1,Ly,e2,Sm,e3,VW,e4,e44,e5,e55,e6,e66,e7,e77,e8,e88,en];rfl,⟨w0,w1,w2,w3,w4,w5,w6,w7,w8⟩⟩
theorem el_Mon (d:D) (h:YR.elem d):∃ x,d=bh x∧V1 x:=by
 rw [Ty.elem] at h
 obtain ⟨r,rfl,h⟩:=h
 obtain ⟨x,rfl,hx⟩:=X3 r h
 exact ⟨x,rfl,hx⟩
abbrev PN:Ty:= .list YR
def V2 (xs:List aO):Prop:=∀ x ∈ xs,V1 x
theorem X4 (r:List D) (h:PN.is r):∃ x,r=[dMonS x]∧V2 x:=by
 rw [Ty.is] at h
 obtain ⟨ds,rfl,h⟩:=h
 obtain ⟨xs,rfl,hx⟩:=mr el_Mon h
 exact ⟨xs,rfl,hx⟩
abbrev Rj:Ty:= .st [dA,dA,dA,dA]
def LD (x:bt):Prop:=jh x.Tag∧jh x.aJ∧jh x.Host∧jh x.aT
theorem Sp (r:List D) (h:G5 [dA,dA,dA,dA] r):∃ x,r=nQ x∧LD x:=by
 obtain ⟨a0,b0,e0,g0,h0⟩:=bK h
 obtain ⟨x0,Lx,w0⟩:=gU _ g0
 obtain ⟨a1,b1,e1,g1,h1⟩:=bK h0
 obtain ⟨x1,Ly,w1⟩:=gU _ g1
 obtain ⟨a2,b2,e2,g2,h2⟩:=bK h1
 obtain ⟨x2,Sm,w2⟩:=gU _ g2
 obtain ⟨a3,b3,e3,g3,h3⟩:=bK h2
 obtain ⟨x3,VW,w3⟩:=gU _ g3
 have en:=oB h3
 exact ⟨⟨x0,x1,x2,x3⟩,by rw [e0,Lx,e1,Ly,e2,Sm,e3,VW,en];rfl,⟨w0,w1,w2,w3⟩⟩
theorem V3 (d:D) (h:Rj.elem d):∃ x,d=aA x∧LD x:=by
 rw [Ty.elem] at h
 obtain ⟨r,rfl,h⟩:=h
 obtain ⟨x,rfl,hx⟩:=Sp r h
 exact ⟨x,rfl,hx⟩
abbrev wA:Ty:= .list Rj
def G4 (xs:List bt):Prop:=∀ x ∈ xs,LD x
theorem JC (r:List D) (h:wA.is r):∃ x,r=[W8 x]∧G4 x:=by
 rw [Ty.is] at h
 obtain ⟨ds,rfl,h⟩:=h
 obtain ⟨xs,rfl,hx⟩:=mr V3 h
 exact ⟨xs,rfl,hx⟩
def WfHost (x:an):Prop:=Lw x.au∧V2 x.ap∧G4 x.Buffer∧G4 x.aC
theorem V4 (r:List D) (h:G5 [Be,PN,wA,wA] r):∃ x,r=aq x∧WfHost x:=by
 obtain ⟨a0,b0,e0,g0,h0⟩:=bK h
 obtain ⟨x0,Lx,w0⟩:=NP _ g0
 obtain ⟨a1,b1,e1,g1,h1⟩:=bK h0
 obtain ⟨x1,Ly,w1⟩:=X4 _ g1
 obtain ⟨a2,b2,e2,g2,h2⟩:=bK h1
 obtain ⟨x2,Sm,w2⟩:=JC _ g2
 obtain ⟨a3,b3,e3,g3,h3⟩:=bK h2
 obtain ⟨x3,VW,w3⟩:=JC _ g3
 have en:=oB h3
 exact ⟨⟨x0,x1,x2,x3⟩,by rw [e0,Lx,e1,Ly,e2,Sm,e3,VW,en];rfl,⟨w0,w1,w2,w3⟩⟩
abbrev YT:Ty:= .st [dA,dA,dA,dA,dA,dA]
def V5 (x:gn):Prop:=jh x.Kind∧jh x.M∧jh x.G∧jh x.X∧jh x.Y∧jh x.Z
theorem X5 (r:List D) (h:G5 [dA,dA,dA,dA,dA,dA] r):∃ x,r=BG x∧V5 x:=by
 obtain ⟨a0,b0,e0,g0,h0⟩:=bK h
 obtain ⟨x0,Lx,w0⟩:=gU _ g0
 obtain ⟨a1,b1,e1,g1,h1⟩:=bK h0
 obtain ⟨x1,Ly,w1⟩:=gU _ g1
 obtain ⟨a2,b2,e2,g2,h2⟩:=bK h1
 obtain ⟨x2,Sm,w2⟩:=gU _ g2
 obtain ⟨a3,b3,e3,g3,h3⟩:=bK h2
 obtain ⟨x3,VW,w3⟩:=gU _ g3
 obtain ⟨a4,b4,e4,g4,h4⟩:=bK h3
 obtain ⟨x4,e44,w4⟩:=gU _ g4
 obtain ⟨a5,b5,e5,g5,h5⟩:=bK h4
 obtain ⟨x5,e55,w5⟩:=gU _ g5
 have en:=oB h5
 exact ⟨⟨x0,x1,x2,x3,x4,x5⟩,by rw [e0,Lx,e1,Ly,e2,Sm,e3,VW,e4,e44,e5,e55,en];rfl,⟨w0,w1,w2,w3,w4,w5⟩⟩
theorem el_Act (d:D) (h:YT.elem d):∃ x,d=lP x∧V5 x:=by
 rw [Ty.elem] at h
 obtain ⟨r,rfl,h⟩:=h
 obtain ⟨x,rfl,hx⟩:=X5 r h
 exact ⟨x,rfl,hx⟩
abbrev V6:Ty:= .list YT
def WfActS (xs:List gn):Prop:=∀ x ∈ xs,V5 x
theorem X6 (d:D) (h:V6.elem d):∃ x,d=dActS x∧WfActS x:=by
 rw [Ty.elem] at h
 obtain ⟨ds,rfl,h⟩:=h
 obtain ⟨xs,rfl,hx⟩:=mr el_Act h
 exact ⟨xs,rfl,hx⟩
theorem contract (H:Type) (enc:TypeId×Value→H) (W:World) (base:Nat) (args:Array Value) (ds gs:List (DataW H)) (before:List MemPlace)
  (hval:∀ (j:Nat) t v,Tryz.f9.params[j]? = some t→args[j]? = some v→Value.okWide Tryz.prog W .any base t v)
  (hW:DataW.Whole enc Tryz.prog Tryz.f9.params.toList Rows.fnExactRewrittenSpec.vars false W args.toList ds gs before):
  Calls Tryz.prog 9 args W fun e W'=>∃ v,e= .returned v∧Rows.fnExactRewrittenSpec.post enc Tryz.prog Tryz.f9 false true false false W args v W':=by
 have hW':=hW
 obtain ⟨p,q,hA0,hV,rfl,hfz,hnd⟩:=hW
 have hA:DataW.TrodAll enc Tryz.prog W 0 (fun _=>true) true Tryz.f9.params.toList args.toList ds p:=hA0
 rw [Tryz.params9] at hA hval
 obtain ⟨v0,vs0,d0,ds0,p0,q0,hargs0,rfl,rfl,h0,r0⟩:=trodAll_cons hA
 obtain ⟨v1,vs1,d1,ds1,p1,q1,hargs1,rfl,rfl,h1,r1⟩:=trodAll_cons r0
 obtain ⟨v2,vs2,d2,Oj,p2,q2,hargs2,rfl,rfl,h2,r2⟩:=trodAll_cons r1
 obtain ⟨rfl,rfl,rfl⟩:=trodAll_nil r2
 obtain rfl:args= #[v0,v1,v2]:=by cases args;simp_all
 obtain ⟨rfl,rfl⟩:=trodVars_none hV
 clear hA0
 simp only [List.append_nil] at hW'
 have hlt:∀ x ∈ (p0 ++ (p1 ++ (p2))),x.block < W.heap.size:=fun x hx=>hW'.lt x hx
 obtain ⟨us0,hv0,_⟩:=okWide_struct Tryz.underlying87 (hval 0 87 v0 rfl rfl)
 obtain ⟨l0,eK,sO⟩:=Ob (fs:=[Be,PN,wA,wA]) (by kernel_rfl) h0 hv0
 obtain ⟨x0,rfl,hwf0⟩:=V4 l0 eK
 obtain ⟨a1,hv1⟩:=okWide_int Tryz.underlying3 (hval 1 3 v1 rfl rfl)
 obtain ⟨l1,Hg,hrep1⟩:=L3 (e:=dA) (by kernel_rfl) h1 (by rw [hv1];rfl) rfl
 obtain ⟨x1,rfl,hwf1⟩:=PF l1 Hg
 obtain ⟨a2,len2,cap2,hv2⟩:=okWide_slice Tryz.underlying88 (hval 2 88 v2 rfl rfl)
 obtain ⟨l2,hl2,hrep2⟩:=L3 (e:=V6) (by kernel_rfl) h2 (by rw [hv2];rfl) rfl
 obtain ⟨x2,rfl,hwf2⟩:=X6 l2 hl2
 refine (aF.done (tB x0 x1 x2 (fun a ha=>(hwf2 a ha).2.2.2.1.2)) (W:=W) (args:= #[v0,v1,v2]) rfl fun g hg i t u hi hu=> ?_).mono fun e W' ⟨he,hb⟩=> ?_
 ·match i,hi,hu with
  | 0,hi,hu=>
   have hi':=Option.some.inj hi
   have SA:v0=u:=by simpa using hu
   subst hi';subst SA
   exact sO g hg
  | 1,hi,hu=>
   have hi':=Option.some.inj hi
   have SA:v1=u:=by simpa using hu
   subst hi';subst SA
   exact hrep1 g hg
  | 2,hi,hu=>
   have hi':=Option.some.inj hi
   have SA:v2=u:=by simpa using hu
   subst hi';subst SA
   exact hrep2 g hg
 ·subst he
  exact ⟨_,rfl,Ia (pa:=(p0 ++ (p1 ++ (p2)))) (pv:=[]) hW' (fun _ _ _=>(trodAll_cons_mk (shut_bool Tryz.underlying4 _) trodAll_mk0))
   (fun sp hsp=>by
    have:=trodAll_cons_mk (WideElems.Trod_stays (by kernel_rfl) (by kernel_rfl) (of_decide_eq_true (by kernel_rfl)) h0 (fun x hx=>hb.same (hlt x (by simp [List.mem_append,hx]))) (fun x hx=>hsp x (by simp [List.mem_append,hx]))) (trodAll_cons_mk (WideElems.Trod_stays (by kernel_rfl) (by kernel_rfl) (of_decide_eq_true (by kernel_rfl)) h1 (fun x hx=>hb.same (hlt x (by simp [List.mem_append,hx]))) (fun x hx=>hsp x (by simp [List.mem_append,hx]))) (trodAll_mk1 (WideElems.Trod_stays (by kernel_rfl) (by kernel_rfl) (of_decide_eq_true (by kernel_rfl)) h2 (fun x hx=>hb.same (hlt x (by simp [List.mem_append,hx]))) (fun x hx=>hsp x (by simp [List.mem_append,hx])))))
    exact this) (fun _ _=>rfl) (by simp)
   hb (ok_one (by kernel_rfl) rfl (okWide_bool_mk Tryz.underlying4 _))⟩
theorem lifted (os:Os) (started:os.Started) (H:Type) (enc:TypeId×Value→H):
  ReturnsInHanded {} Tryz.checked os 9 .any (Rows.fnExactRewrittenSpec.pre6 enc Tryz.prog Tryz.f9 Rows.fnExactRewrittenRow.domain false) (Rows.fnExactRewrittenSpec.post enc Tryz.prog Tryz.f9 false true false false):=by
 refine returnsInHanded_of_change (C:=Tryz.checked) own started (by kernel_rfl) Tryz.func9
  (ChangeSpec.witness6 (enc:=enc) (C:=Tryz.checked) false ⟨#[], #[.agg #[.slice none 0 0, .slice none 0 0, .slice none 0 0, .slice none 0 0], .int .i64 0, .slice none 0 0],[]⟩ 8 (by kernel_rfl) (by kernel_rfl) (by kernel_rfl) (by kernel_rfl)) ?_
 intro W base args ds gs before hval hW _ _
 exact contract H enc W base args ds gs before hval hW
set_option maxHeartbeats 8000000 in
theorem joined:joinedFacts Tryz.pinned.checked.prog 9 Tryz.f9 Rows.fnExactRewrittenSpec Rows.fnExactRewrittenRow=true:=by
 unfold joinedFacts
 simp only [Bool.and_eq_true]
 repeat' apply And.intro
 all_goals (as_aux_lemma=>kernel_rfl)
theorem proved:Rows.FnExactRewrittenSaid:=
 OpenClaim.holds_of_wide 9 Tryz.f9 rfl rfl rfl rfl rfl rfl rfl ⟨rfl,rfl,rfl,rfl,rfl⟩ rfl rfl rfl rfl rfl (by kernel_rfl) Tryz.func9 joined
  (of_decide_eq_true (by kernel_rfl)) (by unfold Func.isWrapper;first|(rw [if_pos (by decide +kernel)];kernel_rfl)|(rw [if_neg (by decide +kernel)];exact ⟨rfl,rfl⟩))
  (fun os started H enc _=>lifted os started H enc)
end
end Go.Proofs.YtdliggkohdnipaaGreat.ExactRewritten
#print axioms Go.Proofs.YtdliggkohdnipaaGreat.ExactRewritten.proved
