import Derived.Test.YtdliggkohdnipaaGreatNrr
import Derived.Test.YtdliggkohdnipaaGreatOer
import Derived.Test.YtdliggkohdnipaaGreatPfr
import Derived.Test.YtdliggkohdnipaaGreatRvr
import Derived.Test.YtdliggkohdnipaaGreatRar
import Derived.Test.YtdliggkohdnipaaGreatOcr
set_option linter.unusedVariables false
set_option linter.unusedSimpArgs false
namespace Go.Proofs.YtdliggkohdnipaaGreat.T
open Go
section
variable {m:Int} {d:List Bool} {i:Nat} {h:an}
set_option maxRecDepth 100000
set_option maxHeartbeats 8000000
abbrev gG (h:an) (m:Int):List Bool:=(dx h m).a_
theorem zC:tW h m=cz (qP (gG h m)) (gG h m).length:=by
 unfold tW gG dx je
 cases kS h.ap m with
 | none=>rfl
 | some x=>rfl
theorem Sk (hm:¬ (0 ≤ m∧m < h.ap.length)):gG h m=[]:=by
 unfold gG dx je
 rw [nR hm]
 rfl
theorem VJ {x:aO} (h0:0 ≤ m) (hx:h.ap[m.toNat]? = some x):gG h m=x.a_:=by
 unfold gG dx je kS
 rw [if_pos h0,hx]
 rfl
theorem NL (hd:d[i]? = some true):(cz (qP d) (i + 1)).map bH=(cz (qP d) i).map bH ++ [bH i]:=by rw [eG,show qP d i=true from by unfold qP;rw [hd];rfl];simp
theorem Rd (hd:d[i]? = some false):(cz (qP d) (i + 1)).map bH=(cz (qP d) i).map bH:=by rw [eG,show qP d i=false from by unfold qP;rw [hd];rfl];simp
theorem zD {h:an} {m:Int} (hh:aj h):∀ n,aj (jj h m n)
 | 0=>hh
 | n + 1=>FR (zD hh n)
instance (h:an) (m:Int) (n:Nat) [hh:Q (aj h)]:Q (aj (jj h m n)):=⟨zD hh.h n⟩
theorem GQ (hm:cO h m=false):cY h m=none:=by unfold cY;rw [hm];rfl
theorem JA (hm:cO h m=true):cY h m=some (jj h m 8):=by unfold cY;rw [hm];rfl
theorem H8 (h:an) (m:Int) [Q (aj h)]:aF Tryz.prog 233 [A (aq h),I m] (RL 1 ((gG h m).map bz)):=by
 refine aF.w 19 Tryz.func233 fun w g0 hM=> ?_
 have LK:=(inferInstance:dc h.ap 1048576).h
 have eK:=hM.1.2.1.map
 refine len ?_
 refine ah (bA _ _).k ?_
 refine aB ?_ ?_ <;> intro hb
 ·exact (by rw [Sk (by omega)];rfl)
 ·have hx0:=cC (h:=h) (m:=m) (by omega)
  have sJ:Q (bf (cE h m.toNat)):=⟨j6.h _ (List.mem_of_getElem? hx0)⟩
  refine fN hx0 ?_
  skip
  refine cB ?_
  exact (by rw [VJ (by omega) hx0];rfl)
theorem GR (h:an) (m:Int) [Q (aj h)]:aF Tryz.prog 131 [A (aq h),I m] (RL 1 ((tW h m).map bH)):=by
 refine aF.w 25 Tryz.func131 fun w g0 _=> ?_
 have hde:(gG h m).length=(dx h m).a_.length:=rfl
 have qmo:Q (bf (dx h m)):=⟨Fx (by assumption:Q (aj h)).h⟩
 have hld:(gG h m).length ≤ 1048576:=(inferInstance:dc (dx h m).a_ 1048576).h
 refine bk (H8 h m).k ?_
 refine len ?_
 refine cI [4,5,11,12] [5] [5] (fun (i:Nat)=>[.set 13 (I i)]) (fun (i:Nat)=>[(5,⟨false,[.own (.sl 1 ((cz (qP (gG h m)) i).map bH))]⟩)]) (fun (i:Nat)=>i ≤ (gG h m).length) (fun (i:Nat)=>(gG h m).length - i) (0) (Nat.zero_le _) ?_
 refine ⟨hda,fun i hyp N1 bw=> ?_⟩
 have hyp:i ≤ (gG h m).length:=hyp
 have hr0:= @gQ (qP (gG h m)) i
 refine aB ?_ ?_ <;> intro hb
 obtain ⟨b,hd⟩:∃ b,(gG h m)[i]? = some b:=⟨_,List.getElem?_eq_getElem (by omega)⟩
 have NU:i < ((gG h m).map bz).length:=by rw [List.length_map];omega
 refine cS ?_
 refine aI (by assumption) ?_
 refine aB ?_ ?_ <;> intro gY
 refine ES ?_
 refine cD ?_
 refine bw _ _ _ ?_
 refine iF (i + 1) (by omega) (by repeat' first|exact rfl|refine And.intro ?_ ?_|exact True.intro|(refine eV ?_;(rw [NL (d:=gG h m) (i:=i) (by rw [hd,(by assumption:b=true)])];done)))
 refine cD ?_
 refine bw _ _ _ ?_
 refine iF (i + 1) (by omega) (by repeat' first|exact rfl|refine And.intro ?_ ?_|exact True.intro|(refine eV ?_;(rw [Rd (d:=gG h m) (i:=i) (by rw [hd,(by assumption:b=false)])];done)))
 refine bw _ _ _ ?_
 exact (by have XG:i=(gG h m).length:=(by omega);rw [zC, ← XG];rfl)
theorem GS (h:an) (m:Int) [Q (aj h)]:aF Tryz.prog 125 [A (aq h),I m] (RL 1 ((tW h m).map bH)):=by
 refine aF.w 33 Tryz.func125 fun w g0 _=> ?_
 have hde:(gG h m).length=(dx h m).a_.length:=rfl
 have qmo:Q (bf (dx h m)):=⟨Fx (by assumption:Q (aj h)).h⟩
 have hld:(gG h m).length ≤ 1048576:=(inferInstance:dc (dx h m).a_ 1048576).h
 refine ak (KD h m).k ?_
 refine cI [4,5,6] [5] [5] (fun (i:Nat)=>[.set 8 (I i)]) (fun (i:Nat)=>[(5,⟨false,[.own (.sl 1 ((cz (qP (gG h m)) i).map bH))]⟩)]) (fun (i:Nat)=>i ≤ (gG h m).length) (fun (i:Nat)=>(gG h m).length - i) (0) (Nat.zero_le _) ?_
 refine ⟨hda,fun i hyp N1 bw=> ?_⟩
 have hyp:i ≤ (gG h m).length:=hyp
 have hr0:= @gQ (qP (gG h m)) i
 refine len ?_
 refine aB ?_ ?_ <;> intro hb
 obtain ⟨b,hd⟩:∃ b,(gG h m)[i]? = some b:=⟨_,List.getElem?_eq_getElem (by omega)⟩
 have NU:i < ((gG h m).map bz).length:=by rw [List.length_map];omega
 refine cS ?_
 refine aI (by assumption) ?_
 refine aB ?_ ?_ <;> intro gY
 refine ES ?_
 refine cD ?_
 refine bw _ _ _ ?_
 refine iF (i + 1) (by omega) (by repeat' first|exact rfl|refine And.intro ?_ ?_|exact True.intro|(refine eV ?_;(rw [NL (d:=gG h m) (i:=i) (by rw [hd,(by assumption:b=true)])];done)))
 refine cD ?_
 refine bw _ _ _ ?_
 refine iF (i + 1) (by omega) (by repeat' first|exact rfl|refine And.intro ?_ ?_|exact True.intro|(refine eV ?_;(rw [Rd (d:=gG h m) (i:=i) (by rw [hd,(by assumption:b=false)])];done)))
 refine bw _ _ _ ?_
 exact (by have XG:i=(gG h m).length:=(by omega);rw [zC, ← XG];rfl)
theorem Dz (h:an) (m:Int) [Q (aj h)]:aF Tryz.prog 130 [A (aq h),I m] (RG [.a (aq ((cY h m).getD h)), .c (.v (.bool (cY h m).isSome))]):=by
 refine aF.w 34 Tryz.func130 fun w g0 hM=> ?_
 have LK:=(inferInstance:dc h.ap 1048576).h
 have eK:=hM.1.2.1.map
 refine ak (aP h).k ?_
 refine ah (fo h).k ?_
 refine aB ?_ ?_ <;> intro gm
 exact (by rw [GQ (oV (by left;assumption))];rfl)
 refine len ?_
 refine ah (bA _ _).k ?_
 refine aB ?_ ?_ <;> intro hb
 exact (by rw [GQ (oV (by right;omega))];rfl)
 have hmy:cO h m=true:=rm (by assumption) (by omega)
 refine cI [1,4,5,6] [] [6,9] (fun (i:Nat)=>[.set 7 (I i)]) (fun (i:Nat)=>[(6,⟨true,[.own (.sl 1 ((jj h m i).au.map aN)), .own (.sl 9 ((jj h m i).ap.map bh)), .own (.sl 4 ((jj h m i).Buffer.map aA)), .own (.sl 4 ((jj h m i).aC.map aA))]⟩)]) (fun (i:Nat)=>i ≤ 8) (fun (i:Nat)=>8 - i) (0) (Nat.zero_le _) ?_
 refine ⟨hda,fun i hyp N1 bw=> ?_⟩
 have hyp:i ≤ 8:=hyp
 refine aB ?_ ?_ <;> intro gY
 refine ak (Az (jj h m i) m i).k ?_
 refine cD ?_
 refine bw _ _ _ ?_
 refine iF (i + 1) (by omega)
 refine bw _ _ _ ?_
 exact (by have XG:i=8:=(by omega);subst XG;rw [JA hmy];rfl)
theorem DA (h:an) (m:Int) [Q (aj h)]:aF Tryz.prog 123 [A (aq h),I m] (RG [.a (aq ((cY h m).getD h)), .c (.v (.bool (cY h m).isSome))]):=by
 refine aF.w 26 Tryz.func123 fun w g0 hM=> ?_
 have eK:=hM.1.2.1.map
 refine ak (ct h).k ?_
 refine ah (gq h m).k ?_
 refine aB ?_ ?_ <;> intro hb
 exact (by rw [GQ (by assumption)];rfl)
 have hmy:cO h m=true:=by assumption
 refine cI [1,2,4,5] [] [2,8] (fun (i:Nat)=>[.set 6 (I i)]) (fun (i:Nat)=>[(2,⟨true,[.own (.sl 1 ((jj h m i).au.map aN)), .own (.sl 9 ((jj h m i).ap.map bh)), .own (.sl 4 ((jj h m i).Buffer.map aA)), .own (.sl 4 ((jj h m i).aC.map aA))]⟩)]) (fun (i:Nat)=>i ≤ 8) (fun (i:Nat)=>8 - i) (0) (Nat.zero_le _) ?_
 refine ⟨hda,fun i hyp N1 bw=> ?_⟩
 have hyp:i ≤ 8:=hyp
 refine aB ?_ ?_ <;> intro gY
 refine ak (AA (jj h m i) m i).k ?_
 refine cD ?_
 refine bw _ _ _ ?_
 refine iF (i + 1) (by omega)
 refine bw _ _ _ ?_
 exact (by have XG:i=8:=(by omega);subst XG;rw [JA hmy];rfl)
end
section
variable {l:List gn} {a:gn}
set_option maxRecDepth 100000
set_option maxHeartbeats 8000000
section
variable {σ:Type} {f: σ→gn→ σ×IW}
theorem NM {s: σ}:jb f (l ++ [a]) s=(f (jb f l s) a).1:=by unfold jb;rw [List.foldl_append];rfl
theorem JB {i:Nat} {s: σ} (h:l[i]? = some a):jb f (l.take (i + 1)) s=(f (jb f (l.take i) s) a).1:=by rw [List.take_add_one,h];exact NM
end
end
section
variable {m:Int} {jT:List gn} {h:an}
set_option maxRecDepth 100000
set_option maxHeartbeats 8000000
theorem GU:∀ {l:List gn} {s:an},aj s→aj (jb bF l s)
 | [],s,h=>h
 | a :: l,s,h=>GU (l:=l) (PD h)
instance (l:List gn) (s:an) [h:Q (aj s)]:Q (aj (jb bF l s)):=⟨GU h.h⟩
abbrev RngA (l:List gn):Prop:=∀ a ∈ l,a.X ≤ 9223372036854775807
theorem VK (hm:(cY h m).isSome=false):ep h m jT=[]:=by
 unfold ep
 cases e:cY h m with
 | none=>rfl
 | some q=>rw [e] at hm;cases hm
theorem Re {i:Nat} (hm:(cY h m).isSome=true) (hi:jT.length ≤ i):ep h m jT=tW (jb bF (jT.take i) ((cY h m).getD h)) m:=by
 rw [List.take_of_length_le hi]
 unfold ep
 cases e:cY h m with
 | none=>rw [e] at hm;cases hm
 | some q=>rfl
theorem NN (hh:aj h):aj ((cY h m).getD h):=by
 unfold cY
 split
 exact zD hh 8
 exact hh
instance (h:an) (m:Int) [hh:Q (aj h)]:Q (aj ((cY h m).getD h)):=⟨NN hh.h⟩
theorem tA (h:an) (m:Int) (jT:List gn) [Q (aj h)] [Q (vw jT)] (hr:RngA jT):aF Tryz.prog 46 [A (aq h),I m,L 6 (jT.map lP)] (RL 1 ((ep h m jT).map bH)):=by
 refine aF.w 35 Tryz.func46 fun w g0 hM=> ?_
 have eK:=hM.2.2.1.map
 refine ak (Dz h m).k ?_
 refine aB ?_ ?_ <;> intro hb
 exact (by rw [VK (by assumption)];rfl)
 refine len ?_
 refine cI [1,6,7,19,20] [] [7,14] (fun (i:Nat)=>[.set 21 (I i)]) (fun (i:Nat)=>[(7,⟨true,[.own (.sl 1 ((jb bF (jT.take i) ((cY h m).getD h)).au.map aN)), .own (.sl 9 ((jb bF (jT.take i) ((cY h m).getD h)).ap.map bh)), .own (.sl 4 ((jb bF (jT.take i) ((cY h m).getD h)).Buffer.map aA)), .own (.sl 4 ((jb bF (jT.take i) ((cY h m).getD h)).aC.map aA))]⟩)]) (fun (i:Nat)=>i ≤ jT.length) (fun (i:Nat)=>jT.length - i) (0) (Nat.zero_le _) ?_
 refine ⟨hda,fun i hyp N1 bw=> ?_⟩
 have hyp:i ≤ jT.length:=hyp
 have P0:=(inferInstance:dc jT 1048576).h
 refine aB ?_ ?_ <;> intro gY
 obtain ⟨a,ha⟩:∃ a,jT[i]? = some a:=⟨_,List.getElem?_eq_getElem (by omega)⟩
 have qax:Q (a.X ≤ 9223372036854775807):=⟨hr a (List.mem_of_getElem? ha)⟩
 refine fN ha ?_
 first|refine cA ?_|refine aI (by assumption) ?_|refine rA (fun z1 Xc Xd Xe=> ?_)|skip
 refine ak (GP (jb bF (jT.take i) ((cY h m).getD h)) a).k ?_
 refine cD ?_
 refine bw _ _ _ ?_
 refine iF (i + 1) (by omega) (by repeat' first|exact rfl|refine And.intro ?_ ?_|exact True.intro|(refine eV ?_;(rw [JB ha];done)))
 refine bw _ _ _ ?_
 refine bk (GR (jb bF (jT.take i) ((cY h m).getD h)) m).k ?_
 exact (by rw [Re (i:=i) (by assumption) (by omega)];rfl)
end
section
variable {c:Code} {fn:Func} {f:FuncId} {r0 wy:List (Nat×Nat)} {row:List D} {qs:List Nat} {pts:List TS} {P:Program}
theorem TC.marks {P:Program} {w0:World} {g0:Gh} {c:Code} {l:List TS} {rs:Rs} {Q:Exit→St→Prop}:∀ (mk:List Nat),(mk ++ rs.map (·.1)).Nodup→(∀ k ∈ mk,k < 1000000)→TC P w0 g0 c ⟨l,mk.map (fun k=>(k,⟨false,[]⟩)) ++ rs⟩ Q→TC P w0 g0 c ⟨l,rs⟩ Q
 | [],_,_,h=>h
 | k :: mk,hn,hlt,h=>by
  have hn':k ∉ mk ++ rs.map (·.1)∧(mk ++ rs.map (·.1)).Nodup:=List.nodup_cons.1 hn
  refine TC.marks mk hn'.2 (fun k' hk=>hlt k' (List.mem_cons_of_mem _ hk)) fun a w g hR=> ?_
  have hne:∀ x ∈ mk.map (fun k=>((k,⟨false,[]⟩):Nat×Rt)) ++ rs,x.1 ≠ k:=fun x hx e=>by
   rcases List.mem_append.1 hx with hx|hx
   obtain ⟨k',h1,rfl⟩:=List.mem_map.1 hx
   exact hn'.1 (List.mem_append_left _ (e ▸ h1))
   exact hn'.1 (List.mem_append_right _ (e ▸ List.mem_map_of_mem hx))
  have gk:(⟨l,mk.map (fun k=>((k,⟨false,[]⟩):Nat×Rt)) ++ rs⟩:St).root k=none:=by
   unfold St.root
   rw [List.find?_eq_none.2 fun x hx=>by simpa using hne x hx]
   rfl
  have h1:=hR.DI (hlt k List.mem_cons_self) gk (row:=[]) fun q d hq=>by simp at hq
  have h2:(⟨l,mk.map (fun k=>((k,⟨false,[]⟩):Nat×Rt)) ++ rs⟩:St).cq k ⟨false,([]:List D).map C.own⟩=⟨l,(k :: mk).map (fun k=>((k,⟨false,[]⟩):Nat×Rt)) ++ rs⟩:=by
   unfold St.cq
   rw [List.filter_eq_self.2 fun x hx=>by simpa using hne x hx]
   rfl
  rw [h2] at h1
  exact h a w g h1
def keptE (rs:Rs) (refs:List (Nat×Nat)) (nr:Nat) (wy:List (Nat×Nat)) (qs:List Nat):Prop:=∃ (jw i:Nat) (r:List (Nat×Nat)) (b q1:Nat) (m:Bool) (row:List C),wy=(jw,i) :: r∧refs[jw]? = some (b,q1)∧
 (⟨[],rs⟩:St).root 1000000=some ⟨m,row⟩∧row.drop nr=qs.map fun q=>C.ref ⟨b,(q1,i) :: r,q⟩
def VL (P:Program) (n:Nat) (rv:List ResultVar) (nr:Nat) (wy:List (Nat×Nat)) (qs:List Nat) (R:mR→Prop) (e:List En) (rs:Rs):Prop:=
 IT P n e rs rv fun cZ=>BR (Nat.ble rv.length 4 && BD (cZ.flatMap fh)) (EY rs (cZ.flatMap fh) fun row=>R ⟨row,fun k=>nx (cZ.map (iH (cZ.flatMap fh) k))⟩∧keptE rs (cZ.flatMap fh) nr wy qs) False
def Rf (P:Program) (n:Nat) (rv:List ResultVar) (nr:Nat) (wy:List (Nat×Nat)) (qs:List Nat) (R:mR→Prop):Kx:=fun ex e rs=>match ex with
 | .normal=>VL P n rv nr wy qs R e rs
 | .ret=>VL P n rv nr wy qs R e rs
 | _=>False
theorem NO {n:Nat} {nr:Nat} {R:mR→Prop} {ex:Exit} {st:St} (h:Lf n (Rf P n fn.results.toList nr wy qs R) ex st):To P fn nr wy qs R ex st:=by
 obtain ⟨e,rs,rfl,h⟩:=h
 have key:VL P n fn.results.toList nr wy qs R e rs→∀ ex,(ex= .normal ∨ ex= .ret)→To P fn nr wy qs R ex (aR n e rs):=fun h ex hex=>by
  obtain ⟨cZ,h1,h2⟩:=vt h
  obtain ⟨h3,h4⟩:=bG h2
  simp only [Bool.and_eq_true] at h3
  obtain ⟨row,h5,h6,jw,i,r,b,q1,m,CZ,h7,h8,h9,kU⟩:=wZ (n:=n) (e:=e) h4
  refine ⟨hex,fn.results.toList,cZ,row,rfl,Nat.le_of_ble_eq_true h3.1,h1,wY h3.2,h5,h6,jw,i,r,b,q1,⟨m,CZ⟩,h7,h8,h9,fun j q hj=> ?_⟩
  have oW:=congrArg (fun l:List C=>l[j]?) kU
  simp only [List.getElem?_drop,List.getElem?_map,hj,Option.map_some] at oW
  exact oW
 unfold Rf at h
 split at h
 exact key h _ (.inl rfl)
 exact key h _ (.inr rfl)
 exact h.elim
noncomputable def YO (mk:List Nat) (rs:Rs):Rs:= @List.rec Nat (fun _=>Rs) rs (fun k _ ih=>(k,⟨false,[]⟩) :: ih) mk
theorem GV:∀ {mk:List Nat} {rs:Rs},YO mk rs=mk.map (fun k=>(k,⟨false,[]⟩)) ++ rs
 | [],_=>rfl
 | k :: mk,rs=>by
  show ((k,⟨false,[]⟩):Nat×Rt) :: YO mk rs=(k,⟨false,[]⟩) :: (mk.map (fun k=>((k,⟨false,[]⟩):Nat×Rt)) ++ rs)
  rw [GV]
theorem j3.w {x:Nat×Nat} {R:mR→Prop} (mk:List Nat) (n:Nat) (hf:P.funcs[f]? = some fn) 
  (hh:∀ w g0,iI pts→qF 0 pts fun e=>fu (row.map C.own ++ qs.map fun q=>C.ref ⟨1000000,x :: r0,q⟩) fun cs=>wC P w g0 n c e (YO mk [(1000000,⟨false,cs⟩)]) (Rf P n fn.results.toList row.length (x :: r0) qs R))
  (hp:pts.map (TS.kill (fun pl=>Nat.beq pl.k cm && (pl.p.isEmpty && Nat.ble row.length pl.q)) fun _=>false)=pts:=by exact rfl)
  (hb:fn.body=some c:=by exact rfl) (hn:fn.ntmps=n:=by exact rfl) (eK:Nat.ble pts.length n=true:=by exact rfl)
  (hmk:(mk ++ [1000000]).Nodup:=by decide) (hml:∀ k ∈ mk,k < 1000000:=by decide):j3 P f row (x :: r0) qs pts R:=by
 have hl:=Nat.le_of_ble_eq_true eK
 subst hn
 refine j3.of hf hb hl hp fun w g0=>TC.iI fun hM=>TC.marks mk hmk hml ?_
 obtain ⟨e,h1,h2⟩:=iR (m:=0) (hh w g0 hM)
 have h3:=dw.1 h2
 rw [← GV]
 show TC P w g0 c ⟨pts ++ List.replicate (fn.ntmps - pts.length) (.one .dead),YO mk [(1000000,⟨false,row.map C.own ++ qs.map fun q=>C.ref ⟨1000000,x :: r0,q⟩⟩)]⟩ _
 rw [kW hl h1]
 exact (mJ h3).mono fun ex st hl=>NO hl
theorem j3.wJ {x:Nat×Nat} {R:mR→Prop} (mk:List Nat) (n:Nat) (hf:P.funcs[f]? = some fn) 
  (hh:∀ w g0,iI pts→qF 0 pts fun e=>fu (row.map C.own ++ qs.map fun q=>C.ref ⟨1000000,x :: r0,q⟩) fun cs=>JW P w g0 n c e (YO mk [(1000000,⟨false,cs⟩)]) (Rf P n fn.results.toList row.length (x :: r0) qs R))
  (hp:pts.map (TS.kill (fun pl=>Nat.beq pl.k cm && (pl.p.isEmpty && Nat.ble row.length pl.q)) fun _=>false)=pts:=by exact rfl)
  (hb:fn.body=some c:=by exact rfl) (hn:fn.ntmps=n:=by exact rfl) (eK:Nat.ble pts.length n=true:=by exact rfl)
  (hmk:(mk ++ [1000000]).Nodup:=by decide) (hml:∀ k ∈ mk,k < 1000000:=by decide):j3 P f row (x :: r0) qs pts R:=by
 have hl:=Nat.le_of_ble_eq_true eK
 subst hn
 refine j3.of hf hb hl hp fun w g0=>TC.iI fun hM=>TC.marks mk hmk hml ?_
 obtain ⟨e,h1,h2⟩:=iR (m:=0) (hh w g0 hM)
 have h3:=dw.1 h2
 rw [← GV]
 show TC P w g0 c ⟨pts ++ List.replicate (fn.ntmps - pts.length) (.one .dead),YO mk [(1000000,⟨false,row.map C.own ++ qs.map fun q=>C.ref ⟨1000000,x :: r0,q⟩⟩)]⟩ _
 rw [kW hl h1]
 exact h3.h.mono fun ex st hl=>NO hl
def YP (rs:Rs) (k:Nat) (m:Bool) (row:List C):Rs:=((⟨[],rs⟩:St).cq k ⟨m,row⟩).roots
section
variable {P:Program} {w0:World} {g0:Gh} {n:Nat} {e:List En} {rs:Rs} {K:Kn} {f:FuncId} {ts pts:List TS} {fk:List TV} {d:Nat}
theorem rp (K0:Nat) (aK:List (Nat×Nat)) {l:List RD} {m0 m1:Bool} {sK On CZ:List C} (hc:j3 P f row wy qs pts (RG l)) 
  (hk:j4 d rs (YP (Kk rs aK (row.map fun _=> .hole) d (((ez l).filter xL).map C.own)) K0 m1 CZ) fun rs=>mw (nx (rE d 0 l)) fun t=>K (.set d t :: .app (TS.kill (uF aK false d) (zO aK d)) :: e) rs)
  (hC:eZ (aR n e rs) ⟨false,row⟩ aK none d:=by exact .list rfl)
  (hs:aX (aR n e rs) aK none 1000000 ts pts:=by (repeat first|exact .nil|refine aX.cons (.c (.ro _)) ?_|refine aX.cons (.c (.hand rfl)) ?_|refine aX.cons (.c (.deep rfl)) ?_|refine aX.cons (.c (.ru rfl WD.w rfl)) ?_|refine aX.cons (.bV _) ?_|refine aX.cons (.fn _) ?_|refine aX.cons (.Wh _ _ rfl) ?_|refine aX.cons (.agg (by repeat first|exact .nil|refine gP.cons (.ro _) ?_|refine gP.cons (.hand rfl) ?_|refine gP.cons (.deep rfl) ?_|refine gP.cons (.ru rfl WD.w rfl) ?_)) ?_);done)
  (hK0:(⟨[],rs⟩:St).root K0=some ⟨m0,sK⟩:=by exact rfl)
  (Mh:(⟨[],Kk rs aK (row.map fun _=> .hole) d (((ez l).filter xL).map C.own)⟩:St).root K0=some ⟨m1,On⟩:=by exact rfl)
  (ZD:fu On fun On=>nN d wy aK K0 0 sK On CZ qs:=by (conv=>whnf);(repeat first|exact nN.nil|(apply nN.rev (hw:=rfl) (hs:=rfl) (hn:=rfl))|apply nN.keep);done)
  (yy:Nat.beq K0 d=false:=by exact rfl)
  (hok:(ez l).all Su=true:=by exact rfl) (hf:dK P f:=by exact .mk rfl rfl rfl):uG false P w0 g0 n e rs f ts (some d) K:=⟨fun o cx args nL ho lA hd hx=>by
 obtain ⟨fn,h1,h2,h3⟩:=hf
 have h5:=gz hk
 refine fX.ZC (T:=(cR l).val) ho lA h1 h2 h3 hx hc (fun r hr=>⟨by rw [hr],by rw [hr]⟩) hC hs (sQ hok) hK0 yy Mh (dw.1 ZD) rfl ?_
 show Lg n K _
 have h4:(((aR n e rs).g_ aK false (row.map fun _=> .hole) d).cq d ⟨false,(cR l).row.map C.own⟩).cq K0 ⟨m1,CZ⟩=
   aR n (.app (TS.kill (uF aK false d) (zO aK d)) :: e) (YP (Kk rs aK (row.map fun _=> .hole) d (((ez l).filter xL).map C.own)) K0 m1 CZ):=iq
 rw [h4,hd]
 exact .put (fZ.1 h5)⟩
end
end
set_option maxRecDepth 100000
set_option maxHeartbeats 8000000
theorem GW (h:an) (m:Nat) (x:aO) (p:Nat) (z s:aL) (hx:h.ap[m]? = some x) (ov:x.Tables.length=x.aa.length) (hz:x.ai[p]? = some z) [Q (aj h)] (ci cj:Nat):j3 Tryz.prog 331 (aq h) [(1,ci),(3,cj)] [0,3,4,14] [.one (.agg [.ref ⟨1000000,[],0⟩, .ref ⟨1000000,[],1⟩, .ref ⟨1000000,[],2⟩, .ref ⟨1000000,[],3⟩]),I m,I p,A (gB s)] (RG [.a (aq (iC h m x p z s))]):=by
 refine j3.w [999997] 70 Tryz.func331 fun w g0 _=> ?_
 have qx:Q (bf x):=⟨j6.h x (List.mem_of_getElem? hx)⟩
 have hml:=(List.getElem?_eq_some_iff.1 hx).1
 have oF:=(List.getElem?_eq_some_iff.1 hz).1
 have mF:m < (h.ap.map bh).length:=by rw [List.length_map];exact hml
 have y7:p < (x.ai.map aQ).length:=by rw [List.length_map];exact oF
 have O2:=(inferInstance:dc x.aa 1048576).h
 first|refine fN (by assumption) ?_|refine cS ?_
 first|refine cA ?_|refine aI (by assumption) ?_
 first|refine cA ?_|refine aI (by assumption) ?_
 first|refine fN (by assumption) ?_|refine cS ?_
 first|refine cA ?_|refine aI (by assumption) ?_
 first|refine cA ?_|refine aI (by assumption) ?_
 refine cI [1,2,4,7,8,9,10] [] [1000000] (fun (k:Nat)=>[.set 11 (I k)]) (fun (k:Nat)=>[(1000000,⟨false,[.own (.sl 1 (h.au.map aN)), .own (.sl 9 (((h.ap.set m (c6 x p k)).map bh))), .own (.sl 4 (h.Buffer.map aA)), .own (.sl 4 (h.aC.map aA)), .ref ⟨1000000,[(1,ci),(3,cj)],0⟩, .ref ⟨1000000,[(1,ci),(3,cj)],3⟩, .ref ⟨1000000,[(1,ci),(3,cj)],4⟩, .ref ⟨1000000,[(1,ci),(3,cj)],14⟩]⟩)]) (fun (k:Nat)=>k ≤ x.aa.length) (fun (k:Nat)=>x.aa.length - k) (0) (Nat.zero_le _) ?_
 refine ⟨(hda (by repeat' first|exact rfl|refine And.intro ?_ ?_|exact True.intro|(refine eV ?_;rw [BP,Fv hx];done))),fun k hyp N1 bw=> ?_⟩
 have hyp:k ≤ x.aa.length:=hyp
 have hm:=dz (y:=c6 x p k) hx
 have LG:(c6 x p k).Tables.length=x.aa.length:=y5 (p:=p) ov hyp
 have hgk:(c6 x p k).aa.length=x.aa.length:=rfl
 have hko:(c6 x p k).ai.length=x.ai.length:=rfl
 have hzk:(c6 x p k).ai[p]? = some z:=hz
 have hko2:p < ((c6 x p k).ai.map aQ).length:=by rw [List.length_map];exact oF
 have hml3:m < ((h.ap.set m (c6 x p k)).map bh).length:=by rw [List.length_map,List.length_set];exact hml
 first|refine cA ?_|refine aI (by assumption) ?_
 refine len ?_
 refine aB ?_ ?_ <;> intro hb
 ·obtain ⟨t,ht⟩:∃ t,x.Tables[k]? = some t:=⟨_,List.getElem?_eq_getElem (by omega)⟩
  obtain ⟨g,hg⟩:∃ g,x.aa[k]? = some g:=⟨_,List.getElem?_eq_getElem (by omega)⟩
  have htk:(c6 x p k).Tables[k]? = some t:=y6 ov ht
  have hgk2:(c6 x p k).aa[k]? = some g:=hg
  have qt:Q (de t):=⟨j6.h t (List.mem_of_getElem? ht)⟩
  have qg:Q (aG g):=⟨j6.h g (List.mem_of_getElem? hg)⟩
  refine cJ [17] [(0,0),(1,0),(2,0),(3,0),(4,0),(5,0),(6,0),(7,0),(8,0),(9,0),(10,0),(11,0),(12,0),(13,0),(14,0),(15,1),(16,0),(17,1)] ?_
  first|refine cA ?_|refine aI (by assumption) ?_
  first|refine fN (by assumption) ?_|refine cS ?_
  first|refine cA ?_|refine aI (by assumption) ?_
  first|refine cA ?_|refine aI (by assumption) ?_
  first|refine cA ?_|refine aI (by assumption) ?_
  first|refine fN (by assumption) ?_|refine cS ?_
  first|refine cA ?_|refine aI (by assumption) ?_
  first|refine cA ?_|refine aI (by assumption) ?_
  refine ak (rO t g.Live p).k ?_ (by repeat first|exact rfl|refine eB.mk (by first|exact WD.w|assumption) ?_|refine aI (by assumption) ?_)
  first|refine cA ?_|refine aI (by assumption) ?_
  first|refine fN (by assumption) ?_|refine cS ?_
  first|refine cA ?_|refine aI (by assumption) ?_
  first|refine cA ?_|refine aI (by assumption) ?_
  refine cD ?_
  refine bw _ _ _ ?_
  refine iF (k + 1) (by omega) (by repeat' first|exact rfl|refine And.intro ?_ ?_|exact True.intro|(refine eV ?_;rw [BQ ov ht hg];done))
 ·refine bw _ _ _ ?_
  refine aB ?_ ?_ <;> intro gY
  ·refine bk (k7 _ z.aJ).k ?_
   refine bk (k7 _ z.aJ).k ?_
   first|refine cA ?_|refine aI (by assumption) ?_
   first|refine fN (by assumption) ?_|refine cS ?_
   first|refine cA ?_|refine aI (by assumption) ?_
   first|refine cA ?_|refine aI (by assumption) ?_
   first|refine fN (by assumption) ?_|refine cS ?_
   refine cA ?_
   repeat first|refine slf ?_|refine cA ?_
   exact ⟨(by first|(rw [BS (k:=k) ov (by omega) (by omega)];rfl)|(rw [Jd (k:=k) ov (by omega) (by omega)];rfl)),_,_,_,_,_,_,_,rfl,rfl,rfl,rfl⟩
  ·first|refine cA ?_|refine aI (by assumption) ?_
   first|refine fN (by assumption) ?_|refine cS ?_
   first|refine cA ?_|refine aI (by assumption) ?_
   first|refine cA ?_|refine aI (by assumption) ?_
   first|refine fN (by assumption) ?_|refine cS ?_
   refine cA ?_
   repeat first|refine slf ?_|refine cA ?_
   exact ⟨(by rw [BS (k:=k) ov (by omega) (by omega)];rfl),_,_,_,_,_,_,_,rfl,rfl,rfl,rfl⟩
theorem kj {row:List D} (h:an) (m:Nat) (x:aO) (p:Nat) (z s:aL) (hr:row=aq h) (hx:h.ap[m]? = some x) (ov:x.Tables.length=x.aa.length) (hz:x.ai[p]? = some z) (q:aj h) (ci cj:Nat):
  j3 Tryz.prog 331 row [(1,ci),(3,cj)] [0,3,4,14] [.one (.agg [.ref ⟨1000000,[],0⟩, .ref ⟨1000000,[],1⟩, .ref ⟨1000000,[],2⟩, .ref ⟨1000000,[],3⟩]),I m,I p,A (gB s)] (RG [.a (aq (iC h m x p z s))]):=by
 subst hr
 have:Q (aj h):=⟨q⟩
 exact GW h m x p z s hx ov hz ci cj
theorem H9 (h:an) (m:Nat) (x:aO) (p:Nat) (z:aL) (hx:h.ap[m]? = some x) (ov:x.Tables.length=x.aa.length) (hz:x.ai[p]? = some z) (N7:x.Out.length=8) (HA:x.ai.length=8) [Q (aj h)] (ci cj:Nat):j3 Tryz.prog 431 (aq h) [(1,ci),(3,cj)] [0,3,4,14] [.one (.agg [.ref ⟨1000000,[],0⟩, .ref ⟨1000000,[],1⟩, .ref ⟨1000000,[],2⟩, .ref ⟨1000000,[],3⟩]),I m,I p] (RG [.a (aq (cr h m p))]):=by
 refine j3.w [999997] 33 Tryz.func431 fun w g0 _=> ?_
 rw [← KG hx hz]
 have qx:Q (bf x):=⟨j6.h x (List.mem_of_getElem? hx)⟩
 have hml:=(List.getElem?_eq_some_iff.1 hx).1
 have oF:=(List.getElem?_eq_some_iff.1 hz).1
 have mF:m < (h.ap.map bh).length:=by rw [List.length_map];exact hml
 have y7:p < (x.ai.map aQ).length:=by rw [List.length_map];exact oF
 obtain ⟨y,hy⟩:∃ y,x.Out[p]? = some y:=⟨_,List.getElem?_eq_getElem (by omega)⟩
 refine cJ [21] [(0,0),(1,0),(2,0),(3,0),(4,0),(5,0),(6,0),(7,0),(8,0),(9,0),(10,0),(11,0),(12,0),(13,0),(14,0),(15,0),(16,0),(17,0),(18,0),(19,1),(20,0),(21,1)] ?_
 first|refine fN (by assumption) ?_|refine cS ?_
 first|refine cA ?_|refine aI (by assumption) ?_
 first|refine fN (by assumption) ?_|refine cS ?_
 first|refine cA ?_|refine aI (by assumption) ?_
 first|refine cA ?_|refine aI (by assumption) ?_
 first|refine fN (by assumption) ?_|refine cS ?_
 first|refine cA ?_|refine aI (by assumption) ?_
 first|refine cA ?_|refine aI (by assumption) ?_
 refine bk (ye _ _).k ?_
 first|refine cA ?_|refine aI (by assumption) ?_
 first|refine fN (by assumption) ?_|refine cS ?_
 first|refine cA ?_|refine aI (by assumption) ?_
 first|refine cA ?_|refine aI (by assumption) ?_
 refine cJ [4,5] [(0,0),(1,0),(2,0),(3,1),(4,1),(5,1)] ?_
 refine ah (cW).k ?_
 refine rp 1000000 [(1000000,0),(1000000,1),(1000000,2),(1000000,3)] (kj (row:=KF h m x p z) (xh h m x p z) m (ud h x p z) p z bu (Je h m x p z) (dz hx) ov hz (FB (by assumption:Q (aj h)).h qx.h) ci cj) ?_
 exact ⟨rfl,_,_,_,_,_,_,_,rfl,rfl,rfl,rfl⟩
end Go.Proofs.YtdliggkohdnipaaGreat.T
