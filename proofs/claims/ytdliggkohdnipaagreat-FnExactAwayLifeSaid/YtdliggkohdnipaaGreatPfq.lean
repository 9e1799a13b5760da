import Derived.Test.YtdliggkohdnipaaGreatPbq
import Derived.Test.YtdliggkohdnipaaGreatRpq
import Derived.Test.YtdliggkohdnipaaGreatNsq
set_option linter.unusedVariables false
set_option linter.unusedSimpArgs false
namespace Go.Proofs.YtdliggkohdnipaaGreat.T
open Go
section
variable {g:Int} {b:aS} {x:ax}
set_option maxRecDepth 100000
set_option maxHeartbeats 8000000
theorem FG (h:bT x=true): -1 ≤ address x∧address x ≤ 15:=by
 unfold address
 split
 ·rename_i hw
  have hop:(cV x.Prog x.Pc).Op=3 ∨ (cV x.Prog x.Pc).Op=4:=by
   unfold aK at hw
   repeat' split at hw
   all_goals omega
  have hp:vw x.Prog=true:=by simp only [bT,bh] at h;exact h.1.1.1.1.1.1.1.1
  unfold cV at hop ⊢
  cases hy:m5 x.Prog x.Pc with
  | none=>rw [hy] at hop;simp at hop
  | some y=>
   rw [hy] at hop
   simp only [Option.getD_some] at hop ⊢
   have hm:y ∈ x.Prog:=by
    unfold m5 at hy
    split at hy
    ·exact aH hy
    ·cases hy
   simp only [vw,bh] at hp
   have h2:=eY.1 hp.1 y hm
   unfold kz at h2
   rw [if_neg (by omega),if_pos hop] at h2
   have:=of_decide_eq_true h2
   omega
 ·omega
theorem MM (h:dg b=false ∨ (m5 b.aa g).isSome=false ∨ aK (aG b g)=0):ox b g=none:=by
 unfold ox
 split
 rename_i hb
 cases hx:m5 b.aa g with
 | none=>rfl
 | some x=>
  rcases h with h|h|h
  rw [h] at hb;cases hb
  rw [hx] at h;cases h
  rw [sW hx] at h;exact if_pos h
 rfl
theorem lp (hb:dg b=true) (h:(m5 b.aa g).isSome=true) (hw:¬ aK (aG b g)=0):ox b g=some (stepOf b g (aG b g)):=by
 unfold ox aG at *
 rw [if_pos hb]
 cases hx:m5 b.aa g with
 | none=>rw [hx] at h;cases h
 | some x=>rw [hx] at hw;exact if_neg hw
section
variable {b:aS} {g:Int} {x:ax} {w:Bool}
theorem st_1 (h:aK x=1):stepOf b g x=b_ b g (interrupted x):=if_pos h
theorem st_2 (h:aK x=2):stepOf b g x=b_ b g (ir x):=by unfold stepOf;rw [if_neg (by omega),if_pos h]
theorem T7 (h:aK x=3 ∨ aK x=4) (hw:w=(aK x == 4)):stepOf b g x=rE b g x w:=by
 unfold stepOf
 rw [if_neg (by omega),if_neg (by omega)]
 subst hw
 rcases h with h|h
 rw [if_pos h,h];rfl
 rw [if_neg (by omega),if_pos h,h];rfl
theorem st_6 (h:aK x=6):stepOf b g x=b_ b g (c8 x (lR (cV x.Prog x.Pc).X)):=by unfold stepOf;rw [if_neg (by omega),if_neg (by omega),if_neg (by omega),if_neg (by omega),if_pos h]
theorem st_t (h:¬ aK x=1∧¬ aK x=2∧¬ aK x=3∧¬ aK x=4∧¬ aK x=6) (ht:gb x.jv.bn (ov (aK x))=true):stepOf b g x=b_ b g (ow x (aK x)):=by
 unfold stepOf;rw [if_neg h.1,if_neg h.2.1,if_neg h.2.2.1,if_neg h.2.2.2.1,if_neg h.2.2.2.2,if_pos ht]
theorem st_5 (h:aK x=5) (ht:gb x.jv.bn (ov (aK x))=false):stepOf b g x=b_ (sy b (cV x.Prog x.Pc).X) g (fU x):=by
 unfold stepOf;rw [if_neg (by omega),if_neg (by omega),if_neg (by omega),if_neg (by omega),if_neg (by omega),if_neg (by rw [ht];decide),if_pos h]
theorem st_7 (h:¬ aK x=1∧¬ aK x=2∧¬ aK x=3∧¬ aK x=4∧¬ aK x=6∧¬ aK x=5) (ht:gb x.jv.bn (ov (aK x))=false):stepOf b g x=b_ b g (held x):=by
 unfold stepOf;rw [if_neg h.1,if_neg h.2.1,if_neg h.2.2.1,if_neg h.2.2.2.1,if_neg h.2.2.2.2.1,if_neg (by rw [ht];decide),if_neg h.2.2.2.2.2]
abbrev oW (x:ax) (w:Bool):Option Int:=bB x.Live (bz (address x)) (cA w)
theorem tc_no (h:(oW x w).isSome=false):rE b g x w=b_ b g (c8 x (iR (bz (address x)) w)):=by
 unfold rE
 unfold oW at h
 cases e:bB x.Live (bz (address x)) (cA w) with
 | none=>rfl
 | some p=>rw [e] at h;cases h
theorem tc_w (h:(oW x w).isSome=true) (hw:w=true):rE b g x w=b_ { b with au:=eR b.au ((oW x w).getD (-1)) (b6 (address x)) x.A } g (fU x):=by
 unfold rE
 unfold oW at h ⊢
 cases e:bB x.Live (bz (address x)) (cA w) with
 | none=>rw [e] at h;cases h
 | some p=>exact if_pos hw
theorem tc_r (h:(oW x w).isSome=true) (hw:w=false):rE b g x w=b_ b g (sx x (cellAt b.au ((oW x w).getD (-1)) (b6 (address x)))):=by
 unfold rE
 unfold oW at h ⊢
 cases e:bB x.Live (bz (address x)) (cA w) with
 | none=>rw [e] at h;cases h
 | some p=>exact if_neg (by rw [hw];decide)
end
theorem Cj {m:List (List Int)} {p c v:Int} (h:eD m):eD (eR m p c v):=by
 unfold eR
 cases e:m5 m p with
 | none=>exact h
 | some r=>
  simp only
  split
  refine ⟨by rw [pV];exact h.1,fun y hy=> ?_⟩
  unfold put at hy
  split at hy
  rcases lN hy with hy|rfl
  exact h.2 y hy
  show (put r c v).length ≤ _
  rw [pV]
  exact h.2 r (at_mem e)
  exact h.2 y hy
  exact h
theorem Ie {w:Int} (h:aJ x):aJ (ow x w):=by unfold ow;split <;> exact h
instance (x:ax) (w:Int) [h:Q (aJ x)]:Q (aJ (ow x w)):=⟨Ie h.h⟩
instance (b:aS) (p c v:Int) [hb:Q (a_ b)]:Q (a_ { b with au:=eR b.au p c v }):=⟨Cj hb.h.1,hb.h.2⟩
theorem EI (b:aS) (g:Int) [Q (a_ b)]:aF Tryz.prog 270 [A (bH b),I g] (RG [.a (bH ((ox b g).getD b)), .c (.v (.bool (ox b g).isSome))]):=by
 refine aF.w 150 Tryz.func270 fun w g0 _=> ?_
 refine an (sU b g).k ?_
 refine ah (nt _).k ?_
 refine ah (jR _).k ?_
 refine aB ?_ ?_ <;> intro gK
 refine an (cZ _).k ?_
 exact (by rw [MM (by left;assumption)];rfl)
 refine aB ?_ ?_ <;> intro GO
 refine an (cZ _).k ?_
 exact (by rw [MM (by right;left;assumption)];rfl)
 refine aB ?_ ?_ <;> intro hb
 refine an (cZ _).k ?_
 exact (by rw [MM (by right;right;assumption)];rfl)
 have hxo:=A1 (b:=b) (g:=g) ‹_› ‹_›
 have hxr:=gS hxo
 have hxa:=FG hxo
 have qx:Q (aJ (aG b g)):=inferInstance
 have qp:Q (-9223372036854775808 ≤ (aG b g).Pc):=⟨by omega⟩
 have qa:Q (address (aG b g) ≤ 9223372036854775807):=⟨by omega⟩
 refine ah (xM (aG b g)).k ?_
 refine ah (kQ _ _).k ?_
 refine aB ?_ ?_ <;> intro iz
 refine cI [5] [(0,0),(1,0),(2,0),(3,1),(4,1),(5,1),(6,0)] ?_
 refine an (AL (aG b g)).k ?_
 refine an (cN b g (interrupted (aG b g))).k ?_
 exact (by rw [lp ‹_› ‹_› ‹_›,st_1 (by omega)];rfl)
 refine aB ?_ ?_ <;> intro tr
 refine cI [5] [(0,0),(1,0),(2,0),(3,1),(4,1),(5,1),(6,0)] ?_
 refine an (GZ (aG b g)).k ?_
 refine an (cN b g (ir (aG b g))).k ?_
 exact (by rw [lp ‹_› ‹_› ‹_›,st_2 (by omega)];rfl)
 refine aB ?_ ?_ <;> intro AJ
 refine cI [] [(0,0),(1,0),(2,0),(4,0),(3,1),(5,1),(6,1),(7,0),(8,0),(9,0),(10,0),(11,0)] ?_
 refine ah (eT _).k ?_
 refine ah (pW _).k ?_
 refine an (mG _ _ _).k ?_
 refine aB ?_ ?_ <;> intro D0
 refine cI [9] [(0,0),(1,0),(2,0),(3,0),(5,0),(4,1),(6,1),(7,1),(8,1),(9,1),(10,0)] ?_
 refine ah (eT _).k ?_
 refine ah (mI _ _).k ?_
 refine an (gn (aG b g) (iR (bz (address (aG b g))) (aK (aG b g) == 4))).k ?_
 refine an (cN b g (c8 (aG b g) (iR (bz (address (aG b g))) (aK (aG b g) == 4)))).k ?_
 exact (by rw [lp ‹_› ‹_› ‹_›,T7 (w:=(aK (aG b g) == 4)) (by omega) rfl,tc_no ‹_›];rfl)
 refine aB ?_ ?_ <;> intro Pz
 refine cI [9] [(0,0),(1,0),(2,0),(3,0),(5,0),(6,0),(4,1),(7,1),(8,0),(9,1)] ?_
 refine ah (eU _).k ?_
 refine bu (iD b.au ((oW (aG b g) (aK (aG b g) == 4)).getD (-1)) (b6 (address (aG b g))) (aG b g).A).k ?_
 refine cI [5] [(0,0),(1,0),(2,0),(3,1),(4,1),(5,1),(6,0)] ?_
 refine an (p7 (aG b g)).k ?_
 refine an (cN { b with au:=(eR b.au ((oW (aG b g) (aK (aG b g) == 4)).getD (-1)) (b6 (address (aG b g))) (aG b g).A) } g (fU (aG b g))).k ?_
 exact (by rw [lp ‹_› ‹_› ‹_›,T7 (w:=(aK (aG b g) == 4)) (by omega) rfl,tc_w ‹_› (by simpa using ‹_›)];rfl)
 refine cI [11] [(0,0),(1,0),(2,0),(3,0),(4,0),(5,0),(6,0),(7,1),(8,1),(9,1),(10,1),(11,1),(12,0)] ?_
 refine ah (eU _).k ?_
 refine ah (nj b.au ((oW (aG b g) (aK (aG b g) == 4)).getD (-1)) (b6 (address (aG b g)))).k ?_
 refine an (p8 (aG b g) (cellAt b.au ((oW (aG b g) (aK (aG b g) == 4)).getD (-1)) (b6 (address (aG b g))))).k ?_
 refine an (cN b g (sx (aG b g) (cellAt b.au ((oW (aG b g) (aK (aG b g) == 4)).getD (-1)) (b6 (address (aG b g)))))).k ?_
 exact (by rw [lp ‹_› ‹_› ‹_›,T7 (w:=(aK (aG b g) == 4)) (by omega) rfl,tc_r ‹_› (by simpa using ‹_›)];rfl)
 refine aB ?_ ?_ <;> intro TD
 refine cI [] [(0,0),(1,0),(2,0),(4,0),(3,1),(5,1),(6,1),(7,0),(8,0),(9,0),(10,0),(11,0)] ?_
 refine ah (eT _).k ?_
 refine ah (pW _).k ?_
 refine an (mG _ _ _).k ?_
 refine aB ?_ ?_ <;> intro YT
 refine cI [9] [(0,0),(1,0),(2,0),(3,0),(5,0),(4,1),(6,1),(7,1),(8,1),(9,1),(10,0)] ?_
 refine ah (eT _).k ?_
 refine ah (mI _ _).k ?_
 refine an (gn (aG b g) (iR (bz (address (aG b g))) (aK (aG b g) == 4))).k ?_
 refine an (cN b g (c8 (aG b g) (iR (bz (address (aG b g))) (aK (aG b g) == 4)))).k ?_
 exact (by rw [lp ‹_› ‹_› ‹_›,T7 (w:=(aK (aG b g) == 4)) (by omega) rfl,tc_no ‹_›];rfl)
 refine aB ?_ ?_ <;> intro hb9
 refine cI [9] [(0,0),(1,0),(2,0),(3,0),(5,0),(6,0),(4,1),(7,1),(8,0),(9,1)] ?_
 refine ah (eU _).k ?_
 refine bu (iD b.au ((oW (aG b g) (aK (aG b g) == 4)).getD (-1)) (b6 (address (aG b g))) (aG b g).A).k ?_
 refine cI [5] [(0,0),(1,0),(2,0),(3,1),(4,1),(5,1),(6,0)] ?_
 refine an (p7 (aG b g)).k ?_
 refine an (cN { b with au:=(eR b.au ((oW (aG b g) (aK (aG b g) == 4)).getD (-1)) (b6 (address (aG b g))) (aG b g).A) } g (fU (aG b g))).k ?_
 exact (by rw [lp ‹_› ‹_› ‹_›,T7 (w:=(aK (aG b g) == 4)) (by omega) rfl,tc_w ‹_› (by simpa using ‹_›)];rfl)
 refine cI [11] [(0,0),(1,0),(2,0),(3,0),(4,0),(5,0),(6,0),(7,1),(8,1),(9,1),(10,1),(11,1),(12,0)] ?_
 refine ah (eU _).k ?_
 refine ah (nj b.au ((oW (aG b g) (aK (aG b g) == 4)).getD (-1)) (b6 (address (aG b g)))).k ?_
 refine an (p8 (aG b g) (cellAt b.au ((oW (aG b g) (aK (aG b g) == 4)).getD (-1)) (b6 (address (aG b g))))).k ?_
 refine an (cN b g (sx (aG b g) (cellAt b.au ((oW (aG b g) (aK (aG b g) == 4)).getD (-1)) (b6 (address (aG b g)))))).k ?_
 exact (by rw [lp ‹_› ‹_› ‹_›,T7 (w:=(aK (aG b g) == 4)) (by omega) rfl,tc_r ‹_› (by simpa using ‹_›)];rfl)
 refine aB ?_ ?_ <;> intro We
 refine cI [8] [(0,0),(1,0),(2,0),(3,0),(4,0),(5,1),(6,1),(7,1),(8,1),(9,0)] ?_
 refine ah (Er _).k ?_
 refine an (gn (aG b g) (lR (cV (aG b g).Prog (aG b g).Pc).X)).k ?_
 refine an (cN b g (c8 (aG b g) (lR (cV (aG b g).Prog (aG b g).Pc).X))).k ?_
 exact (by rw [lp ‹_› ‹_› ‹_›,st_6 (by omega)];rfl)
 refine o_ ?_
 refine iL (z_ _).k ?_
 refine iL (sD _ _).k ?_
 refine aB ?_ ?_ <;> intro Wf
 refine cI [6] [(0,0),(1,0),(2,0),(3,0),(4,1),(5,1),(6,1),(7,0)] ?_
 refine an (xQ (aG b g) (aK (aG b g))).k ?_
 refine an (cN b g (ow (aG b g) (aK (aG b g)))).k ?_
 exact (by rw [lp ‹_› ‹_› ‹_›,st_t (by omega) ‹_›];rfl)
 refine aB ?_ ?_ <;> intro Wg
 refine cI [8] [(0,0),(1,0),(2,0),(4,0),(5,0),(3,1),(6,1),(7,1),(8,1),(9,0)] ?_
 refine an (Jz b (cV (aG b g).Prog (aG b g).Pc).X).k ?_
 refine an (jI (aG b g)).k ?_
 refine an (cN (sy b (cV (aG b g).Prog (aG b g).Pc).X) g (fU (aG b g))).k ?_
 exact (by rw [lp ‹_› ‹_› ‹_›,st_5 (by omega) ‹_›];rfl)
 refine cI [5] [(0,0),(1,0),(2,0),(3,1),(4,1),(5,1),(6,0)] ?_
 refine an (xN (aG b g)).k ?_
 refine an (cN b g (held (aG b g))).k ?_
 exact (by rw [lp ‹_› ‹_› ‹_›,st_7 (by omega) ‹_›];rfl)
end
section
variable {n p:Int} {l:List Int} {gs:List ax} {i:Nat} {b:aS} {y:ax}
set_option maxRecDepth 100000
set_option maxHeartbeats 8000000
abbrev SE (n:Int) (g:ax):ax:={ g with av:=(fQ g.av n).getD g.av }
abbrev oX (gs:List ax) (n:Int) (i:Nat):Bool:=rq (gs[i]?.getD th).jv n
abbrev lq (b:aS) (n:Int):List Int:=dn (oX b.aa n) b.aa.length
def kw (n:Int) (gs:List ax) (l:List Int):List ax:=l.foldl (fun gs i=>gs.set i.toNat (SE n (gs[i.toNat]?.getD th))) gs
theorem A4 {n:Int}:∀ {l:List Int} {gs:List ax},(kw n gs l).length=gs.length
 | [],gs=>rfl
 | i :: l,gs=>by
  show (kw n (gs.set _ _) l).length=_
  rw [A4,bD]
theorem D8 {i:Int}:kw n gs (l ++ [i])=(kw n gs l).set i.toNat (SE n ((kw n gs l)[i.toNat]?.getD th)):=by
 unfold kw
 rw [List.foldl_append]
 rfl
theorem D9 (hp:l[i]? = some p) (hy:(kw n gs (l.take i))[p.toNat]? = some y):kw n gs (l.take (i + 1))=(kw n gs (l.take i)).set p.toNat (SE n y):=by
 rw [fX,hp]
 show kw n gs (l.take i ++ [p])=_
 rw [D8,hy]
 rfl
theorem K5 {P:Nat→Bool} {n:Nat} (h:(dn P n)[i]? = some p):0 ≤ p∧p < n:=by
 have h1:=aH h
 simp only [dn,j7,List.mem_filter,List.mem_range] at h1
 obtain ⟨k,h2,rfl⟩:=h1
 omega
theorem O7 {n:Int} {gs:List ax}:∀ {k:Nat},k ≤ gs.length→kw n gs (dn (oX gs n) k)=(gs.take k).map (pU n) ++ gs.drop k
 | 0,_=>by simp [DV,kw]
 | k + 1,hk=>by
  have ih:=O7 (n:=n) (gs:=gs) (k:=k) (by omega)
  have hg:gs[k]? = some gs[k]:=bg (by omega)
  have hd:gs.drop k=gs[k] :: gs.drop (k + 1):=Bg (by omega)
  have hl:((gs.take k).map (pU n)).length=k:=by simp;omega
  have e1:(gs.take (k + 1)).map (pU n)=(gs.take k).map (pU n) ++ [pU n gs[k]]:=by rw [fX,hg,iW];rfl
  rw [c_,e1]
  have hb:oX gs n k=rq gs[k].jv n:=by show rq (gs[k]?.getD th).jv n=_;rw [hg];rfl
  split
  rename_i hp
  rw [hb] at hp
  rw [D8,ih,Int.toNat_natCast,nO (by omega),List.set_append_right _ _ (by omega),hl,Nat.sub_self,hd,List.set_cons_zero,rX]
  rw [show pU n gs[k]=SE n gs[k] from if_pos hp]
  rfl
  rename_i hp
  rw [hb] at hp
  rw [List.append_nil,ih,hd,rX]
  rw [show pU n gs[k]=gs[k] from if_neg hp]
  rfl
theorem O8:(dn (oX gs n) gs.length).length=0 ↔ gs.any (fun g=>rq g.jv n)=false:=by
 rw [List.length_eq_zero_iff,dn,List.map_eq_nil_iff,List.filter_eq_nil_iff,List.any_eq_false]
 constructor
 intro h g hg
 obtain ⟨j,hj⟩:=List.getElem?_of_mem hg
 have:=h j (List.mem_range.2 (aM.1 hj).1)
 unfold oX at this
 rw [hj] at this
 exact this
 intro h j hj
 have hj:=List.mem_range.1 hj
 have hg:gs[j]? = some gs[j]:=bg hj
 unfold oX
 rw [hg]
 exact h _ (List.getElem_mem hj)
theorem FH (h:dg b=false ∨ ¬ (0 ≤ n∧n ≤ 7)):cL b n=none:=by
 unfold cL
 refine if_neg fun e=> ?_
 simp only [bh,jX,decide_eq_true_eq] at e
 rcases h with h|h
 rw [h] at e;exact absurd e.1 (by decide)
 exact h e.2
theorem Xb (h:dg b=true) (h1:0 ≤ n∧n ≤ 7) (hi:(lq b n).length ≤ i) (h0:¬ (lq b n).length=0):cL b n=some { b with aa:=kw n b.aa ((lq b n).take i) }:=by
 unfold cL
 rw [if_pos (by simp only [bh,jX,decide_eq_true_eq];exact ⟨h,h1⟩),fu hi,if_pos]
 unfold lq;rw [O7 (gL _)];simp
 rw [← Bool.not_eq_false];exact fun e=>h0 (O8.2 e)
theorem Xc (h:dg b=true) (h1:0 ≤ n∧n ≤ 7) (hi:(lq b n).length ≤ i) (h0:(lq b n).length=0):cL b n=some { b with aa:=kw n b.aa ((lq b n).take i),av:=(fQ b.av n).getD b.av }:=by
 unfold cL
 rw [if_pos (by simp only [bh,jX,decide_eq_true_eq];exact ⟨h,h1⟩),fu hi,if_neg]
 rw [List.length_eq_zero_iff.1 h0];rfl
 rw [O8.1 h0];decide
theorem Xd (hy:b.aa[i]? = some y) (h:rq y.jv n=true):(dn (oX b.aa n) (i + 1)).map bS=(dn (oX b.aa n) i).map bS ++ [bS i]:=by
 have:oX b.aa n i=true:=by unfold oX;rw [hy];exact h
 rw [c_,this];simp
theorem pt_no (hy:b.aa[i]? = some y) (h:rq y.jv n=false):(dn (oX b.aa n) (i + 1)).map bS=(dn (oX b.aa n) i).map bS:=by
 have:oX b.aa n i=false:=by unfold oX;rw [hy];exact h
 rw [c_,this];simp
theorem Q4 (h:dg b=false ∨ (gW b.av).isSome=false):gh b=none:=by
 unfold gh
 split
 rename_i hb
 rcases h with h|h
 rw [h] at hb;cases hb
 cases e:gW b.av with
 | none=>rfl
 | some q=>rw [e] at h;cases h
 rfl
abbrev Dn (b:aS):aS:=((gh b).map Prod.fst).getD b
abbrev u9 (b:aS):Int:=((gh b).map Prod.snd).getD (-1)
theorem Zq (h:dg b=true):gh b=(gW b.av).map fun q=>({ b with av:=q.1 },q.2):=if_pos h
theorem SF (h:dg b=true):c7 [RD.a (bH (Dn b)),RD.c (.v (.int .i64 (u9 b))),RD.c (.v (.bool (gh b).isSome))]
  = c7 [RD.a [.sl 1 (b.au.map aP), .sl 15 (b.aa.map bp), .sl 1 (b.cm.map bS), .v (.int .i64 ((gW b.av).elim b.av (·.1)))],RD.c (.v (.int .i64 ((gW b.av).elim (-1) (·.2)))),RD.c (.v (.bool (gW b.av).isSome))]:=by
 unfold Dn u9
 rw [Zq h]
 cases gW b.av <;> rfl
theorem EJ (b:aS) (n:Int) [Q (a_ b)]:aF Tryz.prog 455 [A (bH b),I n] (RL 1 ((lq b n).map bS)):=by
 refine aF.w 28 Tryz.func455 fun w g0 hM=> ?_
 have eW:=hM.1.2.1.map
 refine ck [1,2,4,5] [5] [5] (fun (i:Nat)=>[.set 6 (I i)]) (fun (i:Nat)=>[(5,⟨false,[.own (.sl 1 ((dn (oX b.aa n) i).map bS))]⟩)]) (fun (i:Nat)=>i ≤ b.aa.length) (fun (i:Nat)=>b.aa.length - i) (0) (bG _) ?_
 refine ⟨hda,fun i hyp N1 bq=> ?_⟩
 have hyp:i ≤ b.aa.length:=hyp
 have hr0:= @kJ (oX b.aa n) i
 have QC:=(inferInstance:cX b.aa 1048576).h
 refine len ?_
 refine aB ?_ ?_ <;> intro hb
 ·obtain ⟨y,hy⟩:∃ y,b.aa[i]? = some y:=⟨_,bg (by omega)⟩
  refine dM hy ?_
  skip
  refine ah (L7 _ _).k ?_
  refine aB ?_ ?_ <;> intro iz
  ·refine Gt ?_
   refine cg ?_
   refine bq _ _ _ ?_
   refine hY (i + 1) (by omega) (by repeat' first|exact rfl|constructor|(refine dL ?_;rw [Xd ‹_› ‹_›];done))
  ·refine cg ?_
   refine bq _ _ _ ?_
   refine hY (i + 1) (by omega) (by repeat' first|exact rfl|constructor|(refine dL ?_;rw [pt_no ‹_› ‹_›];done))
 ·refine bq _ _ _ ?_
  exact (by obtain rfl:i=b.aa.length:=(by omega);rfl)
theorem EK (b:aS) (n:Int) [Q (a_ b)]:aF Tryz.prog 408 [A (bH b),I n] (RL 1 ((lq b n).map bS)):=by
 refine aF.w 27 Tryz.func408 fun w g0 hM=> ?_
 have eW:=hM.1.2.1.map
 refine len ?_
 refine ck [1,4,5,10,11] [5] [5] (fun (i:Nat)=>[.set 12 (I i)]) (fun (i:Nat)=>[(5,⟨false,[.own (.sl 1 ((dn (oX b.aa n) i).map bS))]⟩)]) (fun (i:Nat)=>i ≤ b.aa.length) (fun (i:Nat)=>b.aa.length - i) (0) (bG _) ?_
 refine ⟨hda,fun i hyp N1 bq=> ?_⟩
 have hyp:i ≤ b.aa.length:=hyp
 have hr0:= @kJ (oX b.aa n) i
 have QC:=(inferInstance:cX b.aa 1048576).h
 refine aB ?_ ?_ <;> intro hb
 ·obtain ⟨y,hy⟩:∃ y,b.aa[i]? = some y:=⟨_,bg (by omega)⟩
  refine dM hy ?_
  skip
  refine ah (L8 _ _).k ?_
  refine aB ?_ ?_ <;> intro iz
  ·refine Gt ?_
   refine cg ?_
   refine bq _ _ _ ?_
   refine hY (i + 1) (by omega) (by repeat' first|exact rfl|constructor|(refine dL ?_;rw [Xd ‹_› ‹_›];done))
  ·refine cg ?_
   refine bq _ _ _ ?_
   refine hY (i + 1) (by omega) (by repeat' first|exact rfl|constructor|(refine dL ?_;rw [pt_no ‹_› ‹_›];done))
 ·refine bq _ _ _ ?_
  exact (by obtain rfl:i=b.aa.length:=(by omega);rfl)
theorem EL (b:aS) (n:Int) [Q (a_ b)]:aF Tryz.prog 355 [A (bH b),I n] (RG [.a (bH ((cL b n).getD b)), .c (.v (.bool (cL b n).isSome))]):=by
 refine aF.w 62 Tryz.func355 fun w g0 hM=> ?_
 have eW:=hM.1.2.1.map
 refine an (gr b).k ?_
 refine ah (p9 _).k ?_
 refine aB ?_ ?_ <;> intro gK
 ·exact (by rw [FH (by left;assumption)];rfl)
 ·refine ah (aE _ _ _).k ?_
  refine aB ?_ ?_ <;> intro hb
  ·exact (by rw [FH (by right;omega)];rfl)
  ·refine bu (EJ b n).k ?_
   refine ck [1,2,4,5,6] [] [2] (fun (i:Nat)=>[.set 7 (I i)]) (fun (i:Nat)=>[(2,⟨true,[.own (.sl 1 (b.au.map aP)), .own (.sl 15 ((kw n b.aa ((lq b n).take i)).map bp)), .own (.sl 1 (b.cm.map bS)), .own (.v (.int .i64 b.av))]⟩)]) (fun (i:Nat)=>i ≤ (lq b n).length) (fun (i:Nat)=>(lq b n).length - i) (0) (bG _) ?_
   refine ⟨hda,fun i hyp N1 bq=> ?_⟩
   have hyp:i ≤ (lq b n).length:=hyp
   have hll:(lq b n).length ≤ b.aa.length:=kJ
   have QC:=(inferInstance:cX b.aa 1048576).h
   refine len ?_
   refine aB ?_ ?_ <;> intro iz
   ·obtain ⟨p,hp⟩:∃ p,(lq b n)[i]? = some p:=⟨_,bg (by omega)⟩
    have hpr:=K5 hp
    have hptl:(kw n b.aa ((lq b n).take i)).length=b.aa.length:=A4
    obtain ⟨y,hy⟩:∃ y,(kw n b.aa ((lq b n).take i))[p.toNat]? = some y:=⟨_,bg (by omega)⟩
    refine gp [22] [22] [] (.quiet 2 1 (.quiet 3 1 (.quiet 8 1 (.quiet 9 1 (.quiet 15 1 (.quiet 0 0 (.quiet 1 0 (.quiet 4 0 (.quiet 5 0 (.quiet 6 0 (.quiet 7 0 (.quiet 10 0 (.quiet 11 0 (.quiet 12 0 (.quiet 13 0 (.quiet 14 0 (.fa 16 (.quiet 17 1 (.quiet 18 1 (.quiet 19 1 (.quiet 20 0 (.quiet 21 0 (.fa 22 .done))))))))))))))))))))))) ?_
    repeat' first|exact True.intro|refine And.intro ?_ ?_|(intro _ _)|refine di ?_|refine bl ?_|refine aL ‹_› ?_|refine an (sE y.av n).k ?_
    refine cg ?_
    refine bq _ _ _ ?_
    refine hY (i + 1) (by omega) (by repeat' first|exact rfl|constructor|(refine dL ?_;rw [D9 hp hy,bL];done))
   ·refine bq _ _ _ ?_
    refine len ?_
    refine aB ?_ ?_ <;> intro tr
    ·refine an (sE b.av n).k ?_
     exact (by rw [Xc (i:=i) ‹_› (by omega) (by omega) (by omega)];rfl)
    ·exact (by rw [Xb (i:=i) ‹_› (by omega) (by omega) (by omega)];rfl)
theorem EM (b:aS) (n:Int) [Q (a_ b)]:aF Tryz.prog 290 [A (bH b),I n] (RG [.a (bH ((cL b n).getD b)), .c (.v (.bool (cL b n).isSome))]):=by
 refine aF.w 59 Tryz.func290 fun w g0 hM=> ?_
 have eW:=hM.1.2.1.map
 refine an (cZ b).k ?_
 refine ah (jR _).k ?_
 refine aB ?_ ?_ <;> intro gK
 ·exact (by rw [FH (by left;assumption)];rfl)
 ·refine ah (aU _ _ _).k ?_
  refine aB ?_ ?_ <;> intro hb
  ·exact (by rw [FH (by right;omega)];rfl)
  ·refine bu (EK b n).k ?_
   refine len ?_
   refine ck [1,4,5,6,7,24,25] [] [6] (fun (i:Nat)=>[.set 26 (I i)]) (fun (i:Nat)=>[(6,⟨true,[.own (.sl 1 (b.au.map aP)), .own (.sl 15 ((kw n b.aa ((lq b n).take i)).map bp)), .own (.sl 1 (b.cm.map bS)), .own (.v (.int .i64 b.av))]⟩)]) (fun (i:Nat)=>i ≤ (lq b n).length) (fun (i:Nat)=>(lq b n).length - i) (0) (bG _) ?_
   refine ⟨hda,fun i hyp N1 bq=> ?_⟩
   have hyp:i ≤ (lq b n).length:=hyp
   have hll:(lq b n).length ≤ b.aa.length:=kJ
   have QC:=(inferInstance:cX b.aa 1048576).h
   refine aB ?_ ?_ <;> intro iz
   ·obtain ⟨p,hp⟩:∃ p,(lq b n)[i]? = some p:=⟨_,bg (by omega)⟩
    have hpr:=K5 hp
    have hptl:(kw n b.aa ((lq b n).take i)).length=b.aa.length:=A4
    obtain ⟨y,hy⟩:∃ y,(kw n b.aa ((lq b n).take i))[p.toNat]? = some y:=⟨_,bg (by omega)⟩
    refine di ?_
    refine aL ‹_› ?_
    refine gp [16] [16] [] (.quiet 2 1 (.quiet 5 1 (.quiet 9 1 (.quiet 0 0 (.quiet 1 0 (.quiet 3 0 (.quiet 4 0 (.quiet 6 0 (.quiet 7 0 (.quiet 8 0 (.fa 10 (.quiet 11 1 (.quiet 12 1 (.quiet 13 1 (.quiet 14 0 (.quiet 15 0 (.fa 16 .done))))))))))))))))) ?_
    repeat' first|exact True.intro|refine And.intro ?_ ?_|(intro _ _)|refine bl ?_|refine aL ‹_› ?_|refine an (sG y.av n).k ?_
    refine cg ?_
    refine bq _ _ _ ?_
    refine hY (i + 1) (by omega) (by repeat' first|exact rfl|constructor|(refine dL ?_;rw [D9 hp hy,bL];done))
   ·refine bq _ _ _ ?_
    refine len ?_
    refine aB ?_ ?_ <;> intro tr
    ·refine an (sG b.av n).k ?_
     exact (by rw [Xc (i:=i) ‹_› (by omega) (by omega) (by omega)];rfl)
    ·exact (by rw [Xb (i:=i) ‹_› (by omega) (by omega) (by omega)];rfl)
theorem Ig (b:aS) [Q (a_ b)]:aF Tryz.prog 356 [A (bH b)] (RG [.a (bH (Dn b)), .c (.v (.int .i64 (u9 b))), .c (.v (.bool (gh b).isSome))]):=by
 refine aF.w 26 Tryz.func356 fun w g0 _=> ?_
 refine an (gr b).k ?_
 refine ah (p9 _).k ?_
 refine aB ?_ ?_ <;> intro hb
 exact (by show _=c7 [RD.a (bH (Dn b)),RD.c (.v (.int .i64 (u9 b))),_];unfold Dn u9;rw [Q4 (by left;assumption)];rfl)
 refine an (xI b.av).k ?_
 exact (by show _=c7 [RD.a (bH (Dn b)),RD.c (.v (.int .i64 (u9 b))),RD.c (.v (.bool (gh b).isSome))];rw [SF ‹_›];rfl)
theorem Ih (b:aS) [Q (a_ b)]:aF Tryz.prog 292 [A (bH b)] (RG [.a (bH (Dn b)), .c (.v (.int .i64 (u9 b))), .c (.v (.bool (gh b).isSome))]):=by
 refine aF.w 30 Tryz.func292 fun w g0 _=> ?_
 refine an (cZ b).k ?_
 refine an (xJ b.av).k ?_
 refine ah (jR _).k ?_
 refine aB ?_ ?_ <;> intro gK
 exact (by show _=c7 [RD.a (bH (Dn b)),RD.c (.v (.int .i64 (u9 b))),_];unfold Dn u9;rw [Q4 (by left;assumption)];rfl)
 refine aB ?_ ?_ <;> intro hb
 exact (by show _=c7 [RD.a (bH (Dn b)),RD.c (.v (.int .i64 (u9 b))),_];unfold Dn u9;rw [Q4 (by right;assumption)];rfl)
 exact (by show _=c7 [RD.a (bH (Dn b)),RD.c (.v (.int .i64 (u9 b))),RD.c (.v (.bool (gh b).isSome))];rw [SF ‹_›,show (gW b.av).isSome=true from by assumption];rfl)
end
set_option maxRecDepth 100000
set_option maxHeartbeats 8000000
theorem Xe {aX:List dF}:(aX.map gO).take (min aX.length 80)=(aX.take 80).map gO:=by
 rw [← List.map_take]
 congr 1
 by_cases h:aX.length ≤ 80
 rw [Nat.min_eq_left h,fu (gL _),fu h]
 rw [Nat.min_eq_right (by omega)]
theorem MN (a:dF):aF Tryz.prog 216 [A (CY a)] (RV (.bool (KA a))):=by
 refine aF.w 6 Tryz.func216 fun w g0 _=> ?_
 refine ah (aE _ _ _).k ?_
 exact rfl
theorem Ii (k:Int):aF Tryz.prog 77 [I k] (RV (.bool (vz k))):=by
 refine aF.w 5 Tryz.func77 fun w g0 _=> ?_
 refine ah (aE _ _ _).k ?_
 exact rfl
theorem MO (a:dF):aF Tryz.prog 225 [A (CY a)] (RP (A (zA (DY a)))):=by
 refine aF.w 11 Tryz.func225 fun w g0 _=> ?_
 exact rfl
theorem MP (a:dF):aF Tryz.prog 167 [A (CY a)] (RP (A (zA (DY a)))):=by
 refine aF.w 11 Tryz.func167 fun w g0 _=> ?_
 exact rfl
theorem u_ (aX:List dF):pI Tryz.prog 71 [L 6 (aX.map gO)] (L 6 ((aX.take 80).map gO)):=by
 refine pI.w 8 Tryz.func71 fun w g0 _=> ?_
 refine len ?_
 refine cut 0 (min aX.length 80) ?_ rfl (by split <;> omega) (bG _) (by rw [aI];exact Nat.min_le_left _ _)
 exact (by rw [← Xe];rfl)
section
variable {g p v:Int} {b:aS}
set_option maxRecDepth 100000
set_option maxHeartbeats 8000000
theorem pQ {f:ax→Option ax} (hb:a_ b) (hf:∀ x y,aJ x→f x=some y→aJ y):∀ c,iu b g f=some c→a_ c:=by
 intro c hc
 unfold iu at hc
 split at hc
 cases hx:m5 b.aa g with
 | none=>rw [hx] at hc;cases hc
 | some x=>
  rw [hx] at hc
  have hc:(f x).map (b_ b g)=some c:=hc
  cases hy:f x with
  | none=>rw [hy] at hc;cases hc
  | some y=>
   rw [hy] at hc
   simp only [Option.map_some,ea] at hc
   subst hc
   refine Zh hb (hf x y ?_ hy)
   have:=HV (g:=g) hb
   rwa [sW hx] at this
 cases hc
theorem T8 {x:ax} (h:aJ x):aJ (sx x v):=
 have:Q (aJ x):=⟨h⟩
 (inferInstance:Q (aJ (sx x v))).h
theorem vX {p:Prop} {_:Decidable p} {α:Type} {x y: α} (h:(if p then some x else none)=some y):x=y:=by
 split at h
 cases h;rfl
 cases h
theorem MQ {s:aQ} (hb:a_ b):∀ c,eN b g p s=some c→a_ c:=pQ hb fun x y hx h=>by rw [← vX h];exact MG hx
theorem za (hb:a_ b):∀ c,ew b g p=some c→a_ c:=pQ hb fun x y hx h=>by rw [← vX h];exact KY hx
theorem zb (hb:a_ b):∀ c,cr b g v=some c→a_ c:=pQ hb fun x y hx h=>by
 rw [← vX h]
 split <;> exact hx
theorem zc (hb:a_ b):∀ c,ct b g=some c→a_ c:=pQ hb fun x y hx h=>by
 split at h
 cases h;exact hx
 rw [← vX h];exact hx
theorem ze {b:aS} {g n:Int} (hb:a_ b):∀ c,b7 b g n=some c→a_ c:=pQ hb fun x y hx h=>by
 cases e:fQ x.av n with
 | none=>rw [e] at h;cases h
 | some p=>rw [e] at h;cases h;exact hx
theorem MR {x:qY} (hb:a_ b):∀ c,eO b g x=some c→a_ c:=pQ hb fun x y hx h=>by rw [← vX h];exact hx
theorem Zr {c:Int} (hb:a_ b):∀ d,iG b p c v=some d→a_ d:=fun d h=>by unfold iG at h;rw [← vX h];exact ⟨Cj hb.1,hb.2⟩
theorem FI {n:Int} (hb:a_ b):∀ d,cL b n=some d→a_ d:=fun d h=>by
 unfold cL at h
 rw [← vX h]
 split
 refine ⟨hb.1,⟨by show (b.aa.map _).length ≤ _;rw [aI];exact hb.2.1.1,fun y hy=> ?_⟩,hb.2.2⟩
 obtain ⟨x,hx,rfl⟩:=j7.1 (show y ∈ b.aa.map (pU n) from hy)
 unfold pU
 split <;> exact hb.2.1.2 x hx
 exact hb
end
end Go.Proofs.YtdliggkohdnipaaGreat.T
