/-
  Part 6 of the proof of ChainPaths: contracts of functions, and what follows from them; without conditions.
-/
import Derived.Test.YtogaiijhicfoaaaGreatChainPaths5
set_option linter.unusedVariables false
set_option linter.unusedSimpArgs false
set_option linter.defProp false
namespace Go.Proofs.YtogaiijhicfoaaaGreatY
set_option maxRecDepth 100000
set_option maxHeartbeats 4000000
open Go.RowKit Go.Proofs.YtogaiijhicfoaaaGreatK Go.Proofs.YtogaiijhicfoaaaGreatT Go.Proofs.YtogaiijhicfoaaaGreatL Go.Proofs.YtogaiijhicfoaaaGreatV Go.Proofs.YtogaiijhicfoaaaGreatG Go.Proofs.YtogaiijhicfoaaaGreatW Go.Proofs.YtogaiijhicfoaaaGreatU

section
variable {p : ApiProgram} {free : List Bool}
noncomputable def inTo (p:ApiProgram) (free:List Bool) (i:Nat):List Bool:=(List.range p.fFuns.length).map fun a=>if a<i then (calledL p).getD a false && free.getD a false else false
theorem inTo_len (p:ApiProgram) (free:List Bool) (i:Nat):(inTo p free i).length=p.fFuns.length:=by unfold inTo;simp
theorem inTo_zero (p:ApiProgram) (free:List Bool):List.replicate p.fFuns.length false=inTo p free 0:=by
  unfold inTo
  refine (List.eq_replicate_iff.2 ⟨by simp,fun b hb=>?_⟩).symm
  obtain ⟨a,_,rfl⟩:=List.mem_map.1 hb
  rw [if_neg ZO]
theorem inTo_set {i:Nat}(hi:i<p.fFuns.length) {b:Bool}(h:((calledL p).getD i false && free.getD i false)=b):(inTo p free i).set i b=inTo p free (i+1):=by
  apply List.ext_getElem?
  intro a
  rw [List.getElem?_set,inTo_len]
  by_cases e:i=a
  · subst e
    rw [if_pos rfl,if_pos hi]
    unfold inTo
    rw [List.getElem?_map,List.getElem?_range hi,← h]
    simp
  · rw [if_neg e]
    unfold inTo
    rw [List.getElem?_map,List.getElem?_map]
    cases hr:(List.range p.fFuns.length)[a]? with
    | none=>rfl
    | some j=>
      obtain ⟨hk2,rfl⟩:=List.getElem?_eq_some_iff.1 hr
      simp only [List.getElem_range,Option.map_some]
      by_cases h3:a<i
      · rw [if_pos h3,if_pos ZO]
      · rw [if_neg h3,if_neg ZO]
theorem inTo_all (p:ApiProgram) (free:List Bool):inTo p free p.fFuns.length=memF p free:=by
  unfold inTo memF
  refine List.map_congr_left (fun i hi=>?_)
  rw [if_pos (List.mem_range.1 hi)]
noncomputable def f0 (p:ApiProgram) (free:List Bool):Bool:=decide (0≤wE p free p.fEntry) && decide (1+wE p free p.fEntry≤56)
noncomputable def fTo (p:ApiProgram) (free:List Bool) (i:Nat):Bool:=f0 p free && (List.range i).all fun i=>((graphF p).getD i []).all (edgeOk p free i)
noncomputable def gTo (p:ApiProgram) (free:List Bool) (i:Nat) (l:List Int) (j:Nat):Bool:=fTo p free i && (l.take j).all (edgeOk p free i)
theorem fTo_zero:f0 p free=fTo p free 0:=by unfold fTo;simp
theorem fTo_all:fTo p free p.fFuns.length=pathsN p free:=rfl
theorem gTo_zero {i:Nat}{l:List Int} : fTo p free i=gTo p free i l 0:=by unfold gTo;simp
theorem gTo_succ {i j:Nat}{l:List Int}{y:Int}(hy:l[j]?=some y):gTo p free i l (j+1)=(gTo p free i l j && edgeOk p free i y):=by
  unfold gTo
  rw [List.take_add_one,hy,List.all_append,Bool.and_assoc]
  simp
theorem gTo_all {i:Nat}{l:List Int}(hl:(graphF p)[i]?=some l):gTo p free i l l.length=fTo p free (i+1):=by
  unfold gTo fTo
  rw [List.take_length,List.range_succ,List.all_append,Bool.and_assoc]
  congr 2
  show l.all _=(((graphF p).getD i []).all (edgeOk p free i) && true)
  rw [getD_at hl,Bool.and_true]
end
theorem law_Paths {B:Base}{w:World}(hS:St B [] w) (p:ApiProgram) (pc:List Value) (hp:kApiProgram.K B.e p pc) (hsm:SmallP p) (free:List Bool) (A':Option Addr) (c':Nat) (hF:Kd.bool.C B.e A' free) (e0:Nat) (he0:p.fEntry=(e0:Int)) (hel:e0<p.fFuns.length) :
    CallsIn Fence.wide 0 Tryz.prog 48 #[.agg pc.toArray,.slice A' free.length c'] w (Ret B (fun _:Unit=>True) (fun _=>.bool (pathsN p free)) (fun _=>[])):=by
  obtain ⟨A0,c0,A1,c1,rfl,l0,g0,l1,g1⟩:=kApiProgram_open hp
  have hn:=hsm.funs
  have hcl:=calledL_len p
  have hml:=memF_len p free
  have hgl:=Go.Proofs.YtogaiijhicfoaaaGreatU.graphF_len p
  have hub0:=worst_ub (g:=graphF p) (ib:=memF p free) (frm_ub hsm) (p.fFuns.length+1) (e0:Int) []
  rw [show worstN (graphF p) (memF p free) (frmL p) (p.fFuns.length+1) (e0:Int) []=wE p free (e0:Int) from rfl] at hub0
  refine ZX Tryz.func48 hS ?_
  refine Zh (Zi (oBox J ZP (fun b2=>?_)))
  refine Zp J (Zn (Za (Zh (Zi (Zla ?_)))))
  (refine ZC0 rfl ZK (fun w hS=>frame hS ZQ (fun B' hB hS'=>ref26_Graph hS' p _ (kApiProgram.K_grow hB hp) hsm B.e)) ?_;rintro ⟨A8,c8,hs8⟩ hl8)
  dsimp only at hl8 ⊢
  refine Zp J (Zn (Za (Zh (Zi (Zla ?_)))))
  (refine ZC0 rfl ZK (fun w hS=>frame hS ZQ (fun B' hB hS'=>ref26_Called hS' p _ (kApiProgram.K_grow hB hp) hsm B.e)) ?_;rintro ⟨C8,d8⟩ -)
  refine Zp J (Zn (Za (wFreeze [row kHdr B.e 42 (.slice A8 p.fFuns.length c8) hs8,bun (rws (Kd.int .i64) B.e 3 hs8 (graphF p)),row Kd.bool B.e 4 (.slice C8 p.fFuns.length d8) (calledL p)] ZQ (fun B1 hB1 hq1=>?_))))
  have hG:=grid_C (hq1 _ _ ZP) (hq1 _ _ ZP) (by rw [hl8,hgl]) hB1
  have hCl:=row_Cs (W:=B.e) (e:=4) (n:=p.fFuns.length) (cp:=d8) (xs:=calledL p) (hq1 _ _ ZP)
  have hF:=Kd.C_grow hB1 hF
  have hp:=kApiProgram.K_grow hB1 hp
  refine Zh (Zi (Zz (n:=0) (m:=0) J J J (Zld ?_)))
  refine Zv J J (oMake (kd:=Kd.bool) (W:=B1.e) false J J J J J J ZO J (fun g21=>?_))
  rw [inTo_zero p free]
  refine Zp J (Zn (Za (Zh (Zh (Zi (Zp J (Zn (Za (Zk (wLoop (ι:=Nat) (fun i=>[(1,.slice A' free.length c'),(2,.pointer (some ⟨b2,0,none⟩)),(5,.slice A8 p.fFuns.length c8),(6,.slice C8 p.fFuns.length d8),(7,.slice (some ⟨g21,0,none⟩) p.fFuns.length p.fFuns.length),(8,.int .i64 (i:Int))]) (fun i=>[blk b2 29 [.slice A0 p.fFuns.length c0,.slice A1 p.fDats.length c1,.int .i64 p.fEntry],row Kd.bool B1.e 4 (.slice (some ⟨g21,0,none⟩) p.fFuns.length p.fFuns.length) (inTo p free i)]) (fun i=>i≤p.fFuns.length) (fun i=>p.fFuns.length-i) 0 ?_ cv Lh ?_))))))))))
  exact Nat.zero_le _
  rintro i hi
  have hil:=inTo_len p free i
  try dsimp only
  refine Zh (Zh (Zi (Zo J (Zo J (Zv J J (Zx J J (Zn (Za (wC (fun h25=>?_) (fun h25=>?_))))))))))
  have hkl:i<p.fFuns.length:=by omega
  obtain ⟨uc,huc⟩:∃ u,(calledL p)[i]?=some u:=⟨_,List.getElem?_eq_getElem ZO⟩
  obtain ⟨e3,cs3,hEc⟩:=hCl.elm huc
  obtain rfl:=(show cs3=[Value.bool uc] from hEc.K)
  refine Zj (Za (Zh (Zk (Zi (Zo J (Zo J (Zo J (Zo J (oIdxE J J (hEc) ZO J J ?_)))))))))
  have hc32:=(hEc).cell
  refine Zlx hc32 ?_
  refine Zo J (ZS (ZT 34) (fun h34=>?_) (fun h34=>?_))
  refine Zq J J (Zo J (Zq J J (Zo J (Zq J J (Zv J J (Zq J J (Zx J J (Zt J J (Zo J (ZS (ZT 40) (fun h40=>?_) (fun h40=>?_)))))))))))
  obtain ⟨uf,huf⟩:∃ u,free[i]?=some u:=⟨_,List.getElem?_eq_getElem ZO⟩
  obtain ⟨e4,cs4,hEf⟩:=hF.elm huf
  obtain rfl:=(show cs4=[Value.bool uf] from hEf.K)
  refine Zq J J (Zo J (Zq J J (Zo J (Zq J J (oIdxE J J (hEf) ZO J J ?_)))))
  have hc43:=(hEf).cell
  refine Zq J J (Zlx hc43 ?_)
  refine Zt J J (ZR J J ZP ZO J J (fun g46 hg46=>?_))
  first | subst hg46 | (injection hg46 with hg46;injection hg46 with hg46;subst hg46)
  refine oStR _ J J J J ZP (by first | omega | (simp only [List.length_set];omega)) ?_
  refine Zn (Zd (Za (Zi (Zo J (Zsu ?_)))))
  refine Zp J (Zn (Za ?_))
  exact ⟨rfl,i+1,by omega,by omega,cv,by rw [← inTo_set hkl (b:=uf) (by rw [getD_at huc,show uc=true from h34,getD_at huf];rfl)];exact (Leads.has ZQ)⟩
  refine Zr J J J J (Zr J J J J (Zr J J J J (Zr J J J J (Zu J J (ZR J J ZP ZO J J (fun g46 hg46=>?_))))))
  first | subst hg46 | (injection hg46 with hg46;injection hg46 with hg46;subst hg46)
  refine oStR _ J J J J ZP (by first | omega | (simp only [List.length_set];omega)) ?_
  refine Zn (Zd (Za (Zi (Zo J (Zsu ?_)))))
  refine Zp J (Zn (Za ?_))
  exact ⟨rfl,i+1,by omega,by omega,cv,by rw [← inTo_set hkl (b:=false) (by rw [List.getD_eq_getElem?_getD (l:=free),List.getElem?_eq_none ZO];simp)];exact (Leads.has ZQ)⟩
  refine Zr J J J J (Zr J J J J (Zr J J J J (Zr J J J J (Zu J J (Zo J (Zr J J J J (Zr J J J J (Zr J J J J (Zr J J J J (Zu J J (ZR J J ZP ZO J J (fun g46 hg46=>?_))))))))))))
  first | subst hg46 | (injection hg46 with hg46;injection hg46 with hg46;subst hg46)
  refine oStR _ J J J J ZP (by first | omega | (simp only [List.length_set];omega)) ?_
  refine Zn (Zd (Za (Zi (Zo J (Zsu ?_)))))
  refine Zp J (Zn (Za ?_))
  exact ⟨rfl,i+1,by omega,by omega,cv,by rw [← inTo_set hkl (b:=false) (by rw [getD_at huc,show uc=false from h34];rfl)];exact (Leads.has ZQ)⟩
  obtain rfl:i=p.fFuns.length:=by omega
  rw [inTo_all]
  refine Zm (Zb (Zb (Ze (Za (Zh (Zi (Zla ?_)))))))
  refine Zo J (Zo J (Zz (n:=2) (m:=2) J J J (Zld ?_)))
  refine ZS0 (t:=51) (v':=.int .i64 (e0:Int)) rfl (by rw [he0]) ?_
  (refine ZD J (fun w B' hB hR hS'=>worst_any hsm free (p.fFuns.length+1) hS' _ (kApiProgram.K_grow hB hp) A8 c8 (Kd.C_grow hB hG) (some ⟨g21,0,none⟩) p.fFuns.length (row_Cs (W:=B1.e) (e:=4) (A:=some ⟨g21,0,none⟩) (n:=p.fFuns.length) (cp:=p.fFuns.length) (xs:=memF p free) (hR _ _ ZP)) e0 hel none 0 [] (Kd.C_nil _ _ _) (by have:=cntM_nil p;omega) (by simp only [List.length_nil];omega)) ?_;rintro ⟨⟩ -)
  rw [show wN p free (p.fFuns.length+1) (e0:Int) []=wE p free (e0:Int) from rfl]
  refine Zp J (Zn (Za (wFreeze [row Kd.bool B1.e 4 (.slice (some ⟨g21,0,none⟩) p.fFuns.length p.fFuns.length) (memF p free)] ZQ (fun B2 hB2 hq2=>?_))))
  have hM:=row_Cs (W:=B1.e) (e:=4) (n:=p.fFuns.length) (cp:=p.fFuns.length) (xs:=memF p free) (hq2 _ _ ZP)
  have hG:=Kd.C_grow hB2 hG
  have hCl:=Kd.C_grow hB2 hCl
  have hp:=kApiProgram.K_grow hB2 hp
  refine wCut (ι:=Unit) (fun _=>[(2,.pointer (some ⟨b2,0,none⟩)),(5,.slice A8 p.fFuns.length c8),(6,.slice C8 p.fFuns.length d8),(7,.slice (some ⟨g21,0,none⟩) p.fFuns.length p.fFuns.length),(10,.bool (fTo p free 0))]) (fun _=>[blk b2 29 [.slice A0 p.fFuns.length c0,.slice A1 p.fDats.length c1,.int .i64 p.fEntry]]) (fun _=>True) ?_ ?_
  refine Zi (Zo J (Z2 J J (Zo J (ZS (ZT 55) (fun h55=>?_) (fun h55=>?_)))))
  refine Zq J J (Zo J (Zq J J ?_))
  first | refine oAdd rfl rfl ZO ?_ | refine oAddW rfl rfl ?_
  refine Zq J J (oLeq J J (Zt J J ?_))
  refine ZS0 (t:=59) (v':=.bool (fTo p free 0)) rfl (by rw [← fTo_zero];unfold f0;rw [he0,decide_eq_true (p:=0≤wE p free (e0:Int)) (by first | exact h55 | omega)];rfl) ?_
  refine Zp J (Zn (Za ?_))
  exact ⟨rfl,(),trivial,cv,Lh⟩
  refine Zr J J J J (Zr J J J J (Zr J J J J (Zu J J ?_)))
  refine ZS0 (t:=59) (v':=.bool (fTo p free 0)) rfl (by rw [← fTo_zero];unfold f0;rw [he0,decide_eq_false (p:=0≤wE p free (e0:Int)) (by first | exact h55 | omega)];rfl) ?_
  refine Zp J (Zn (Za ?_))
  exact ⟨rfl,(),trivial,cv,Lh⟩
  rintro ⟨⟩ -
  try dsimp only
  refine Zh (Zh (Zi (Zp J (Zn (Za (Zk (wLoop (ι:=Nat) (fun i=>[(2,.pointer (some ⟨b2,0,none⟩)),(5,.slice A8 p.fFuns.length c8),(6,.slice C8 p.fFuns.length d8),(7,.slice (some ⟨g21,0,none⟩) p.fFuns.length p.fFuns.length),(10,.bool (fTo p free i)),(11,.int .i64 (i:Int))]) (fun i=>[blk b2 29 [.slice A0 p.fFuns.length c0,.slice A1 p.fDats.length c1,.int .i64 p.fEntry]]) (fun i=>i≤p.fFuns.length) (fun i=>p.fFuns.length-i) 0 ?_ cv Lh ?_)))))))
  exact Nat.zero_le _
  rintro i hi
  try dsimp only
  refine Zh (Zh (Zi (Zo J (Zo J (Zv J J (Zx J J (Zn (Za (wC (fun h63=>?_) (fun h63=>?_))))))))))
  obtain ⟨l,hl⟩:∃ l,(graphF p)[i]?=some l:=⟨_,List.getElem?_eq_getElem ZO⟩
  obtain ⟨e2,cs2,hEg⟩:=hG.elm hl
  obtain ⟨Al,cl,rfl,hll,hCr⟩:=hEg.K
  have hlb:=hCr.1
  obtain ⟨uc,huc⟩:∃ u,(calledL p)[i]?=some u:=⟨_,List.getElem?_eq_getElem ZO⟩
  obtain ⟨e3,cs3,hEc⟩:=hCl.elm huc
  obtain rfl:=(show cs3=[Value.bool uc] from hEc.K)
  obtain ⟨um,hum⟩:∃ u,(memF p free)[i]?=some u:=⟨_,List.getElem?_eq_getElem ZO⟩
  obtain ⟨e4,cs4,hEm⟩:=hM.elm hum
  obtain rfl:=(show cs4=[Value.bool um] from hEm.K)
  refine Zj (Za (Zh (Zk (Zh (Zi (Zp rfl (ZS0 (t:=10) (v':=.bool (gTo p free i l 0)) rfl (by rw [← gTo_zero]) ?_)))))))
  refine Zn (Za (Zk (wLoop (ι:=Nat) (fun j=>[(2,.pointer (some ⟨b2,0,none⟩)),(5,.slice A8 p.fFuns.length c8),(6,.slice C8 p.fFuns.length d8),(7,.slice (some ⟨g21,0,none⟩) p.fFuns.length p.fFuns.length),(10,.bool (gTo p free i l j)),(11,.int .i64 (i:Int)),(12,.int .i64 (j:Int))]) (fun j=>[blk b2 29 [.slice A0 p.fFuns.length c0,.slice A1 p.fDats.length c1,.int .i64 p.fEntry]]) (fun j=>j≤l.length) (fun j=>l.length-j) 0 ?_ cv Lh ?_)))
  exact Nat.zero_le _
  rintro j hj
  try dsimp only
  refine Zh (Zh (Zi (Zo J (Zo J (Zo J (oIdxE J J (hEg) ZO J J ?_))))))
  have hc69:=(hEg).cell
  refine Zlx hc69 ?_
  refine Zv J J (Zx J J (Zn (Za (wC (fun h72=>?_) (fun h72=>?_)))))
  obtain ⟨y,hy⟩:∃ y,l[j]?=some y:=⟨_,List.getElem?_eq_getElem ZO⟩
  obtain ⟨e5,cs5,hEy⟩:=hCr.elm hy
  obtain rfl:=(show cs5=[Value.int .i64 y] from hEy.K)
  obtain ⟨yc,rfl,hyl⟩:=eg_in (p:=p) (i:=i) ZO (x:=y) (by rw [getD_at hl];exact List.mem_of_getElem? hy)
  have hub:=worst_ub (g:=graphF p) (ib:=memF p free) (frm_ub hsm) (p.fFuns.length+1) (yc:Int) []
  rw [show worstN (graphF p) (memF p free) (frmL p) (p.fFuns.length+1) (yc:Int) []=wE p free (yc:Int) from rfl] at hub
  refine Zj (Za (Zh (Zk (Zh (wDrawG J [0,1,2,3,4,5,6,7,8,9] [(10,[],[])] [11] 24 ZK J J (fun w0=>?_))))))
  refine Zla ?_
  refine Zo J (Zo J (Zo J (Zo J (oIdxE J J (hEg) ZO J J ?_))))
  have hc80:=(hEg).cell
  refine Zlx hc80 ?_
  refine Zo J (oIdxE J J (hEy) ZO J J ?_)
  have hc83:=(hEy).cell
  refine Zlx hc83 ?_
  refine Z4 (Z5 J ?_)
  (refine ZC0 rfl ZK (fun w hS=>frame hS ZQ (fun B' hB hS'=>worst_any hsm free (p.fFuns.length+1) hS' _ (kApiProgram.K_grow hB hp) A8 c8 (Kd.C_grow hB hG) (some ⟨g21,0,none⟩) p.fFuns.length (Kd.C_grow hB hM) yc hyl none 0 [] (Kd.C_nil _ _ _) (by have:=cntM_nil p;omega) (by simp only [List.length_nil];omega))) ?_;rintro ⟨⟩ -)
  rw [show wN p free (p.fFuns.length+1) (yc:Int) []=wE p free (yc:Int) from rfl]
  refine ZG ?_ J (fun w0=>?_)
  exact AgainG.nil
  refine Z6 (Zp J (Zn (Za (Zi (Zo J (Zo J (ZS (ZT 87) (fun h87=>?_) (fun h87=>?_))))))))
  refine Zq J J (Zo J (Zq J J (Zo J (Zq J J (oIdxE J J (hEc) ZO J J ?_)))))
  have hc90:=(hEc).cell
  refine Zq J J (Zlx hc90 ?_)
  refine Zq J J (Zno ?_)
  refine Zq J J (Zo J (ZS (ZT 93) (fun h93=>?_) (fun h93=>?_)))
  refine Zr J J J J (Zr J J J J (Zr J J J J (Zs J J J (Zs J J J (Zs J J J (Zs J J J (Zs J J J (Zs J J J (Zs J J J (Zs J J J (Zs J J J (Zr J J J J (Zq J J (Zt J J (Zt J J ?_)))))))))))))))
  refine ZS0 (t:=108) (v':=.bool (gTo p free i l j && edgeOk p free i (yc:Int))) rfl (by rw [show gTo p free i l j=true from h87];unfold edgeOk;rw [getD_at huc,show uc=false by simpa using h93];rfl) ?_
  refine Zp J (Zn (Zd (Za (Zi (Zo J (Zsu ?_))))))
  refine Zp J ?_
  skip
  refine Zn (Za ?_)
  exact ⟨rfl,j+1,by omega,by omega,by rw [gTo_succ hy];exact cv,Lh⟩
  refine Zq J J (Zo J (Zq J J (Z2 J J (Zq J J (Zo J (ZS (ZT 96) (fun h96=>?_) (fun h96=>?_)))))))
  refine Zq J J (Zo J (Zq J J (Zo J (Zq J J (oIdxE J J (hEm) ZO J J ?_)))))
  have hc99:=(hEm).cell
  refine Zq J J (Zlx hc99 ?_)
  refine Zq J J (Zo J (ZS (ZT 101) (fun h101=>?_) (fun h101=>?_)))
  refine Zr J J J J (Zr J J J J (Zr J J J J (Zq J J (Zt J J (Zq J J (Zt J J (Zq J J (Zu J J (Zt J J ?_)))))))))
  refine ZS0 (t:=108) (v':=.bool (gTo p free i l j && edgeOk p free i (yc:Int))) rfl (by rw [show gTo p free i l j=true from h87];unfold edgeOk;rw [getD_at huc,show uc=true by simpa using h93,decide_eq_true (p:=0≤wE p free (yc:Int)) (by first | exact h96 | omega),getD_at hum,show um=true from h101];rfl) ?_
  refine Zp J (Zn (Zd (Za (Zi (Zo J (Zsu ?_))))))
  refine Zp J ?_
  skip
  refine Zn (Za ?_)
  exact ⟨rfl,j+1,by omega,by omega,by rw [gTo_succ hy];exact cv,Lh⟩
  refine Zq J J (Zo J (Zq J J ?_))
  first | refine oAdd rfl rfl ZO ?_ | refine oAddW rfl rfl ?_
  refine Zq J J (oLeq J J (Zq J J (Zu J J (Zq J J (Zt J J (Zq J J (Zu J J (Zt J J ?_))))))))
  refine ZS0 (t:=108) (v':=.bool (gTo p free i l j && edgeOk p free i (yc:Int))) rfl (by rw [show gTo p free i l j=true from h87];unfold edgeOk;rw [getD_at huc,show uc=true by simpa using h93,decide_eq_true (p:=0≤wE p free (yc:Int)) (by first | exact h96 | omega),getD_at hum,show um=false from h101];rfl) ?_
  refine Zp J (Zn (Zd (Za (Zi (Zo J (Zsu ?_))))))
  refine Zp J ?_
  skip
  refine Zn (Za ?_)
  exact ⟨rfl,j+1,by omega,by omega,by rw [gTo_succ hy];exact cv,Lh⟩
  refine Zr J J J J (Zr J J J J (Zr J J J J (Zr J J J J (Zr J J J J (Zs J J J (Zs J J J (Zs J J J (Zr J J J J (Zq J J (Zu J J (Zq J J (Zu J J (Zt J J ?_)))))))))))))
  refine ZS0 (t:=108) (v':=.bool (gTo p free i l j && edgeOk p free i (yc:Int))) rfl (by rw [show gTo p free i l j=true from h87];unfold edgeOk;rw [getD_at huc,show uc=true by simpa using h93,decide_eq_false (p:=0≤wE p free (yc:Int)) (by first | exact h96 | omega)];rfl) ?_
  refine Zp J (Zn (Zd (Za (Zi (Zo J (Zsu ?_))))))
  refine Zp J ?_
  skip
  refine Zn (Za ?_)
  exact ⟨rfl,j+1,by omega,by omega,by rw [gTo_succ hy];exact cv,Lh⟩
  refine Zr J J J J (Zr J J J J (Zr J J J J (Zr J J J J (Zr J J J J (Zr J J J J (Zs J J J (Zs J J J (Zs J J J (Zs J J J (Zs J J J (Zs J J J (Zs J J J (Zs J J J (Zs J J J (Zs J J J (Zs J J J (Zs J J J (Zs J J J (Zr J J J J (Zu J J ?_))))))))))))))))))))
  refine ZS0 (t:=108) (v':=.bool (gTo p free i l j && edgeOk p free i (yc:Int))) rfl (by rw [show gTo p free i l j=false from h87];rfl) ?_
  refine Zp J (Zn (Zd (Za (Zi (Zo J (Zsu ?_))))))
  refine Zp J ?_
  skip
  refine Zn (Za ?_)
  exact ⟨rfl,j+1,by omega,by omega,by rw [gTo_succ hy];exact cv,Lh⟩
  obtain rfl:j=l.length:=by omega
  refine Zm (Zb (Zb (Ze (Zd (Za (Zi (Zo J (Zsu ?_))))))))
  refine Zp J (Zn (Za ?_))
  exact ⟨rfl,i+1,by omega,by omega,by rw [← gTo_all hl];exact cv,Lh⟩
  obtain rfl:i=p.fFuns.length:=by omega
  refine Zm (Zb (Zb (Ze (Za (Zh (Zi (Zo J (Zp J (Zn (Za (Zl (Zw (fi1 J ?_)))))))))))))
  exact ⟨(),trivial,by rw [fTo_all];rfl,Lh⟩
theorem chainPaths {B:Base}{w:World}(hS:St B [] w) (A:Option Addr) (cp:Nat) (l:List ApiObject) (hC:kApiObject.C B.e A l) (hv:∀ o ∈ l,vApiObject o) (A':Option Addr) (c':Nat) (free:List Bool) (hF:Kd.bool.C B.e A' free) :
    CallsIn Fence.wide 0 Tryz.prog 9 #[.slice A l.length cp,.slice A' free.length c'] w (Ret B (fun _:Unit=>True) (fun _=>.bool true) (fun _=>[])):=by
  refine ZX Tryz.func9 hS ?_
  refine Zh (Zi (Zp J (Zn (Za (Zh (Zi (Zo J (Zo J ?_))))))))
  (refine ZC0 rfl ZK (fun w hS=>frame hS ZQ (fun B' hB hS'=>law27_few hS' A cp l B.e hB hC hv free A' c')) ?_;rintro ⟨z,e,ok⟩ ⟨hz,hzp⟩)
  dsimp only at hz hzp ⊢
  refine Zo J (oExt J ZP ?_)
  refine oExt J ZP ?_
  refine oAlloc J ZP (fun b5=>?_)
  refine Zsa ?_
  refine Zp J (Zn (Za (Zh (Zh (Zi (Zo J (Zno ?_)))))))
  refine Zo J (ZS (ZT 15) (fun h15=>?_) (fun h15=>?_))
  refine Zr J J J J (Zr J J J J (Zr J J J J (Zr J J J J (Zt J J (Zn (Za (wCondT J (Zh (Zi ?_)))))))))
  (refine ZC0 rfl ZK (fun w hS=>frame hS ZQ (fun B' hB hS'=>known27 hS')) ?_;rintro ⟨⟩ -)
  refine Zp J (Zn (Za (Zl (Zc (Zw (fi1 J ?_))))))
  exact ⟨(),trivial,rfl,Lh⟩
  obtain ⟨hsp,hpe,hbr,hfr⟩:=hzp (by simpa using h15)
  obtain ⟨n0,hn0,hnl⟩:=bind_in hbr
  rw [show bindP l Go.Proofs.YtogaiijhicfoaaaGreatU.mainS=z.prog e from hpe.symm] at hn0 hnl
  refine Zq J J (Zz (n:=0) (m:=0) J J J (Zq J J (Zld ?_)))
  refine Zq J J (Zv J J (Zq J J (Z1 J J (Zu J J (Zn (Za (wC (fun h20=>?_) (fun h20=>?_))))))))
  refine Zh (Zi ?_)
  (refine ZC0 rfl ZK (fun w hS=>frame hS ZQ (fun B' hB hS'=>known27 hS')) ?_;rintro ⟨⟩ -)
  refine Zp J (Zn (Za (Zl (Zc (Zw (fi1 J ?_))))))
  exact ⟨(),trivial,rfl,Lh⟩
  refine Zj (Za (Zh (wDrawG J [0,1,5,6] [(2,[5,6],[3,4]),(7,[3,4],[8,9]),(10,[],[11])] [12] 24 ZK J J (fun w0=>?_))))
  refine Zla ?_
  refine Zo J (Zla ?_)
  refine Zo J (Z4 (Z5 J ?_))
  (refine ZD J (fun w B' hB hR hS'=>chain_Check hS' (z.prog e) _ (prog_K hz (hR _ _ ZP) (hR _ _ ZP) (hR _ _ ZP) (hR _ _ ZP) hB e) hsp free A' c' (Kd.C_grow hB hF)) ?_;rintro ⟨⟩ -)
  refine ZG ?_ J (fun w0=>?_)
  refine Z8 J J J J (fun w0=>?_) ?_
  refine Zla ?_
  exact Z9 rfl
  refine Z8 J J J J (fun w0=>?_) ?_
  refine Zo J ?_
  exact Z9 rfl
  exact AgainG.nil
  refine Zfi ?_
  refine Zy J J (Z4 (Z5 J ?_))
  (refine ZD J (fun w B' hB hR hS'=>law_Paths hS' (z.prog e) _ (prog_K hz (hR _ _ ZP) (hR _ _ ZP) (hR _ _ ZP) (hR _ _ ZP) hB e) hsp free A' c' (Kd.C_grow hB hF) n0 hn0 hnl) ?_;rintro ⟨⟩ -)
  refine ZG ?_ J (fun w0=>?_)
  refine Z8 J J J J (fun w0=>?_) ?_
  refine Zfi ?_
  exact Z9 rfl
  refine Z8 J J J J (fun w0=>?_) ?_
  refine Zy J J ?_
  exact Z9 rfl
  exact AgainG.nil
  refine oEqlBool J J J ?_
  refine ZS0 (t:=30) (v':=.bool true) rfl (by rw [show decide ((checkN (z.prog e) free).1=0)=pathsN (z.prog e) free by rw [Bool.eq_iff_iff,decide_eq_true_eq,check_iff hn0 hnl,paths_iff hn0 hnl]];simp) ?_
  refine Zo J (Z4 (Z5 J (Zq J J ?_)))
  (refine ZC0 rfl ZK (fun w hS=>frame hS ZQ (fun B' hB hS'=>known27 hS')) ?_;rintro ⟨⟩ -)
  refine ZG ?_ J (fun w0=>?_)
  exact AgainG.nil
  refine Zt J J (Z6 (Zp J (Zn (Za (Zl (Zw (fi1 J ?_)))))))
  exact ⟨(),trivial,rfl,Lh⟩
end Go.Proofs.YtogaiijhicfoaaaGreatY
