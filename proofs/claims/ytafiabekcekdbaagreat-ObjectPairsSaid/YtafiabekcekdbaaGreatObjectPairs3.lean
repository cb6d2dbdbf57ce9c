/-
  Part 3 of the proof of ObjectPairs: contracts of functions, and what follows from them; without conditions.
-/
import Derived.Test.YtafiabekcekdbaaGreatObjectPairs2
set_option linter.unusedVariables false
set_option linter.unusedSimpArgs false
set_option linter.defProp false
namespace Go.Proofs.YtafiabekcekdbaaGreatO
set_option maxRecDepth 100000
set_option maxHeartbeats 4000000
open Go.RowKit Go.Proofs.YtafiabekcekdbaaGreatK Go.Proofs.YtafiabekcekdbaaGreatT Go.Proofs.YtafiabekcekdbaaGreatL Go.Proofs.YtafiabekcekdbaaGreatV Go.Proofs.YtafiabekcekdbaaGreatG Go.Proofs.YtafiabekcekdbaaGreatW

open Classical in
noncomputable def pP (code:List ApiInstr) (k:Nat):Bool:=decide (RP (rg code) (fromL code (dfrN code)) (k:Int))
open Classical in
theorem pP_iff {code:List ApiInstr}{k:Nat} : pP code k=true↔RP (rg code) (fromL code (dfrN code)) (k:Int):=by unfold pP;exact decide_eq_true_iff
theorem pP_no {code:List ApiInstr}{k:Nat}(h:¬ RP (rg code) (fromL code (dfrN code)) (k:Int)):pP code k=false:=Bool.eq_false_iff.2 (fun e=>h (pP_iff.1 e))
noncomputable def pFrom (code:List ApiInstr) (i:Nat):List Int:=(((List.range code.length).drop i).filter (pP code)).map fun k:Nat=>(k:Int)
theorem pn_T {code:List ApiInstr}{i:Nat}(hi:i<code.length) (h:pP code i=true):pFrom code i=(i:Int) :: pFrom code (i+1):=by
 unfold pFrom
 rw [List.drop_eq_getElem_cons (by simpa using hi),List.getElem_range,List.filter_cons,if_pos h,List.map_cons]
theorem pn_F {code:List ApiInstr}{i:Nat}(hi:i<code.length) (h:pP code i=false):pFrom code i=pFrom code (i+1):=by
 unfold pFrom
 rw [List.drop_eq_getElem_cons (by simpa using hi),List.getElem_range,List.filter_cons,if_neg (by rw [h];simp)]
theorem pn_end (code:List ApiInstr):pFrom code code.length=[]:=by unfold pFrom;rw [List.drop_of_length_le (by simp)];rfl
theorem mem_pn {code:List ApiInstr}{x:Int} : x ∈ pFrom code 0↔∃ k:Nat,x=(k:Int)∧k<code.length∧RP (rg code) (fromL code (dfrN code)) (k:Int):=by
 unfold pFrom
 rw [List.drop_zero]
 simp only [List.mem_map,List.mem_filter,List.mem_range]
 constructor
 · rintro ⟨k,⟨h1,h2⟩,rfl⟩;exact ⟨k,rfl,h1,pP_iff.1 h2⟩
 · rintro ⟨k,rfl,h1,h2⟩;exact ⟨k,⟨h1,pP_iff.2 h2⟩,rfl⟩
theorem pending_any {B:Base}{w:World}(hS:St B [] w) (A:Option Addr) (n cp:Nat) :
 CW 102 #[.slice A n cp] w (Ret B (fun _:Nat=>True) (fun b=>.func (.func 142) #[] #[.pointer (some ⟨b,0,none⟩)]) (fun b=>[blk b 54 [.slice A n cp]])):=by
 refine ZX Tryz.func102 hS ?_
 refine Zh (Zi (oBox J ZP (fun b1=>?_)))
 refine Zp J (Zn (Za (Zh (Zi (oMakeFunc J (Zzh ?_))))))
 exact ⟨b1,trivial,rfl,Lh⟩
theorem pending1 {B:Base}(A:Option Addr) (cp:Nat) (code:List ApiInstr) (hC:kApiInstr.C B.e A code) (hl0:code.length≤500) (x1:Nat) :
 IterC Tryz.prog 142 #[.pointer (some ⟨x1,0,none⟩)] B ((pFrom code 0).map intV) [blk x1 54 [.slice A code.length cp]]:=by
 have hdl:(dfrN code).length≤500:=Nat.le_trans (List.length_filter_le _ _) (by simpa using hl0)
 intro lp AI Ax r0 w hbody hA hS
 show CW 142 #[.func (.yield lp) #[] #[],.pointer (some ⟨x1,0,none⟩)] w _
 refine ZX Tryz.func142 hS ?_
 refine Zh (wDrawG J [0,1,5] [(2,[0,5],[]),(3,[5],[4])] [] 24 ZK J J (fun w0=>?_))
 refine Zld ?_
 refine Zld ?_
 refine Zo J (Z4 (Z5 J ?_))
 (refine ZC0 rfl ZK (fun w hS=>frame hS ZQ (fun B' hB hS'=>rng_Marks hS' A cp code (Kd.C_grow hB hC) ZO B.e)) ?_;rintro ⟨A7,c7⟩ -)
 refine ZS0 (t:=7) (v':=.slice A7 (dfrN code).length c7) rfl (by rw [dfr_N,List.length_map]) ?_
 refine ZG ?_ J (fun w0=>?_)
 refine Z8 J J J J (fun w0=>?_) ?_
 refine Zld ?_
 exact Z9 rfl
 refine Z8 J J J J (fun w0=>?_) ?_
 refine Zo J ?_
 exact Z9 rfl
 exact AgainG.nil
 refine Z4 (Z5 J ?_)
 (refine ZD J (fun w B' hB hR hS'=>flow_After hS' A cp code (Kd.C_grow hB hC) ZO A7 c7 (dfrN code) (row_Cs (W:=B.e) (e:=3) (n:=(dfr code code.length).length) (cp:=c7) (hR _ _ ZP)) (fun k hk=>dfrN_lt hk) hdl B.e) ?_;rintro ⟨A8,c8,l8⟩ ⟨h8a,h8b⟩)
 dsimp only at h8a h8b
 refine ZG ?_ J (fun w0=>?_)
 refine Z8 J J J J (fun w0=>?_) ?_
 refine Zo J ?_
 exact Z9 rfl
 exact AgainG.nil
 refine Zv J J (Z6 (Zn (Za (Zk (wLoop (ι:=Nat×Nat×Res) (fun z=>[(0,.func (.yield lp) #[] #[]),(1,.pointer (some ⟨x1,0,none⟩)),(8,.slice A8 code.length c8),(9,.int .i64 (code.length:Int)),(10,.int .i64 (z.1:Int))]) (fun z=>[z.2.2,blk x1 54 [.slice A code.length cp],row Kd.bool B.e 4 (.slice A8 code.length c8) l8]) (fun z=>z.1≤code.length∧z.2.1≤(pFrom code 0).length∧AI z.2.1 z.2.2∧(pFrom code 0).drop z.2.1=pFrom code z.1) (fun z=>code.length-z.1) (0,0,r0) ?_ cv (Leads.has ZQ) ?_)))))
 exact ⟨Nat.zero_le _,Nat.zero_le _,hA,rfl⟩
 rintro ⟨i,j,r⟩ ⟨hi,hj,hA,hd⟩
 dsimp only at hi hj hA hd
 try dsimp only
 refine Zh (Zi (Zx J J (Zn (Za (Zh (wC (fun h11=>?_) (fun h11=>?_)))))))
 have hil:i<code.length:=by omega
 refine Zj (Za (Zh (Zk (Zh (Zi (Zo J (ZR J J ZP ZO J J (fun g13 hg13=>?_))))))))
 first | subst hg13 | (injection hg13 with hg13;injection hg13 with hg13;subst hg13)
 refine ZR1 J ZP ZO J (fun u14 hu14=>?_)
 refine Zp J (Zp J (Zn (Za (Zh (Zi (Zo J (Zo J (ZS (ZT 16) (fun h16=>?_) (fun h16=>?_)))))))))
 have hct:pP code i=true:=pP_iff.2 ((h8b i).1 (by rw [hu14];simp_all))
 rw [pn_T hil hct] at hd
 obtain ⟨hjlt,hjg,hjd⟩:=drop_cons hd
 have hY:∀ Fr W1,St B (r :: Fr) W1→YieldAt Fence.wide 0 Tryz.prog lp (intV (i:Int)).toArray W1 (YEnd B j AI Ax Fr):=by
  intro Fr W1 h1
  have:=hbody j (by simpa using hjlt) r Fr W1 hA h1
  rwa [List.getElem_map,hjg] at this
 refine Zq J J (Zo J (Zq J J (Zo J (Zq J J (oYield J J J (fun w hS=>hY _ w (hS.perm (Pick.perm ZP))) ?_)))))
 rintro ⟨bb,r'⟩ hr'
 dsimp only at hr' ⊢
 refine Zq J J (Zno ?_)
 refine Zt J J (Zn (Za (wC (fun h21=>?_) (fun h21=>?_))))
 refine Zl (Zf (Zc (Zc (Zf (Zw ?_)))))
 refine ⟨rfl,_,ResL.nil,?_⟩
 exact ⟨r',.inr ⟨j,by simpa using hjlt,by rw [if_neg (by simpa using h21)] at hr';exact hr'⟩,rfl,Lh⟩
 refine Zj (Zzg ?_)
 refine Zo J (Zn (Za ?_))
 exact ⟨rfl,(i+1,j+1,r'),⟨by show i+1≤_;omega,hjlt,by rw [if_pos (by simpa using h21)] at hr';exact hr',hjd⟩,by show code.length-(i+1)<code.length-i;omega,cv,Lh⟩
 refine Zr J J J J (Zr J J J J (Zr J J J J (Zr J J J J (Zu J J (Zn (Za (wCondF J (Zj (Zzg ?_)))))))))
 refine Zo J (Zn (Za ?_))
 exact ⟨rfl,(i+1,j,r),⟨by show i+1≤_;omega,hj,hA,by rw [hd,pn_F hil (pP_no (fun hr=>by have:=(h8b i).2 hr;rw [hu14] at this;simp_all))]⟩,by show code.length-(i+1)<code.length-i;omega,cv,Lh⟩
 refine Zm (Zb (Zb (Ze (fin_n ?_))))
 refine ⟨rfl,_,ResL.nil,?_⟩
 have hjj:j=((pFrom code 0).map intV).length:=by
  obtain rfl:i=code.length:=by omega
  rw [pn_end] at hd
  have:=List.drop_eq_nil_iff.1 hd
  rw [List.length_map];omega
 exact ⟨r,.inl (hjj ▸ hA),rfl,Lh⟩
theorem rng_Check {B:Base}{w:World}(hS:St B [] w) (f:ApiFunc) (fc:List Value) (hf:kApiFunc.K B.e f fc) (hl0:f.fCode.length≤500) :
 CW 69 #[.agg fc.toArray] w (Ret B (fun _:Unit=>True) (fun _=>.int .i64 (rangeF f)) (fun _=>[])):=by
 obtain ⟨A0,c0,A1,c1,A2,c2,A3,c3,rfl,l0,g0,l1,g1,l2,g2,l3,g3⟩:=kApiFunc_open hf
 (refine enterM Tryz.func69 J J hS ?_;simp only [List.zipIdx_cons,List.zipIdx_nil,List.map_cons,List.map_nil,Nat.reduceAdd,Nat.zero_add])
 refine Zh (Zi (oBox J ZP (fun b1=>?_)))
 refine oAlloc J ZP (fun b2=>?_)
 refine Zn (Za (Zh (Zh (Zi (Zz (n:=7) (m:=7) J J J (Zld ?_))))))
 (refine ZC0 rfl ZK (fun w hS=>frame hS ZQ (fun B' hB hS'=>pending_any hS' A2 f.fCode.length c2)) ?_;rintro x1 -)
 refine Zn (Za (Zk ?_))
 refine wRange rfl rfl ZK (pending1 A2 c2 f.fCode g2 hl0 x1) (by rintro _ h;obtain ⟨y,_,rfl⟩:=List.mem_map.1 h;rfl) rfl (ι:=Nat) (κ:=Unit) (fun j z=>z=j∧∀ y ∈ (pFrom f.fCode 0).take z,inR f y=true) (fun z=>[blk b1 57 [.int .i64 f.fClass,.slice A0 f.fKinds.length c0,.int .i64 f.fPad,.bool f.fNosplit,.int .i64 f.fFrom,.int .i64 f.fTo,.slice A1 f.fLines.length c1,.slice A2 f.fCode.length c2,.slice A3 f.fRelocs.length c3],blk b2 29 [.int .i64 0]]) (fun x z=>x=.ret∧outR f) (fun x z=>[blk b1 57 [.int .i64 f.fClass,.slice A0 f.fKinds.length c0,.int .i64 f.fPad,.bool f.fNosplit,.int .i64 f.fFrom,.int .i64 f.fTo,.slice A1 f.fLines.length c1,.slice A2 f.fCode.length c2,.slice A3 f.fRelocs.length c3],blk b2 29 [.int .i64 9]]) 0 ⟨rfl,by simp⟩ (Leads.has ZQ) ?_ ?_ ?_
 intro lp0 B' R1 R2 j hj
 rintro i hB ⟨rfl,hn⟩
 have hf:=kApiFunc.K_grow hB hf
 have hj':i<(pFrom f.fCode 0).length:=by simpa using hj
 have htk:(pFrom f.fCode 0).take (i+1)=(pFrom f.fCode 0).take i++[(pFrom f.fCode 0)[i]]:=List.take_succ_eq_append_getElem hj'
 have hym:(pFrom f.fCode 0)[i] ∈ pFrom f.fCode 0:=List.getElem_mem hj'
 rw [List.getElem_map]
 generalize (pFrom f.fCode 0)[i]=y at *
 dsimp only [hand,intV]
 refine Zi (Zp J (Zn (aq_n ZP ?_)))
 refine Zk (Zh (Zi (Zla ?_)))
 refine Zo J ?_
 (refine ZC0 rfl ZK (fun w hS=>frame hS ZQ (fun B' hB hS'=>rng_In hS' f _ (kApiFunc.K_grow hB hf) y)) ?_;rintro ⟨⟩ -)
 refine Zno ?_
 refine Zn (Za (wC (fun h11=>?_) (fun h11=>?_)))
 refine Zh (Zi (Zst ?_))
 refine Zn (Za (Zl (Zf (rq_r ?_))))
 exact ⟨(),⟨rfl,by obtain ⟨k,rfl,h1,h2⟩:=mem_pn.1 hym;exact ⟨k,h1,h2,by simp_all⟩⟩,Lh⟩
 refine Zj (Zd (rq_n ?_))
 exact ⟨i+1,⟨rfl,by rw [htk];intro u hu;rcases List.mem_append.1 hu with h | h;exact hn u h;rw [List.mem_singleton.1 h];simp_all⟩,Lh⟩
 rintro i Dm0 ⟨rfl,hn⟩
 rw [List.length_map,List.take_length] at hn
 have ho:¬ outR f:=fun ⟨k,hk,hr,hb⟩=>by rw [hn _ (mem_pn.2 ⟨k,rfl,hk,hr⟩)] at hb;cases hb
 try dsimp only
 refine Zd (Za (Zh (Zi (Zst ?_))))
 refine Zn (Za (Zl ?_))
 refine finM_r (Ds:=[Dm0]) rfl ZQ (ResL.cons (by first | exact ResR.cell rfl ZP rfl | exact ResR.agg rfl ZP rfl rfl) ResL.nil) ?_
 first | exact ⟨(),trivial,by unfold rangeF;rw [if_neg ho];rfl,Lh⟩ | exact ⟨(),trivial,by unfold rangeF;rw [if_pos ho];rfl,Lh⟩
 rintro x ⟨⟩ Dm0 ⟨rfl,ho⟩
 try dsimp only
 refine Zl (Zf (Zc ?_))
 refine finM_r (Ds:=[Dm0]) rfl ZQ (ResL.cons (by first | exact ResR.cell rfl ZP rfl | exact ResR.agg rfl ZP rfl rfl) ResL.nil) ?_
 first | exact ⟨(),trivial,by unfold rangeF;rw [if_neg ho];rfl,Lh⟩ | exact ⟨(),trivial,by unfold rangeF;rw [if_pos ho];rfl,Lh⟩
theorem fst2 (a y:Int):fstE [a,y]=if a≠0 then a else y:=by
 have h:=fst_drop (l:=[a,y]) (i:=0) rfl
 have h2:=fst_drop (l:=[a,y]) (i:=1) rfl
 rw [List.drop_zero] at h
 rw [h,h2]
 by_cases h3:y=0
 · subst h3;simp [fstE]
 · rw [if_pos h3]
theorem fstW (b:Bool) (y:Int):fstE [whenF b 14,y]=if b=true then 14 else y:=by
 rw [fst2]
 unfold whenF
 cases b <;> simp
theorem obj_item {B:Base}{w:World}(hS:St B [] w) (o:ApiObject) (oc:List Value) (ho:kApiObject.K B.e o oc) (hg:GoodO o) (i:Nat) (hi:i<o.fFuncs.length+o.fDatas.length) :
 CW 32 #[.agg oc.toArray,.int .i64 (i:Int)] w (Ret B (fun _:Unit=>True) (fun _=>.int .i64 (itemE o i)) (fun _=>[])):=by
 obtain ⟨A0,c0,A1,c1,A2,c2,rfl,m0,q0,m1,q1,m2,q2⟩:=kApiObject_open ho
 have hn0:=hg.syms
 have hn1:=hg.funcs
 have hn2:=hg.datas
 refine ZX Tryz.func32 hS ?_
 refine Zh (Zi (oBox J ZP (fun b2=>?_)))
 refine Zp J (Zn (Za (Zh (Zi (Zla ?_)))))
 refine Zo J ?_
 (refine ZC0 rfl ZK (fun w hS=>frame hS ZQ (fun B' hB hS'=>obj_Definer hS' o _ (kApiObject.K_grow hB ho) hg (i:Int))) ?_;rintro ⟨⟩ -)
 refine Zp J (Zn (Za (Zh (Zh (Zi (Zo J (Zx J J (Zn (Za (wC (fun h15=>?_) (fun h15=>?_)))))))))))
 refine Zh (Zi (Zze ?_))
 exact ⟨(),trivial,by unfold itemE;rw [if_pos h15];rfl,Lh⟩
 have h15:¬ definerF o (i:Int)<0:=h15
 obtain ⟨k,x,hk,hx,-⟩:=definer_at (show 0≤definerF o (i:Int) by omega)
 have hkl:=(List.getElem?_eq_some_iff.1 hx).1
 obtain ⟨e1,cs1,hE⟩:=q0.elm hx
 obtain rfl:=kApiSymbol_open hE.K
 have hdk:dKind o i=x.fKind:=by unfold dKind;rw [hk,Int.toNat_natCast,List.getD_eq_getElem?_getD,hx];rfl
 refine Zj (Za (Zh (Zh (Zi (Zo J (Zz (n:=1) (m:=1) J J J (Zld ?_)))))))
 refine Zv J J ?_
 first | refine oSub rfl rfl ZO ?_ | refine oSubW rfl rfl ?_
 refine Zp J (Zn (Za (Zh (Zi (Zo J (Z2 J J (Zn (Za (wC (fun h22=>?_) (fun h22=>?_))))))))))
 have hif:o.fFuncs.length≤i:=by omega
 obtain ⟨d,hd⟩:∃ d,o.fDatas[i-o.fFuncs.length]?=some d:=⟨_,List.getElem?_eq_getElem ZO⟩
 obtain ⟨e2,cs2,hE2⟩:=q2.elm hd
 obtain ⟨D0,d0,D1,d1,rfl,n0,r0,n1,r1⟩:=kApiData_open hE2.K
 have hgd:=hg.data d (List.mem_of_getElem? hd)
 have hvd:=hg.v.2.2.2 d (List.mem_of_getElem? hd)
 have hdg:o.fDatas.getD (i-o.fFuncs.length) default=d:=by rw [List.getD_eq_getElem?_getD,hd];rfl
 refine Zh (Zi (Zz (n:=2) (m:=2) J J J (Zld ?_)))
 refine Zo J ?_
 refine ZS0 (t:=25) (v':=.int .i64 ((i-o.fFuncs.length:Nat):Int)) J (by congr 1;omega) ?_
 refine oIdxE J J (hE2) ZO J J ?_
 have hc26:=(hE2).cell
 refine Zlx hc26 ?_
 refine oAlloc J ZP (fun b7=>?_)
 refine Zsa ?_
 refine Zn (Za (Zh (wDrawG J [0,1,2,3,4,5,6,7,8,10,11,12] [(9,[10,11,12],[]),(13,[],[]),(14,[],[]),(15,[],[])] [16] 24 ZK J J (fun w0=>?_))))
 refine Zz (n:=0) (m:=0) J J J (Zld ?_)
 refine Zz (n:=0) (m:=0) J J J (Zld ?_)
 refine Zo rfl (ZS0 (t:=32) (v':=.int .i64 (k:Int)) rfl (by rw [hk]) ?_)
 refine oIdxE J J (hE) ZO J J ?_
 have hc33:=(hE).cell
 refine ZF (ZT 3) (ZT 3) ?_
 refine Zlx hc33 ?_
 refine Z0 J J (Zla ?_)
 refine Zz (n:=0) (m:=0) J J J (Zld ?_)
 refine Z4 (Z5 J ?_)
 (refine ZC0 rfl ZK (fun w hS=>frame hS ZQ (fun B' hB hS'=>obj_when hS' (decide (d.fKind≠x.fKind)) 14)) ?_;rintro ⟨⟩ -)
 refine ZG ?_ J (fun w0=>?_)
 refine Z8 J J J J (fun w0=>?_) ?_
 refine Zla ?_
 exact Z9 rfl
 refine Z8 J J J J (fun w0=>?_) ?_
 refine Zz (n:=0) (m:=0) J J J ?_
 exact Z9 rfl
 refine Z8 J J J J (fun w0=>?_) ?_
 refine Zld ?_
 exact Z9 rfl
 exact AgainG.nil
 refine Z4 (Z5 J ?_)
 (refine ZC0 rfl ZK (fun w hS=>frame hS ZQ (fun B' hB hS'=>data_Check hS' d _ (kApiData_mk _ d n0 (Kd.C_grow hB r0) n1 (Kd.C_grow hB r1)) hvd.1 ZO A0 c0 o.fSymbols (Kd.C_grow hB q0))) ?_;rintro ⟨⟩ -)
 refine ZG ?_ J (fun w0=>?_)
 exact AgainG.nil
 refine Z4 (Z5 J ?_)
 refine oBuildSliceF (Parts.cons J (Parts.cons J Parts.nil)) J J J J J (Fulls.cons ZP J (Fulls.cons ZP J Fulls.nil ap) ap) (fun b42=>?_)
 refine oConv (blk_row (enc:=Value.int .i64) (h1:=fun _=>J) (W:=B.e) (xs:=[whenF (decide (d.fKind≠x.fKind)) 14,dataF d o.fSymbols]) (n:=2) ZP J J (by decide)) ?_
 refine ZG ?_ J (fun w0=>?_)
 exact AgainG.nil
 refine Z4 (Z5 J ?_)
 (refine ZD J (fun w B' hB hR hS'=>obj_first hS' [whenF (decide (d.fKind≠x.fKind)) 14,dataF d o.fSymbols] (some ⟨b42,0,none⟩) 2 2 rfl (row_Cs (W:=B.e) (e:=29) (A:=some ⟨b42,0,none⟩) (n:=2) (cp:=2) (hR _ _ ZP))) ?_;rintro ⟨⟩ -)
 refine ZG ?_ J (fun w0=>?_)
 exact AgainG.nil
 refine Z6 (Zze ?_)
 exact ⟨(),trivial,by unfold itemE;rw [if_neg h15,if_pos hif,hdg,hdk,fstW];simp only [decide_eq_true_eq];rfl,Lh⟩
 have hif:¬ o.fFuncs.length≤i:=by omega
 obtain ⟨f,hf⟩:∃ f,o.fFuncs[i]?=some f:=⟨_,List.getElem?_eq_getElem ZO⟩
 obtain ⟨e3,cs3,hE3⟩:=q1.elm hf
 obtain ⟨F0,f0,F1,f1,F2,f2,F3,f3,rfl,n0,r0,n1,r1,n2,r2,n3,r3⟩:=kApiFunc_open hE3.K
 have hgf:=hg.fun_ f (List.mem_of_getElem? hf)
 have hvf:=hg.v.2.1.2 f (List.mem_of_getElem? hf)
 have hfg:o.fFuncs.getD i default=f:=by rw [List.getD_eq_getElem?_getD,hf];rfl
 refine Zj (Za (Zh (Zi (Zz (n:=1) (m:=1) J J J (Zld ?_)))))
 refine Zo J (oIdxE J J (hE3) ZO J J ?_)
 have hc47:=(hE3).cell
 refine Zlx hc47 ?_
 refine oAlloc J ZP (fun b8=>?_)
 refine Zsa ?_
 refine Zn (Za (Zh (Zh (wDrawG J [0,1,2,3,4,5,6,7,8] [] [] 24 ZK J J (fun w0=>?_)))))
 refine Zz (n:=0) (m:=0) J J J (Zld ?_)
 refine Zz (n:=0) (m:=0) J J J (Zld ?_)
 refine Zo rfl (ZS0 (t:=53) (v':=.int .i64 (k:Int)) rfl (by rw [hk]) ?_)
 refine oIdxE J J (hE) ZO J J ?_
 have hc54:=(hE).cell
 refine ZF (ZT 3) (ZT 3) ?_
 refine Zlx hc54 ?_
 refine Z0 J J (Z6 (Zn (Za (wC (fun h57=>?_) (fun h57=>?_)))))
 refine Zh (Zi (Zze ?_))
 exact ⟨(),trivial,by unfold itemE;rw [if_neg h15,if_neg hif,hfg,hdk,if_pos h57];rfl,Lh⟩
 refine Zj (Za (Zh (Zi (Zla ?_))))
 refine Zz (n:=0) (m:=0) J J J (Zld ?_)
 (refine ZC0 rfl ZK (fun w hS=>frame hS ZQ (fun B' hB hS'=>verify_Check hS' f _ (kApiFunc_mk _ f n0 (Kd.C_grow hB r0) n1 (Kd.C_grow hB r1) n2 (Kd.C_grow hB r2) n3 (Kd.C_grow hB r3)) ZO A0 c0 o.fSymbols (Kd.C_grow hB q0))) ?_;rintro ⟨⟩ -)
 refine Zo J (oExt J ZP ?_)
 refine oExt J ZP ?_
 refine Zp J (Zp J (Zn (Za (Zh (Zi (Zo J (Zla ?_)))))))
 (refine ZC0 rfl ZK (fun w hS=>frame hS ZQ (fun B' hB hS'=>rng_Check hS' f _ (kApiFunc_mk _ f n0 (Kd.C_grow hB r0) n1 (Kd.C_grow hB r1) n2 (Kd.C_grow hB r2) n3 (Kd.C_grow hB r3)) ZO)) ?_;rintro ⟨⟩ -)
 refine oBuildSliceF (Parts.cons J (Parts.cons J Parts.nil)) J J J J J (Fulls.cons ZP J (Fulls.cons ZP J Fulls.nil ap) ap) (fun b68=>?_)
 refine oConv (blk_row (enc:=Value.int .i64) (h1:=fun _=>J) (W:=B.e) (xs:=[chkE f o.fSymbols,rangeF f]) (n:=2) ZP J J (by decide)) ?_
 (refine ZD J (fun w B' hB hR hS'=>obj_first hS' [chkE f o.fSymbols,rangeF f] (some ⟨b68,0,none⟩) 2 2 rfl (row_Cs (W:=B.e) (e:=29) (A:=some ⟨b68,0,none⟩) (n:=2) (cp:=2) (hR _ _ ZP))) ?_;rintro ⟨⟩ -)
 refine Zp J (Zza ?_)
 exact ⟨(),trivial,by unfold itemE funE;rw [if_neg h15,if_neg hif,hfg,hdk,if_neg h57,fst2];rfl,Lh⟩
def cntO (o:ApiObject) (r:Nat):Nat:=if r=0 then o.fSymbols.length else o.fFuncs.length+o.fDatas.length
noncomputable def entO (o:ApiObject) (r i:Nat):Int:=if r=0 then symE o i else itemE o i
noncomputable def lstO (o:ApiObject) (r:Nat):List Int:=(List.range (cntO o r)).map (entO o r)
theorem lst_0 (o:ApiObject):lstO o 0=symsL o:=rfl
theorem lst_1 (o:ApiObject):lstO o 1=itsL o:=rfl
def ruleO (b:Nat) (o:ApiObject):List (Fn×Int):=[((29,[b]),(o.fSymbols.length:Int)),((31,[b]),itemsF o)]
theorem cat_ruleO (w:World) (b:Nat) (o:ApiObject):Cat kRule w (ruleO b o) [.func (.func 29) #[] #[.pointer (some ⟨b,0,none⟩)],.int .i64 (o.fSymbols.length:Int),.func (.func 31) #[] #[.pointer (some ⟨b,0,none⟩)],.int .i64 (itemsF o)]:=
 ⟨[_,_],_,rfl,⟨_,_,rfl,rfl,rfl⟩,[_,_],_,rfl,⟨_,_,rfl,rfl,rfl⟩,rfl⟩
theorem ruleO_at {b j:Nat}{o:ApiObject}{r:Fn×Int}(h:(ruleO b o)[j]?=some r):r.2=(cntO o j:Int)∧j<2∧goodF Tryz.prog r.1.1=true:=by
  have hj:=(List.getElem?_eq_some_iff.1 h).1
  match j,hj,h with
  | 0,_,h=>obtain rfl:=Option.some.inj h;exact ⟨rfl,by decide,by show goodF Tryz.prog 29=true;kernel_rfl⟩
  | 1,_,h=>obtain rfl:=Option.some.inj h;exact ⟨by unfold itemsF cntO;simp,by decide,by show goodF Tryz.prog 31=true;kernel_rfl⟩
theorem obj_chk1 {B:Base}{w:World}(o:ApiObject) (A0:Option Addr) (c0:Nat) (A1:Option Addr) (c1:Nat) (A2:Option Addr) (c2 b1:Nat) (hS:St B [blk b1 26 [.slice A0 o.fSymbols.length c0,.slice A1 o.fFuncs.length c1,.slice A2 o.fDatas.length c2]] w) (ho:kApiObject.K B.e o [.slice A0 o.fSymbols.length c0,.slice A1 o.fFuncs.length c1,.slice A2 o.fDatas.length c2]) (hg:GoodO o) (i:Nat) (hi:i<o.fSymbols.length) :
 CW 29 #[.int .i64 (i:Int),.pointer (some ⟨b1,0,none⟩)] w (Ret B (fun _:Unit=>True) (fun _=>.int .i64 (symE o i)) (fun _=>[blk b1 26 [.slice A0 o.fSymbols.length c0,.slice A1 o.fFuncs.length c1,.slice A2 o.fDatas.length c2]])):=by
 refine ZX Tryz.func29 hS ?_
 refine Zh (Zi (Zp J (Zn (Za (Zh (Zi (Zla ?_)))))))
 refine Zo J ?_
 (refine ZC0 rfl ZK (fun w hS=>frame hS ZQ (fun B' hB hS'=>obj_symbol hS' o _ (kApiObject.K_grow hB ho) hg i hi)) ?_;rintro ⟨⟩ -)
 refine Zp J (Zza ?_)
 exact ⟨(),trivial,rfl,Lh⟩
theorem obj_chk2 {B:Base}{w:World}(o:ApiObject) (A0:Option Addr) (c0:Nat) (A1:Option Addr) (c1:Nat) (A2:Option Addr) (c2 b1:Nat) (hS:St B [blk b1 26 [.slice A0 o.fSymbols.length c0,.slice A1 o.fFuncs.length c1,.slice A2 o.fDatas.length c2]] w) (ho:kApiObject.K B.e o [.slice A0 o.fSymbols.length c0,.slice A1 o.fFuncs.length c1,.slice A2 o.fDatas.length c2]) (hg:GoodO o) (i:Nat) (hi:i<o.fFuncs.length+o.fDatas.length) :
 CW 31 #[.int .i64 (i:Int),.pointer (some ⟨b1,0,none⟩)] w (Ret B (fun _:Unit=>True) (fun _=>.int .i64 (itemE o i)) (fun _=>[blk b1 26 [.slice A0 o.fSymbols.length c0,.slice A1 o.fFuncs.length c1,.slice A2 o.fDatas.length c2]])):=by
 refine ZX Tryz.func31 hS ?_
 refine Zh (Zi (Zp J (Zn (Za (Zh (Zi (Zla ?_)))))))
 refine Zo J ?_
 (refine ZC0 rfl ZK (fun w hS=>frame hS ZQ (fun B' hB hS'=>obj_item hS' o _ (kApiObject.K_grow hB ho) hg i hi)) ?_;rintro ⟨⟩ -)
 refine Zp J (Zza ?_)
 exact ⟨(),trivial,rfl,Lh⟩
theorem ruleO_call {B:Base}{w:World}(o:ApiObject) (A0:Option Addr) (c0:Nat) (A1:Option Addr) (c1:Nat) (A2:Option Addr) (c2 b1:Nat) (hS:St B [blk b1 26 [.slice A0 o.fSymbols.length c0,.slice A1 o.fFuncs.length c1,.slice A2 o.fDatas.length c2]] w) (ho:kApiObject.K B.e o [.slice A0 o.fSymbols.length c0,.slice A1 o.fFuncs.length c1,.slice A2 o.fDatas.length c2]) (hg:GoodO o) {j:Nat}{r:Fn×Int}(h:(ruleO b1 o)[j]?=some r) (i:Nat) (hi:i<cntO o j) :
    CW r.1.1 (#[]++[Value.int .i64 (i:Int)].toArray++(r.1.2.map fun b=>Value.pointer (some ⟨b,0,none⟩)).toArray) w (Ret B (fun _:Unit=>True) (fun _=>.int .i64 (entO o j i)) (fun _=>[blk b1 26 [.slice A0 o.fSymbols.length c0,.slice A1 o.fFuncs.length c1,.slice A2 o.fDatas.length c2]])):=by
  have hj:=(List.getElem?_eq_some_iff.1 h).1
  match j,hj,h,hi with
  | 0,_,h,hi=>obtain rfl:=Option.some.inj h;exact obj_chk1 o A0 c0 A1 c1 A2 c2 b1 hS ho hg i hi
  | 1,_,h,hi=>obtain rfl:=Option.some.inj h;exact obj_chk2 o A0 c0 A1 c1 A2 c2 b1 hS ho hg i hi
theorem obj_Check {B:Base}{w:World}(hS:St B [] w) (o:ApiObject) (oc:List Value) (ho:kApiObject.K B.e o oc) (hg:GoodO o) :
 CW 10 #[.agg oc.toArray] w (Ret B (fun _:Unit=>True) (fun _=>.tuple #[.int .i64 (objE o),.int .i64 (objI o)]) (fun _=>[])):=by
 obtain ⟨A0,c0,A1,c1,A2,c2,rfl,m0,q0,m1,q1,m2,q2⟩:=kApiObject_open ho
 have hn0:=hg.syms
 have hn1:=hg.funcs
 have hn2:=hg.datas
 have hit:itemsF o=(o.fFuncs.length:Int)+(o.fDatas.length:Int):=rfl
 refine ZX Tryz.func10 hS ?_
 refine Zh (Zi (oBox J ZP (fun b1=>?_)))
 refine Zp J (Zp J (Zn (Za (Zh (Zh (Zi (Zz (n:=0) (m:=0) J J J (Zld ?_))))))))
 refine Zv J J (Z1 J J (Zo J (ZS (ZT 12) (fun h12=>?_) (fun h12=>?_))))
 refine Zr J J J J (Zr J J J J (Zr J J J J (Zr J J J J (Zt J J (Zo J (Zr J J J J (Zr J J J J (Zr J J J J (Zr J J J J (Zt J J (Zn (Za (wCondT J (Zh (Zi (Zp J (Zp J (Zn (Za (Zl (Zc (Zw ?_))))))))))))))))))))))
 refine ⟨rfl,_,(ResL.cons (ResR.tmp rfl) (ResL.cons (ResR.tmp rfl) ResL.nil)),?_⟩
 have hm:manyO o:=by unfold manyO;omega
 exact ⟨(),trivial,by unfold objE objI;rw [if_pos hm,if_pos hm];rfl,Lh⟩
 refine Zq J J (Zz (n:=1) (m:=1) J J J (Zzi ?_))
 refine Zq J J (Zv J J (Zq J J (Z1 J J (Zu J J (Zo J (ZS (ZT 18) (fun h18=>?_) (fun h18=>?_)))))))
 refine Zr J J J J (Zr J J J J (Zr J J J J (Zr J J J J (Zt J J (Zn (Za (wCondT J (Zh (Zi (Zp J (Zp J (Zn (Za (Zl (Zc (Zw ?_))))))))))))))))
 refine ⟨rfl,_,(ResL.cons (ResR.tmp rfl) (ResL.cons (ResR.tmp rfl) ResL.nil)),?_⟩
 have hm:manyO o:=by unfold manyO;omega
 exact ⟨(),trivial,by unfold objE objI;rw [if_pos hm,if_pos hm];rfl,Lh⟩
 refine Zq J J (Zz (n:=2) (m:=2) J J J (Zzi ?_))
 refine Zq J J (Zv J J (Zq J J (Z1 J J (Zu J J (Zn (Za (wC (fun h23=>?_) (fun h23=>?_))))))))
 refine Zh (Zi (Zp J (Zp J (Zn (Za (Zl (Zc (Zw ?_))))))))
 refine ⟨rfl,_,(ResL.cons (ResR.tmp rfl) (ResL.cons (ResR.tmp rfl) ResL.nil)),?_⟩
 have hm:manyO o:=by unfold manyO;omega
 exact ⟨(),trivial,by unfold objE objI;rw [if_pos hm,if_pos hm];rfl,Lh⟩
 have hm:¬ manyO o:=by unfold manyO;omega
 refine Zj (Za (Zh (Zh (wDrawG J [0,1,2,3,4,5,6,11] [(7,[0,1,2,3,4,5,11],[8]),(9,[11],[10])] [] 24 ZK J J (fun w0=>?_)))))
 refine oMakeFunc J (Zz (n:=0) (m:=0) J J J (Zld ?_))
 refine Zv J J (oBuild (Parts.cons J (Parts.cons J Parts.nil)) J J (Built.cons (off:=0) (s:=1) J ZP J ZP (Built.cons (off:=1) (s:=1) J ZP J ZP Built.nil)) ?_)
 refine oMakeFunc J (Zla ?_)
 refine Zo J (Z4 (Z5 J ?_))
 (refine ZC0 rfl ZK (fun w hS=>frame hS ZQ (fun B' hB hS'=>obj_Items hS' o _ (kApiObject.K_grow hB ho) hg)) ?_;rintro ⟨⟩ -)
 refine ZG ?_ J (fun w0=>?_)
 refine Z8 J J J J (fun w0=>?_) ?_
 refine oMakeFunc J ?_
 exact Z9 rfl
 refine Z8 J J J J (fun w0=>?_) ?_
 refine Zz (n:=0) (m:=0) J J J ?_
 exact Z9 rfl
 refine Z8 J J J J (fun w0=>?_) ?_
 refine Zld ?_
 exact Z9 rfl
 refine Z8 J J J J (fun w0=>?_) ?_
 refine Zv J J ?_
 exact Z9 rfl
 refine Z8 J J J J (fun w0=>?_) ?_
 refine oBuild (Parts.cons J (Parts.cons J Parts.nil)) J J (Built.cons (off:=0) (s:=1) J ZP J ZP (Built.cons (off:=1) (s:=1) J ZP J ZP Built.nil)) ?_
 exact Z9 rfl
 refine Z8 J J J J (fun w0=>?_) ?_
 refine oMakeFunc J ?_
 exact Z9 rfl
 refine Z8 J J J J (fun w0=>?_) ?_
 refine Zo J ?_
 exact Z9 rfl
 exact AgainG.nil
 refine oBuild (Parts.cons J (Parts.cons J Parts.nil)) J J (Built.cons (off:=0) (s:=1) J ZP J ZP (Built.cons (off:=1) (s:=1) J ZP J ZP Built.nil)) ?_
 refine Z4 (Z5 J ?_)
 refine oBuildSliceF (Parts.cons J (Parts.cons J Parts.nil)) J J J J J (Fulls.cons ZP J (Fulls.cons ZP J Fulls.nil ap) ap) (fun b33=>?_)
 refine ZG ?_ J (fun w0=>?_)
 refine Z8 J J J J (fun w0=>?_) ?_
 refine Zo J ?_
 exact Z9 rfl
 exact AgainG.nil
 refine Zv J J (Z6 (Zn (Za (wFreeze [blk b33 77 [.func (.func 29) #[] #[.pointer (some ⟨b1,0,none⟩)],.int .i64 (o.fSymbols.length:Int),.func (.func 31) #[] #[.pointer (some ⟨b1,0,none⟩)],.int .i64 (itemsF o)]] ZQ (fun B1 hB1 hq1=>?_)))))
 have hR:kRule.C B1.e (some ⟨b33,0,none⟩) (ruleO b1 o):=C_blk (hq1 _ _ ZP) (by show 2≤9223372036854775807;omega) (cat_ruleO _ _ _)
 have ho:=kApiObject.K_grow hB1 ho
 refine Zk (wLoop (ι:=Nat) (fun r=>[(1,.pointer (some ⟨b1,0,none⟩)),(33,.slice (some ⟨b33,0,none⟩) 2 2),(34,.int .i64 2),(35,.int .i64 (r:Int))]) (fun r=>[blk b1 26 [.slice A0 o.fSymbols.length c0,.slice A1 o.fFuncs.length c1,.slice A2 o.fDatas.length c2]]) (fun r=>r≤2∧∀ q,q<r→fstE (lstO o q)=0) (fun r=>2-r) 0 ?_ cv (Leads.has ZQ) ?_)
 exact ⟨Nat.zero_le _,fun q hq=>by omega⟩
 rintro r ⟨hr2,hqs⟩
 try dsimp only
 refine Zh (Zi (Zx J J (Zn (Za (Zh (wC (fun h36=>?_) (fun h36=>?_)))))))
 obtain ⟨u,hu⟩:∃ u,(ruleO b1 o)[r]?=some u:=⟨_,List.getElem?_eq_getElem (by show r<2;omega)⟩
 obtain ⟨hu1,hu2,hu3⟩:=ruleO_at hu
 obtain ⟨⟨ug,ub⟩,uc⟩:=u
 dsimp only at hu1 hu3
 subst hu1
 obtain ⟨e2,cs2,hE2⟩:=hR.elm hu
 obtain ⟨_,_,rfl,rfl,rfl⟩:=(hE2.K:kRule.K _ _ _)
 have hcn:cntO o r≤100:=by unfold cntO;split <;> omega
 refine Zj (Za (Zh (Zk (Zh (Zi (oIdxE J J (hE2) ZO J J ?_))))))
 have hc37:=(hE2).cell
 refine Zlx hc37 ?_
 refine oAlloc J ZP (fun b5=>?_)
 refine Zsa ?_
 refine Zn (Za (Zh (Zi (Zz (n:=1) (m:=1) J J J (Zld ?_)))))
 refine Zo J (Zn (Za (Zk (wLoop (ι:=Nat) (fun i=>[(1,.pointer (some ⟨b1,0,none⟩)),(33,.slice (some ⟨b33,0,none⟩) 2 2),(34,.int .i64 2),(35,.int .i64 (r:Int)),(5,.pointer (some ⟨b5,0,none⟩)),(40,.int .i64 (cntO o r:Int)),(41,.int .i64 (i:Int))]) (fun i=>[blk b5 77 [.func (.func ug) #[] (ub.map fun b=>Value.pointer (some ⟨b,0,none⟩)).toArray,.int .i64 (cntO o r:Int)],blk b1 26 [.slice A0 o.fSymbols.length c0,.slice A1 o.fFuncs.length c1,.slice A2 o.fDatas.length c2]]) (fun i=>i≤cntO o r∧fstE ((lstO o r).take i)=0∧∀ y ∈ (lstO o r).take i,non0 y=false) (fun i=>cntO o r-i) 0 ?_ cv (Leads.has ZQ) ?_))))
 exact ⟨Nat.zero_le _,rfl,by simp⟩
 rintro i ⟨hi,hs,hs2⟩
 try dsimp only
 refine Zh (Zi (Zx J J (Zn (Za (Zh (wC (fun h42=>?_) (fun h42=>?_)))))))
 have hxe:(lstO o r)[i]?=some (entO o r i):=rmap_at ZO
 refine Zj (Za (Zh (Zk (Zh (Zi (Zo J (Zp J (Zn (Za (Zh (Zi (Zz (n:=0) (m:=0) J J J (Zld ?_)))))))))))))
 refine Zo J ?_
 (refine oCallV rfl rfl rfl hu3 (fun w hS=>frame hS ZQ (fun B' hB hS'=>ruleO_call o A0 c0 A1 c1 A2 c2 b1 hS' (kApiObject.K_grow hB ho) hg hu i ZO)) ?_;rintro ⟨⟩ -)
 refine Zp J (Zn (Za (Zh (Zi (Zo J (Z0 J J (Zn (Za (wC (fun h49=>?_) (fun h49=>?_))))))))))
 refine Zh (Zi (Zo J (Zo J (Zp J (Zp J (Zn (Za (Zl (Zf (Zc (Zc (Zf (Zf (Zc (Zc (Zf (Zc (Zw ?_))))))))))))))))))
 refine ⟨rfl,_,(ResL.cons (ResR.tmp rfl) (ResL.cons (ResR.tmp rfl) ResL.nil)),?_⟩
 have hfe:=fstE_stop hs hxe h49
 have hie:=idxI_stop hs2 hxe (decide_eq_true h49)
 exact ⟨(),trivial,by
  unfold objE objI
  rcases Nat.eq_zero_or_pos r with h0 | h0
  · subst h0
    rw [lst_0] at hfe hie
    rw [if_neg hm,if_neg hm,hfe,if_pos h49,if_pos h49,hie];rfl
  · obtain rfl:r=1:=by omega
    have hfs:=hqs 0 ZO
    rw [lst_0] at hfs
    rw [lst_1] at hfe hie
    rw [if_neg hm,if_neg hm,if_neg (by rw [hfs];simp),if_neg (by rw [hfs];simp),hfe,hie];rfl,Lh⟩
 refine Zj (Zzg ?_)
 refine Zo J (Zn (Za ?_))
 exact ⟨rfl,i+1,⟨by omega,fstE_next hs hxe (Classical.not_not.1 h49),take_not hs2 hxe (decide_eq_false h49)⟩,by omega,cv,Lh⟩
 obtain rfl:i=cntO o r:=by omega
 have hfr:fstE (lstO o r)=0:=by have:=hs;unfold lstO at this;rw [rmap_all] at this;exact this
 refine Zm (Zb (Zb (Ze (Zzg ?_))))
 refine Zo J (Zn (Za ?_))
 exact ⟨rfl,r+1,⟨by omega,fun q hq=>if e:q=r then by rw [e];exact hfr else hqs q ZO⟩,by omega,cv,Lh⟩
 refine Zm (Zb (Zb (Ze (Za (Zh (Zi (Zp J (Zp J (Zn (Za (Zl (Zw ?_))))))))))))
 refine ⟨rfl,_,(ResL.cons (ResR.tmp rfl) (ResL.cons (ResR.tmp rfl) ResL.nil)),?_⟩
 obtain rfl:r=2:=by omega
 have hfs:=hqs 0 ZO
 have hfi:=hqs 1 ZO
 rw [lst_0] at hfs
 rw [lst_1] at hfi
 exact ⟨(),trivial,by unfold objE objI;rw [if_neg hm,if_neg hm,if_neg (by rw [hfs];simp),if_neg (by rw [hfs];simp),hfi,idxI_none (p:=non0) (fun y hy=>decide_eq_false (fun h=>h (fstE_zero.1 hfi y hy)))];rfl,Lh⟩
def oneF:ApiFunc:=⟨1,[0,0],0,false,0,0,[],[⟨15,1,0,0,0⟩,⟨24,1,0,0,0⟩],[⟨0,1,true⟩]⟩
def oneD:ApiData:=⟨0,[7],[]⟩
def oneS (x:Int):List ApiSymbol:=[⟨⟨#[109,97,105,110]⟩,false,1,1,0⟩,⟨⟨#[100]⟩,true,2,0,x⟩]
def oneO (x:Int):ApiObject:=⟨oneS x,[oneF],[oneD]⟩
def nilO:ApiObject:=⟨[],[],[]⟩
theorem one_K {w:World}{s k c r f w' d:Nat}{x:Int}(h0:(blk s 37 [.string ⟨#[109,97,105,110]⟩,.bool false,.int .i64 1,.int .i64 1,.int .i64 0,.string ⟨#[100]⟩,.bool true,.int .i64 2,.int .i64 0,.int .i64 x]).q w) (h1:(blk k 3 [.int .i64 0,.int .i64 0]).q w) (h2:(blk c 67 [.int .i64 15,.int .i64 1,.int .i64 0,.int .i64 0,.int .i64 0,.int .i64 24,.int .i64 1,.int .i64 0,.int .i64 0,.int .i64 0]).q w) (h3:(blk r 103 [.int .i64 0,.int .i64 1,.bool true]).q w) (h4:(blk f 57 [.int .i64 1,.slice (some ⟨k,0,none⟩) 2 2,.int .i64 0,.bool false,.int .i64 0,.int .i64 0,.slice none 0 0,.slice (some ⟨c,0,none⟩) 2 2,.slice (some ⟨r,0,none⟩) 1 1]).q w) (h5:(blk w' 2 [.int .i64 7]).q w) (h6:(blk d 62 [.int .i64 0,.slice (some ⟨w',0,none⟩) 1 1,.slice none 0 0]).q w):kApiObject.K w (oneO x) [.slice (some ⟨s,0,none⟩) 2 2,.slice (some ⟨f,0,none⟩) 1 1,.slice (some ⟨d,0,none⟩) 1 1]:=
 kApiObject_mk w (oneO x) (A0:=some ⟨s,0,none⟩) (A1:=some ⟨f,0,none⟩) (A2:=some ⟨d,0,none⟩) (c0:=2) (c1:=1) (c2:=1) (by show 2≤2;omega)
  (C_blk (kd:=kApiSymbol) h0 (by show 2≤9223372036854775807;omega) ⟨_,_,rfl,kApiSymbol_mk w ⟨⟨#[109,97,105,110]⟩,false,1,1,0⟩,_,_,rfl,kApiSymbol_mk w ⟨⟨#[100]⟩,true,2,0,x⟩,rfl⟩) (by show 1≤1;omega)
  (C_blk (kd:=kApiFunc) h4 (by show 1≤9223372036854775807;omega) ⟨_,_,rfl,kApiFunc_mk w oneF (c0:=2) (c1:=0) (c2:=2) (c3:=1) (by decide) (C_blk (kd:=Kd.int .i64) h1 (by decide) (cat_scalar.2 rfl)) (by decide) (Kd.C_nil _ _ _) (by decide) (C_blk (kd:=kApiInstr) h2 (by decide) ⟨_,_,rfl,kApiInstr_mk w ⟨15,1,0,0,0⟩,_,_,rfl,kApiInstr_mk w ⟨24,1,0,0,0⟩,rfl⟩) (by decide) (C_blk (kd:=kApiReloc) h3 (by decide) ⟨_,_,rfl,kApiReloc_mk w ⟨0,1,true⟩,rfl⟩),rfl⟩) (by show 1≤1;omega)
  (C_blk (kd:=kApiData) h6 (by show 1≤9223372036854775807;omega) ⟨_,_,rfl,kApiData_mk w oneD (c0:=1) (c1:=0) (by decide) (C_blk (kd:=Kd.int .i64) h5 (by decide) (cat_scalar.2 rfl)) (by decide) (Kd.C_nil _ _ _),rfl⟩)
theorem nil_K (w:World):kApiObject.K w nilO [.slice none 0 0,.slice none 0 0,.slice none 0 0]:=kApiObject_mk w nilO (c0:=0) (c1:=0) (c2:=0) (by decide) (Kd.C_nil _ _ _) (by decide) (Kd.C_nil _ _ _) (by decide) (Kd.C_nil _ _ _)
theorem one_good {x:Int}(hx:in64 x):GoodO (oneO x):=by
 refine ⟨?_,by show 2≤60;omega,by show 1≤20;omega,by show 1≤20;omega,fun f hf=>?_,fun d hd=>?_⟩
 · have s1:(⟨#[109,97,105,110]⟩:ByteArray).size=4:=rfl
   have s2:(⟨#[100]⟩:ByteArray).size=1:=rfl
   unfold vApiObject
   simp [s1,s2,oneO,oneS,oneF,oneD,vApiSymbol,vApiFunc,vApiData,vApiInstr,vApiReloc,vApiLine,in64,maxLen] at hx ⊢
   omega
 · obtain rfl:=List.mem_singleton.1 hf;decide
 · obtain rfl:=List.mem_singleton.1 hd;decide
theorem nil_good:GoodO nilO:=by
 refine ⟨?_,by decide,by decide,by decide,fun f hf=>(by cases hf),fun d hd=>(by cases hd)⟩
 unfold vApiObject
 simp [nilO]
theorem one_range:rangeF oneF=0:=by
 unfold rangeF
 rw [if_neg]
 rintro ⟨i,hi,hr,-⟩
 have hn:∀ y,¬ RP (rg oneF.fCode) (fromL oneF.fCode (dfrN oneF.fCode)) y:=by
  intro y hy
  induction hy with
  | start h1 h2=>rw [show fromL oneF.fCode (dfrN oneF.fCode)=[] from by decide] at h1;cases h1
  | step h1 h2 ih=>exact ih
 exact hn _ hr
theorem one_fun:funF oneF=0:=by unfold funF codeF;rw [flowF_eq];decide
theorem one_chk:chkE oneF (oneS 0)=0:=by unfold chkE;rw [one_fun];decide
theorem one_syms:symsL (oneO 0)=[0,0]:=by decide
theorem one_syms2:symsL (oneO (-1))=[0,13]:=by decide
theorem one_it0:itemE (oneO 0) 0=0:=by
 unfold itemE funE
 rw [if_neg (by decide),if_neg (by decide),if_neg (by decide),if_neg (by show ¬ chkE oneF (oneS 0)≠0;rw [one_chk];decide)]
 exact one_range
theorem one_it1:itemE (oneO 0) 1=0:=by
 unfold itemE
 rw [if_neg (by decide),if_pos (by decide),if_neg (by decide)]
 decide
theorem one_its:itsL (oneO 0)=[0,0]:=by
 show [itemE (oneO 0) 0,itemE (oneO 0) 1]=[0,0]
 rw [one_it0,one_it1]
theorem one_E:objE (oneO 0)=0∧objI (oneO 0) = -1:=by
 unfold objE objI
 rw [one_syms,one_its]
 decide
theorem one_E2:objE (oneO (-1))=13∧objI (oneO (-1))=1:=by
 have h:fstE [0,13]≠0:=by decide
 unfold objE objI
 rw [one_syms2,if_neg (show ¬ manyO (oneO (-1)) by decide),if_neg (show ¬ manyO (oneO (-1)) by decide),if_pos h,if_pos h]
 decide
theorem nil_E:objE nilO=0∧objI nilO = -1:=by
 unfold objE objI
 rw [show symsL nilO=[] from rfl,show itsL nilO=[] from rfl]
 decide
theorem one_items:itemsF (oneO 0)=2:=by decide
theorem one_def:definerF (oneO 0) 1=1∧definerF (oneO 0) 2 = -1:=by decide
theorem law_One {B:Base}{w:World}(hS:St B [] w) :
 CW 28 #[] w (Ret B (fun _:Nat×Nat×Nat×Nat×Nat×Nat×Nat=>True) (fun z=>.agg #[.slice (some ⟨z.1,0,none⟩) 2 2,.slice (some ⟨z.2.2.2.2.1,0,none⟩) 1 1,.slice (some ⟨z.2.2.2.2.2.2,0,none⟩) 1 1]) (fun z=>[blk z.1 37 [.string ⟨#[109,97,105,110]⟩,.bool false,.int .i64 1,.int .i64 1,.int .i64 0,.string ⟨#[100]⟩,.bool true,.int .i64 2,.int .i64 0,.int .i64 0],blk z.2.1 3 [.int .i64 0,.int .i64 0],blk z.2.2.1 67 [.int .i64 15,.int .i64 1,.int .i64 0,.int .i64 0,.int .i64 0,.int .i64 24,.int .i64 1,.int .i64 0,.int .i64 0,.int .i64 0],blk z.2.2.2.1 103 [.int .i64 0,.int .i64 1,.bool true],blk z.2.2.2.2.1 57 [.int .i64 1,.slice (some ⟨z.2.1,0,none⟩) 2 2,.int .i64 0,.bool false,.int .i64 0,.int .i64 0,.slice none 0 0,.slice (some ⟨z.2.2.1,0,none⟩) 2 2,.slice (some ⟨z.2.2.2.1,0,none⟩) 1 1],blk z.2.2.2.2.2.1 2 [.int .i64 7],blk z.2.2.2.2.2.2 62 [.int .i64 0,.slice (some ⟨z.2.2.2.2.2.1,0,none⟩) 1 1,.slice none 0 0]])):=by
 refine ZX Tryz.func28 hS ?_
 refine Zh (Zi (oAlloc J ZP (fun b0=>?_)))
 refine Zn (Za (Zh (Zi (oBuild (Parts.cons J (Parts.cons J (Parts.cons J Parts.nil))) J J (Built.cons (off:=0) (s:=1) J ZP J ZP (Built.cons (off:=2) (s:=1) J ZP J ZP (Built.cons (off:=3) (s:=1) J ZP J ZP Built.nil))) ?_))))
 refine oBuild (Parts.cons J (Parts.cons J (Parts.cons J Parts.nil))) J J (Built.cons (off:=0) (s:=1) J ZP J ZP (Built.cons (off:=1) (s:=1) J ZP J ZP (Built.cons (off:=2) (s:=1) J ZP J ZP Built.nil))) ?_
 refine oBuildSliceF (Parts.cons J (Parts.cons J Parts.nil)) J J J J J (Fulls.cons ZP J (Fulls.cons ZP J Fulls.nil ap) ap) (fun b3=>?_)
 refine oBuildSliceF (Parts.cons J (Parts.cons J Parts.nil)) J J J J J (Fulls.cons ZP J (Fulls.cons ZP J Fulls.nil ap) ap) (fun b4=>?_)
 refine oBuild (Parts.cons J (Parts.cons J Parts.nil)) J J (Built.cons (off:=0) (s:=1) J ZP J ZP (Built.cons (off:=1) (s:=1) J ZP J ZP Built.nil)) ?_
 refine oBuild (Parts.cons J (Parts.cons J Parts.nil)) J J (Built.cons (off:=0) (s:=1) J ZP J ZP (Built.cons (off:=1) (s:=1) J ZP J ZP Built.nil)) ?_
 refine oBuildSliceF (Parts.cons J (Parts.cons J Parts.nil)) J J J J J (Fulls.cons ZP J (Fulls.cons ZP J Fulls.nil ap) ap) (fun b7=>?_)
 refine oBuild (Parts.cons J (Parts.cons J (Parts.cons J Parts.nil))) J J (Built.cons (off:=0) (s:=1) J ZP J ZP (Built.cons (off:=1) (s:=1) J ZP J ZP (Built.cons (off:=2) (s:=1) J ZP J ZP Built.nil))) ?_
 refine oBuildSlice1 J J J J J ZP J (fun b9=>?_)
 refine oBuild (Parts.cons J (Parts.cons J (Parts.cons J (Parts.cons J Parts.nil)))) J J (Built.cons (off:=0) (s:=1) J ZP J ZP (Built.cons (off:=1) (s:=1) J ZP J ZP (Built.cons (off:=7) (s:=1) J ZP J ZP (Built.cons (off:=8) (s:=1) J ZP J ZP Built.nil)))) ?_
 refine oBuildSlice1 J J J J J ZP J (fun b11=>?_)
 refine oBuildSlice1 J J J J J ZP J (fun b12=>?_)
 refine oBuild (Parts.cons J Parts.nil) J J (Built.cons (off:=1) (s:=1) J ZP J ZP Built.nil) ?_
 refine oBuildSlice1 J J J J J ZP J (fun b14=>?_)
 refine oBuild (Parts.cons J (Parts.cons J (Parts.cons J Parts.nil))) J J (Built.cons (off:=0) (s:=1) J ZP J ZP (Built.cons (off:=1) (s:=1) J ZP J ZP (Built.cons (off:=2) (s:=1) J ZP J ZP Built.nil))) ?_
 refine Zsa ?_
 refine Zn (Za (Zl (Zw (ZI ?_))))
 exact ⟨(b3,b4,b7,b9,b11,b12,b14),trivial,rfl,Lh⟩
theorem known19 {B:Base}{w:World}(hS:St B [] w) :
 CW 9 #[] w (Ret B (fun _:Unit=>True) (fun _=>.bool true) (fun _=>[])):=by
 refine ZX Tryz.func9 hS ?_
 refine Zh (Zi (Zp J (Zn (Za (Zh (Zi ?_))))))
 (refine ZC0 rfl ZK (fun w hS=>frame hS ZQ (fun B' hB hS'=>law_One hS')) ?_;rintro ⟨x1,x2,x3,x4,x5,x6,x7⟩ -)
 try dsimp only
 (refine ZD J (fun w B' hB hR hS'=>obj_Check hS' (oneO 0) _ (one_K (x:=0) (s:=x1) (k:=x2) (c:=x3) (r:=x4) (f:=x5) (w':=x6) (d:=x7) (hR _ _ ZP) (hR _ _ ZP) (hR _ _ ZP) (hR _ _ ZP) (hR _ _ ZP) (hR _ _ ZP) (hR _ _ ZP)) (one_good (by unfold in64;omega))) ?_;rintro ⟨⟩ -)
 rw [one_E.1,one_E.2];try dsimp only
 refine Zo J (oExt J ZP ?_)
 refine oExt J ZP ?_
 refine Zp J (Zp J (Zn (Za (Zh (Zi ?_)))))
 (refine ZC0 rfl ZK (fun w hS=>frame hS ZQ (fun B' hB hS'=>law_One hS')) ?_;rintro ⟨y1,y2,y3,y4,y5,y6,y7⟩ -)
 try dsimp only
 refine oAlloc J ZP (fun b3=>?_)
 refine Zsa ?_
 refine Zn (Za (Zh (Zi (Zz (n:=0) (m:=0) J J J (Zld ?_)))))
 refine oIdxB (s:=5) (i:=1) (m:=5) J J J (by decide) J ?_
 refine Zz (n:=4) (m:=9) J J J (Zst ?_)
 refine Zn (Za (Zh (Zi (Zla ?_))))
 (refine ZD J (fun w B' hB hR hS'=>obj_Check hS' (oneO (-1)) _ (one_K (x:=(-1)) (s:=y1) (k:=y2) (c:=y3) (r:=y4) (f:=y5) (w':=y6) (d:=y7) (hR _ _ ZP) (hR _ _ ZP) (hR _ _ ZP) (hR _ _ ZP) (hR _ _ ZP) (hR _ _ ZP) (hR _ _ ZP)) (one_good (by unfold in64;omega))) ?_;rintro ⟨⟩ -)
 rw [one_E2.1,one_E2.2];try dsimp only
 refine Zo J (oExt J ZP ?_)
 refine oExt J ZP ?_
 refine Zp J (Zp J (Zn (Za (Zh (Zi (oBuild Parts.nil J J Built.nil ?_))))))
 (refine ZC0 rfl ZK (fun w hS=>frame hS ZQ (fun B' hB hS'=>obj_Check hS' nilO _ (nil_K _) nil_good)) ?_;rintro ⟨⟩ -)
 rw [nil_E.1,nil_E.2];try dsimp only
 refine Zo J (oExt J ZP ?_)
 refine oExt J ZP ?_
 refine Zp J (Zp J (Zn (Za (Zh (Zi (Zo J (Zy J J (Zo J (ZS (ZT 30) (fun h30=>?_) (fun h30=>?_))))))))))
 refine Zq J J (Zo J (Zq J J (Zy J J (Zt J J (Zo J (ZS (ZT 34) (fun h34=>?_) (fun h34=>?_)))))))
 refine Zq J J (Zo J (Zq J J (Zy J J (Zt J J (Zo J (ZS (ZT 38) (fun h38=>?_) (fun h38=>?_)))))))
 refine Zq J J (Zo J (Zq J J (Zy J J (Zt J J (Zo J (ZS (ZT 42) (fun h42=>?_) (fun h42=>?_)))))))
 refine Zq J J (Zo J (Zq J J (Zy J J (Zt J J (Zo J (ZS (ZT 46) (fun h46=>?_) (fun h46=>?_)))))))
 refine Zq J J (Zo J (Zq J J (Zy J J (Zt J J (Zo J (ZS (ZT 50) (fun h50=>?_) (fun h50=>?_)))))))
 refine Zq J J ?_
 (refine ZC0 rfl ZK (fun w hS=>frame hS ZQ (fun B' hB hS'=>law_One hS')) ?_;rintro ⟨u1,u2,u3,u4,u5,u6,u7⟩ -)
 try dsimp only
 refine Zq J J ?_
 (refine ZD J (fun w B' hB hR hS'=>obj_Items hS' (oneO 0) _ (one_K (x:=0) (s:=u1) (k:=u2) (c:=u3) (r:=u4) (f:=u5) (w':=u6) (d:=u7) (hR _ _ ZP) (hR _ _ ZP) (hR _ _ ZP) (hR _ _ ZP) (hR _ _ ZP) (hR _ _ ZP) (hR _ _ ZP)) (one_good (by unfold in64;omega))) ?_;rintro ⟨⟩ -)
 rw [one_items];try dsimp only
 refine Zq J J (Zy J J (Zt J J (Zo J (ZS (ZT 55) (fun h55=>?_) (fun h55=>?_)))))
 refine Zq J J ?_
 (refine ZC0 rfl ZK (fun w hS=>frame hS ZQ (fun B' hB hS'=>law_One hS')) ?_;rintro ⟨v1,v2,v3,v4,v5,v6,v7⟩ -)
 try dsimp only
 refine Zq J J ?_
 (refine ZD J (fun w B' hB hR hS'=>obj_Definer hS' (oneO 0) _ (one_K (x:=0) (s:=v1) (k:=v2) (c:=v3) (r:=v4) (f:=v5) (w':=v6) (d:=v7) (hR _ _ ZP) (hR _ _ ZP) (hR _ _ ZP) (hR _ _ ZP) (hR _ _ ZP) (hR _ _ ZP) (hR _ _ ZP)) (one_good (by unfold in64;omega)) 1) ?_;rintro ⟨⟩ -)
 rw [one_def.1];try dsimp only
 refine Zq J J (Zy J J (Zt J J (Zo J (ZS (ZT 60) (fun h60=>?_) (fun h60=>?_)))))
 refine Zq J J ?_
 (refine ZC0 rfl ZK (fun w hS=>frame hS ZQ (fun B' hB hS'=>law_One hS')) ?_;rintro ⟨t1,t2,t3,t4,t5,t6,t7⟩ -)
 try dsimp only
 refine Zq J J ?_
 (refine ZD J (fun w B' hB hR hS'=>obj_Definer hS' (oneO 0) _ (one_K (x:=0) (s:=t1) (k:=t2) (c:=t3) (r:=t4) (f:=t5) (w':=t6) (d:=t7) (hR _ _ ZP) (hR _ _ ZP) (hR _ _ ZP) (hR _ _ ZP) (hR _ _ ZP) (hR _ _ ZP) (hR _ _ ZP)) (one_good (by unfold in64;omega)) 2) ?_;rintro ⟨⟩ -)
 rw [one_def.2];try dsimp only
 refine Zq J J (Zy J J (Zt J J (Zzh ?_)))
 exact ⟨(),trivial,rfl,Lh⟩
 first | exact absurd rfl h60 | cases h60
 first | exact absurd rfl h55 | cases h55
 first | exact absurd rfl h50 | cases h50
 first | exact absurd rfl h46 | cases h46
 first | exact absurd rfl h42 | cases h42
 first | exact absurd rfl h38 | cases h38
 first | exact absurd rfl h34 | cases h34
 first | exact absurd rfl h30 | cases h30
theorem few_good {o:ApiObject}(hv:vApiObject o) (h:FewB o):GoodO o:=⟨hv,h.syms,h.funcs,h.datas,h.fun_,h.data⟩
theorem filt_le1 {p:Nat→Bool}(h:∀ i j,p i=true→p j=true→i=j):∀ m,((List.range m).filter p).length≤1
 | 0=>by simp
 | m+1=>by
  rw [List.range_succ,List.filter_append,List.length_append]
  by_cases hp:p m=true
  · have : (List.range m).filter p = [] := by
     rw [List.filter_eq_nil_iff]
     intro i hi hpi
     have:=h i m hpi hp
     have:=List.mem_range.1 hi
     omega
    rw [this]
    simp [hp]
  · have:=filt_le1 h m
    simp [hp]
    exact this
theorem filt_pos {p:Nat→Bool}{m i:Nat}(hi:i<m) (h:p i=true):1≤((List.range m).filter p).length:=
 List.length_pos_of_mem (List.mem_filter.2 ⟨List.mem_range.2 hi,h⟩)
theorem filt_zero {p:Nat→Bool}{m:Nat}(h:∀ i,i<m→p i=false):((List.range m).filter p).length=0:=by
 rw [List.length_eq_zero_iff,List.filter_eq_nil_iff]
 intro i hi
 rw [h i (List.mem_range.1 hi)]
 simp
def cntP (o:ApiObject) (m k:Nat):Nat:=((List.range m).filter (fun i:Nat=>decide (definerF o (i:Int)=(k:Int)))).length
def cntL (o:ApiObject) (m:Nat):List Int:=(List.range o.fSymbols.length).map fun k=>(cntP o m k:Int)
theorem cntL_len (o:ApiObject) (m:Nat):(cntL o m).length=o.fSymbols.length:=by simp [cntL]
theorem cntL_at {o:ApiObject}{m k:Nat}(h:k<o.fSymbols.length):(cntL o m)[k]?=some (cntP o m k:Int):=by
 unfold cntL;rw [List.getElem?_map,List.getElem?_range h];rfl
theorem cntL_zero (o:ApiObject):cntL o 0=List.replicate o.fSymbols.length 0:=by
 apply List.ext_getElem?
 intro i
 by_cases h:i<o.fSymbols.length
 · rw [cntL_at h,List.getElem?_replicate,if_pos h];rfl
 · rw [List.getElem?_eq_none (by rw [cntL_len];omega),List.getElem?_eq_none (by simp;omega)]
theorem cntP_succ (o:ApiObject) (m k:Nat):cntP o (m+1) k=cntP o m k+(if definerF o (m:Int)=(k:Int) then 1 else 0):=by
 unfold cntP
 rw [List.range_succ,List.filter_append,List.length_append]
 congr 1
 by_cases h:definerF o (m:Int)=(k:Int)
 · simp [h]
 · simp [h]
theorem cntP_le (o:ApiObject) (m k:Nat):cntP o m k≤m:=by
 unfold cntP
 exact Nat.le_trans (List.length_filter_le _ _) (by simp)
theorem cntL_set {o:ApiObject}{m k:Nat}(hk:k<o.fSymbols.length) (h:definerF o (m:Int)=(k:Int)):(cntL o m).set k ((cntP o m k:Int)+1)=cntL o (m+1):=by
 apply List.ext_getElem?
 intro i
 rw [List.getElem?_set,cntL_len]
 by_cases e:k=i
 · subst e
   rw [if_pos rfl,if_pos hk,cntL_at hk,cntP_succ,if_pos h];simp
 · rw [if_neg e]
   by_cases hi:i<o.fSymbols.length
   · rw [cntL_at hi,cntL_at hi,cntP_succ,if_neg (by rw [h];omega)];simp
   · rw [List.getElem?_eq_none (by rw [cntL_len];omega),List.getElem?_eq_none (by rw [cntL_len];omega)]
theorem defines_one {o:ApiObject}{x:ApiSymbol}{i j:Int}(h:definesF o i x=true) (h':definesF o j x=true):i=j:=by
 unfold definesF at h h'
 split at h
 · cases h
 split at h'
 · cases h'
 split at h <;> split at h' <;> simp only [Bool.and_eq_true,decide_eq_true_eq] at h h' <;> omega
theorem defines_pos {o:ApiObject}{x:ApiSymbol}{i:Int}(h:definesF o i x=true):0≤x.fDef:=by
 unfold definesF at h
 split at h
 · cases h
 split at h <;> simp only [Bool.and_eq_true,decide_eq_true_eq] at h <;> omega
theorem defines_same {o:ApiObject}{x y:ApiSymbol}{i:Int}(h:definesF o i x=true) (h':definesF o i y=true):y.fSort=x.fSort∧y.fDef=x.fDef:=by
 unfold definesF at h h'
 split at h
 · cases h
 split at h <;> rename_i hn hl <;> rw [if_neg hn] at h'
 · rw [if_pos hl] at h';simp only [Bool.and_eq_true,decide_eq_true_eq] at h h';omega
 · rw [if_neg hl] at h';simp only [Bool.and_eq_true,decide_eq_true_eq] at h h';omega
theorem definer_is {o:ApiObject}{i:Int}{k:Nat}{x:ApiSymbol}(hx:o.fSymbols[k]?=some x) (h:definerF o i=(k:Int)):definesF o i x=true:=by
 obtain ⟨k',x',h1,h2,h3⟩:=definer_at (show 0≤definerF o i by omega)
 obtain rfl:k'=k:=by omega
 rw [hx] at h2
 obtain rfl:=Option.some.inj h2
 exact h3
theorem obj_zero {o:ApiObject}(h:objE o=0):(∀ k,k<o.fSymbols.length→symE o k=0)∧∀ i,i<o.fFuncs.length+o.fDatas.length→itemE o i=0:=by
 unfold objE at h
 split at h
 · omega
 · by_cases h2:fstE (symsL o)=0
   · rw [if_neg (by rw [h2];simp)] at h
     refine ⟨fun k hk=>fstE_zero.1 h2 _ (List.mem_map.2 ⟨k,List.mem_range.2 hk,rfl⟩),fun i hi=>fstE_zero.1 h _ (List.mem_map.2 ⟨i,List.mem_range.2 hi,rfl⟩)⟩
   · rw [if_pos h2] at h;exact absurd h h2
theorem item_def {o:ApiObject}{i:Nat}(h:itemE o i=0):∃ k:Nat,definerF o (i:Int)=(k:Int)∧k<o.fSymbols.length:=by
 by_cases h1:definerF o (i:Int)<0
 · unfold itemE at h;rw [if_pos h1] at h;omega
 · obtain ⟨k,x,h2,h3,-⟩:=definer_at (show 0≤definerF o (i:Int) by omega)
   exact ⟨k,h2,(List.getElem?_eq_some_iff.1 h3).1⟩
theorem symX_zero {o:ApiObject}{i:Nat}{x:ApiSymbol}(h:symX o i x=0):kindB x=false∧(x.fDef = -1∨(x.fDef=(aheadN x (o.fSymbols.take i):Int)∧x.fDef<(mostN o x:Int))):=by
 unfold symX at h
 split at h
 · omega
 split at h
 · omega
 split at h
 · omega
 split at h
 · omega
 · rename_i h1 h2 h3 h4
   exact ⟨by simpa using h2,by omega⟩
theorem ahead_mono (x:ApiSymbol) (l:List ApiSymbol) {j k:Nat}(h:j≤k):aheadN x (l.take j)≤aheadN x (l.take k):=by
 unfold aheadN
 have e:l.take j=(l.take k).take j:=by rw [List.take_take,Nat.min_eq_left h]
 rw [e]
 exact ((List.take_sublist j (l.take k)).filter _).length_le
theorem sym_item {o:ApiObject}(h:objE o=0) {k:Nat}{x:ApiSymbol}(hx:o.fSymbols[k]?=some x) (hd:0≤x.fDef):∃ i:Nat,i<o.fFuncs.length+o.fDatas.length∧definerF o (i:Int)=(k:Int):=by
 have hkl:=(List.getElem?_eq_some_iff.1 hx).1
 obtain ⟨hs,-⟩:=obj_zero h
 have h1:=hs k hkl
 rw [symE_at hx] at h1
 obtain ⟨hkb,hdf⟩:=symX_zero h1
 have hdf:x.fDef=(aheadN x (o.fSymbols.take k):Int)∧x.fDef<(mostN o x:Int):=by omega
 have hsort:x.fSort=1∨x.fSort=2:=by
  unfold kindB at hkb
  simp only [Bool.or_eq_false_iff,Bool.and_eq_false_iff,decide_eq_false_iff_not] at hkb
  omega
 obtain ⟨n,hn⟩:=Int.eq_ofNat_of_zero_le hd
 have hm:=hdf.2
 unfold mostN at hm
 obtain ⟨i,hi,hp⟩:∃ i:Nat,i<o.fFuncs.length+o.fDatas.length∧definesF o (i:Int) x=true:=by
  rcases hsort with e | e
  · rw [if_neg ZO] at hm
    refine ⟨n,by omega,?_⟩
    unfold definesF itemsF
    rw [if_neg ZO,if_pos ZO,decide_eq_true e,decide_eq_true hn];rfl
  · rw [if_pos e] at hm
    refine ⟨o.fFuncs.length+n,by omega,?_⟩
    unfold definesF itemsF
    rw [if_neg ZO,if_neg ZO,decide_eq_true e,decide_eq_true (show x.fDef=((o.fFuncs.length+n:Nat):Int)-(o.fFuncs.length:Int) by omega)];rfl
 refine ⟨i,hi,idxI_stop (fun y hy=>?_) hx hp⟩
 rw [Bool.eq_false_iff]
 intro hpy
 obtain ⟨j,hj⟩:=List.mem_iff_getElem?.1 hy
 have hjk:j<k:=by
  have:=(List.getElem?_eq_some_iff.1 hj).1
  rw [List.length_take] at this;omega
 rw [List.getElem?_take,if_pos hjk] at hj
 obtain ⟨es,ed⟩:=defines_same hp hpy
 have h2:=hs j ZO
 rw [symE_at hj] at h2
 have h3:=(symX_zero h2).2
 have h4:aheadN y (o.fSymbols.take j)=aheadN x (o.fSymbols.take j):=by unfold aheadN aheadP;rw [es]
 have h5:=ahead_mono x o.fSymbols (show j+1≤k by omega)
 rw [ahead_succ x hj,if_pos (by unfold aheadP;rw [decide_eq_true es,decide_eq_true (show y.fDef≠-1 by omega)];rfl)] at h5
 omega
theorem cnt_end {o:ApiObject}(h:objE o=0) {k:Nat}{x:ApiSymbol}(hx:o.fSymbols[k]?=some x):cntP o (o.fFuncs.length+o.fDatas.length) k=if 0≤x.fDef then 1 else 0:=by
 have h1:cntP o (o.fFuncs.length+o.fDatas.length) k≤1:=filt_le1 (fun i j hi hj=>by
  have:=defines_one (definer_is hx (of_decide_eq_true hi)) (definer_is hx (of_decide_eq_true hj))
  omega) _
 by_cases hd:0≤x.fDef
 · rw [if_pos hd]
   obtain ⟨i,hi,hp⟩:=sym_item h hx hd
   have h2:1≤cntP o (o.fFuncs.length+o.fDatas.length) k:=filt_pos hi (decide_eq_true hp)
   omega
 · rw [if_neg hd]
   exact filt_zero (fun i hi=>decide_eq_false (fun e=>hd (defines_pos (definer_is hx e))))
theorem cntL_set2 {o:ApiObject}{m k:Nat}(hk:k<o.fSymbols.length) (h:definerF o (m:Int)=(k:Int)):(cntL o m).set k ((cntP o m k+1:Nat):Int)=cntL o (m+1):=cntL_set hk h
theorem objectPairs {B:Base}{w:World}(hS:St B [] w) (o:ApiObject) (oc:List Value) (ho:kApiObject.K B.e o oc) (hv:vApiObject o) :
 CW 4 #[.agg oc.toArray] w (Ret B (fun _:Unit=>True) (fun _=>.bool true) (fun _=>[])):=by
 obtain ⟨A0,c0,A1,c1,A2,c2,rfl,m0,q0,m1,q1,m2,q2⟩:=kApiObject_open ho
 have hit:itemsF o=(o.fFuncs.length:Int)+(o.fDatas.length:Int):=rfl
 refine ZX Tryz.func4 hS ?_
 refine Zh (Zi (oBox J ZP (fun b1=>?_)))
 refine Zp J (Zn (Za (Zh (Zh (Zi (Zla ?_))))))
 (refine ZC0 rfl ZK (fun w hS=>frame hS ZQ (fun B' hB hS'=>ref19_Few hS' o _ (kApiObject.K_grow hB ho))) ?_;rintro r10 hr10)
 refine Zno ?_
 refine Zn (Za (wC (fun h11=>?_) (fun h11=>?_)))
 refine Zh (Zi ?_)
 (refine ZC0 rfl ZK (fun w hS=>frame hS ZQ (fun B' hB hS'=>known19 hS')) ?_;rintro ⟨⟩ -)
 refine Zp J (Zn (Za (Zl (Zzb ?_))))
 exact ⟨(),trivial,rfl,Lh⟩
 have hg:GoodO o:=few_good hv (hr10 (by simpa using h11))
 have hn0:=hg.syms
 have hn1:=hg.funcs
 have hn2:=hg.datas
 refine Zj (Za (Zh (Zh (Zi (Zla ?_)))))
 (refine ZC0 rfl ZK (fun w hS=>frame hS ZQ (fun B' hB hS'=>obj_Check hS' o _ (kApiObject.K_grow hB ho) hg)) ?_;rintro ⟨⟩ -)
 refine Zo J (oExt J ZP ?_)
 refine oExt J ZP ?_
 refine Zp J (Zp J (Zn (Za (Zh (Zi (Zo J (Z0 J J (Zn (Za (wC (fun h19=>?_) (fun h19=>?_)))))))))))
 refine Zh (Zi ?_)
 (refine ZC0 rfl ZK (fun w hS=>frame hS ZQ (fun B' hB hS'=>known19 hS')) ?_;rintro ⟨⟩ -)
 refine Zp J (Zn (Za (Zl (Zzb ?_))))
 exact ⟨(),trivial,rfl,Lh⟩
 have hz0:objE o=0:=Classical.not_not.1 h19
 have hz:=obj_zero hz0
 refine Zj (Za (Zh (Zi (Zz (n:=0) (m:=0) J J J (Zld ?_)))))
 refine Zv J J (oMake (kd:=Kd.int .i64) (W:=B.e) 0 J J J J J J ZO J (fun g24=>?_))
 rw [← cntL_zero]
 refine Zp J (Zn (Za (Zh (Zh (Zi (Zp J (Zn (Za (Zk (wLoop (ι:=Nat) (fun m=>[(1,.pointer (some ⟨b1,0,none⟩)),(5,(.slice (some ⟨g24,0,none⟩) o.fSymbols.length o.fSymbols.length)),(6,.int .i64 (m:Int))]) (fun m=>[blk b1 26 [.slice A0 o.fSymbols.length c0,.slice A1 o.fFuncs.length c1,.slice A2 o.fDatas.length c2],row (Kd.int .i64) B.e 3 (.slice (some ⟨g24,0,none⟩) o.fSymbols.length o.fSymbols.length) (cntL o m)]) (fun m=>m≤o.fFuncs.length+o.fDatas.length) (fun m=>o.fFuncs.length+o.fDatas.length-m) 0 ?_ cv (Leads.has ZQ) ?_))))))))))
 exact Nat.zero_le _
 rintro m hm
 try dsimp only
 refine Zh (Zh (Zi (Zo J (Zla ?_))))
 (refine ZC0 rfl ZK (fun w hS=>frame hS ZQ (fun B' hB hS'=>obj_Items hS' o _ (kApiObject.K_grow hB ho) hg)) ?_;rintro ⟨⟩ -)
 refine Zx J J (Zn (Za (wC (fun h28=>?_) (fun h28=>?_))))
 obtain ⟨k,hk,hkl⟩:=item_def (hz.2 m ZO)
 have hcp:=cntP_le o m k
 have hcl:=cntL_len o m
 refine Zj (Za (Zh (Zk (Zh (Zi (Zla ?_))))))
 refine Zo J ?_
 (refine ZC0 rfl ZK (fun w hS=>frame hS ZQ (fun B' hB hS'=>obj_Definer hS' o _ (kApiObject.K_grow hB ho) hg (m:Int))) ?_;rintro ⟨⟩ -)
 rw [hk]
 refine Zp J (Zn (Za (Zh (Zh (Zi (Zo J (Zx J J ?_)))))))
 refine ZS0 (t:=35) (v':=.bool false) rfl (by first | rfl | (congr 1;exact decide_eq_false ZO)) ?_
 refine Zo J (Zq J J (Zo J (Zq J J (Zo J (Zq J J (Zv J J (Zq J J (Z2 J J ?_))))))))
 refine ZS0 (t:=40) (v':=.bool false) rfl (by first | rfl | (congr 1;exact decide_eq_false ZO)) ?_
 refine Zu J J (Zn (Za (wCondF J (Zj (Za (Zi (Zo J (Zo J (ZR J J ZP ZO J J (fun g44 hg44=>?_))))))))))
 first | subst hg44 | (injection hg44 with hg44;injection hg44 with hg44;subst hg44)
 refine ZR1 J ZP ZO J (fun u45 hu45=>?_)
 obtain rfl:u45=(cntP o m k:Int):=(Option.some.inj ((cntL_at hkl).symm.trans hu45)).symm
 refine Zsu ?_
 refine ZR J J ZP ZO J J (fun g47 hg47=>?_)
 first | subst hg47 | (injection hg47 with hg47;injection hg47 with hg47;subst hg47)
 refine oStR _ J J J J ZP (by first | omega | (simp only [List.length_set];omega)) ?_
 refine Zn (Zd (Za (Zi (Zo J (Zsu ?_)))))
 refine Zp J (Zn (Za ?_))
 exact ⟨rfl,m+1,by omega,by omega,cv,by rw [← cntL_set2 hkl hk];exact Lh⟩
 obtain rfl:m=o.fFuncs.length+o.fDatas.length:=by omega
 refine Zm (Zb (Zb (Ze (Za (Zh (Zh (Zi (Zp J (Zn (Za (Zk (wLoop (ι:=Nat) (fun k=>[(1,.pointer (some ⟨b1,0,none⟩)),(5,(.slice (some ⟨g24,0,none⟩) o.fSymbols.length o.fSymbols.length)),(8,.int .i64 (k:Int))]) (fun k=>[blk b1 26 [.slice A0 o.fSymbols.length c0,.slice A1 o.fFuncs.length c1,.slice A2 o.fDatas.length c2],row (Kd.int .i64) B.e 3 (.slice (some ⟨g24,0,none⟩) o.fSymbols.length o.fSymbols.length) (cntL o (o.fFuncs.length+o.fDatas.length))]) (fun k=>k≤o.fSymbols.length) (fun k=>o.fSymbols.length-k) 0 ?_ cv (Leads.has ZQ) ?_))))))))))))
 exact Nat.zero_le _
 rintro k hk
 try dsimp only
 refine Zh (Zh (Zi (Zo J (Zo J (Zv J J (Zx J J (Zn (Za (wC (fun h51=>?_) (fun h51=>?_))))))))))
 obtain ⟨x,hx⟩:∃ x,o.fSymbols[k]?=some x:=⟨_,List.getElem?_eq_getElem ZO⟩
 obtain ⟨e1,cs1,hE⟩:=q0.elm hx
 obtain rfl:=kApiSymbol_open hE.K
 have hce:=cnt_end hz0 hx
 have hcl:=cntL_len o (o.fFuncs.length+o.fDatas.length)
 refine Zj (Za (Zh (Zk (Zh (wDrawG J [0,1,2,3,4,5,6,7,8,9,10,11,12,13,14,15,16,17,18,19] [] [] 24 ZK J J (fun w0=>?_))))))
 refine Zo J (Zo J (ZR J J ZP ZO J J (fun g56 hg56=>?_)))
 first | subst hg56 | (injection hg56 with hg56;injection hg56 with hg56;subst hg56)
 refine ZR1 J ZP ZO J (fun u57 hu57=>?_)
 have h57:u57=(cntP o (o.fFuncs.length+o.fDatas.length) k:Int):=(Option.some.inj ((cntL_at (show k<o.fSymbols.length by omega)).symm.trans hu57)).symm
 refine Zy J J (Zz (n:=0) (m:=0) J J J (Zld ?_))
 refine Zo J (oIdxE J J (hE) ZO J J ?_)
 have hc62:=(hE).cell
 refine ZF (ZT 4) (ZT 4) ?_
 refine Zlx hc62 ?_
 refine Z2 J J (oNeqBool J J J ?_)
 refine ZS0 (t:=66) (v':=.bool false) rfl (by rw [h57,hce];by_cases hq:0≤x.fDef <;> simp [hq] <;> omega) ?_
 refine Zo J (Zq J J (Zo J (Zq J J (Zo J (Zq J J (ZR J J ZP ZO J J (fun g70 hg70=>?_)))))))
 first | subst hg70 | (injection hg70 with hg70;injection hg70 with hg70;subst hg70)
 refine Zq J J (ZR1 J ZP ZO J (fun u71 hu71=>?_))
 have h71:u71=(cntP o (o.fFuncs.length+o.fDatas.length) k:Int):=(Option.some.inj ((cntL_at (show k<o.fSymbols.length by omega)).symm.trans hu71)).symm
 refine Zq J J (Z1 J J ?_)
 refine ZS0 (t:=72) (v':=.bool false) rfl (by rw [h71,hce];by_cases hq:0≤x.fDef <;> simp [hq]) ?_
 refine Zu J J (Z6 (Zn (Za (wCondF J (Zj (Zd (Za (Zi (Zo J (Zsu ?_))))))))))
 refine Zp J (Zn (Za ?_))
 exact ⟨rfl,k+1,by omega,by omega,cv,Lh⟩
 refine Zm (Zb (Zb (Ze (Za (Zh (Zi ?_))))))
 (refine ZC0 rfl ZK (fun w hS=>frame hS ZQ (fun B' hB hS'=>known19 hS')) ?_;rintro ⟨⟩ -)
 refine Zp J (Zza ?_)
 exact ⟨(),trivial,rfl,Lh⟩
end Go.Proofs.YtafiabekcekdbaaGreatO
