/-
  Part 4 of the proof of FileTold: contracts of functions, and what follows from them; without conditions.
-/
import Derived.Test.YtpmdhkjbhjgoaaaGreatFileTold3
import Derived.Laws.StructEq
set_option linter.unusedVariables false
set_option linter.unusedSimpArgs false
set_option linter.defProp false
namespace Go.Proofs.YtpmdhkjbhjgoaaaGreatO
set_option maxRecDepth 100000
set_option maxHeartbeats 4000000
open Go.RowKit Go.Proofs.YtpmdhkjbhjgoaaaGreatK Go.Proofs.YtpmdhkjbhjgoaaaGreatT Go.Proofs.YtpmdhkjbhjgoaaaGreatL Go.Proofs.YtpmdhkjbhjgoaaaGreatV Go.Proofs.YtpmdhkjbhjgoaaaGreatG Go.Proofs.YtpmdhkjbhjgoaaaGreatW

theorem rng_In {B:Base}{w:World}(hS:St B [] w) (f:ApiFunc) (fc:List Value) (hf:kApiFunc.K B.e f fc) (i:Int) :
 CW 131 #[.agg fc.toArray,.int .i64 i] w (Ret B (fun _:Unit=>True) (fun _=>.bool (inR f i)) (fun _=>[])):=by
 obtain ⟨A0,c0,A1,c1,A2,c2,A3,c3,rfl,l0,g0,l1,g1,l2,g2,l3,g3⟩:=kApiFunc_open hf
 refine ZX Tryz.func131 hS ?_
 refine Zh (Zi (oBox J ZP (fun b2=>?_)))
 refine Zp J (Zn (Za (Zh (Zi (Zz (n:=4) (m:=4) J J J (Zld ?_))))))
 refine Zo J (oLeq J J (Zo J (ZS (ZT 9) (fun h9=>?_) (fun h9=>?_))))
 refine Zq J J (Zo J (Zq J J (Zz (n:=5) (m:=5) J J J (Zzg ?_))))
 refine Zq J J (Zx J J (Zt J J (Zzh ?_)))
 exact ⟨(),trivial,by simp_all [resVal,inR] <;> omega,Lh⟩
 refine Zr J J J J (Zzo ?_)
 exact ⟨(),trivial,by simp_all [resVal,inR] <;> omega,Lh⟩
theorem rng_Marks {B:Base}{w:World}(hS:St B [] w) (A:Option Addr) (cp:Nat) (code:List ApiInstr) (hC:kApiInstr.C B.e A code) (hl:code.length≤100000) (W0:World) :
 CW 162 #[.slice A code.length cp] w (Ret B (fun _:Option Addr×Nat=>True) (fun z=>.slice z.1 (dfr code code.length).length z.2) (fun z=>[row (Kd.int .i64) W0 3 (.slice z.1 (dfr code code.length).length z.2) (dfr code code.length)])):=by
 refine ZX Tryz.func162 hS ?_
 refine Zh (Zi (Zp J (Zn (Za (Zh (Zi (Zp J (Zn (Za (Zh (Zh (Zi (Zo J (Zv J J (Zo J (Zn (Za (Zk (wLoop (ι:=Nat×Option Addr×Nat) (fun z=>[(3,.slice z.2.1 (dfr code z.1).length z.2.2),(6,.slice A code.length cp),(7,.int .i64 (code.length:Int)),(8,.int .i64 (z.1:Int))]) (fun z=>[row (Kd.int .i64) W0 3 (.slice z.2.1 (dfr code z.1).length z.2.2) (dfr code z.1)]) (fun z=>z.1≤code.length) (fun z=>code.length-z.1) (0,none,0) ?_ cv (Leads.nilrow.trans Lh) ?_)))))))))))))))))))
 exact Nat.zero_le _
 rintro ⟨i,A2,c2⟩ hi
 dsimp only at hi
 have hle:=dfr_len code i
 try dsimp only
 refine Zh (Zi (Zx J J (Zn (Za (Zh (wC (fun h9=>?_) (fun h9=>?_)))))))
 obtain ⟨x,hx⟩:∃ x,code[i]?=some x:=⟨_,List.getElem?_eq_getElem ZO⟩
 obtain ⟨e1,cs1,hE⟩:=hC.elm hx
 obtain rfl:=kApiInstr_open hE.K
 have hdp:=dP_at hx
 refine Zj (Za (Zh (Zk (Zh (Zi (Zo J (oIdxE J J (hE) ZO J J ?_)))))))
 have hc11:=(hE).cell
 refine Zlx hc11 ?_
 refine oAlloc J ZP (fun b5=>?_)
 refine Zp J (Zsa ?_)
 refine Zn (Za (Zh (Zi (Zz (n:=0) (m:=0) J J J (Zld ?_)))))
 refine Zy J J (Zn (Za (wC (fun h15=>?_) (fun h15=>?_))))
 refine Zi (Zo J (Zo J (oBuildSlice1 J J J J J ZP J (fun b18=>?_))))
 refine oApp1 (i:Int) J J J J ZP ZP J ZO J (fun g19 cp19=>?_)
 have hft:dfr code (i+1)=dfr code i++[(i:Int)]:=by rw [dfr_succ,hdp,if_pos (by simpa using h15)]
 rw [show (dfr code i).length+1=(dfr code (i+1)).length by rw [hft,List.length_append];rfl,← hft]
 refine Zp J (Zn (Zze ?_))
 refine Zo J (Zn (Za ?_))
 exact ⟨rfl,(i+1,some ⟨g19,0,none⟩,cp19),by show i+1≤_;omega,by show code.length-(i+1)<code.length-i;omega,cv,Lh⟩
 refine Zj (Zze ?_)
 refine Zo J (Zn (Za ?_))
 have hft:dfr code (i+1)=dfr code i:=by rw [dfr_succ,hdp,if_neg (by simpa using h15),List.append_nil]
 exact ⟨rfl,(i+1,A2,c2),by show i+1≤_;omega,by show code.length-(i+1)<code.length-i;omega,by dsimp only;rw [hft];exact cv,by dsimp only;rw [hft];exact Lh⟩
 obtain rfl:i=code.length:=by omega
 refine Zm (Zb (Zb (Ze (Zzq ?_))))
 exact ⟨(A2,c2),trivial,rfl,Lh⟩
theorem compact_le (zs:List Int):(Lib.compact zs).length≤zs.length:=by
 unfold Lib.compact Lib.compactUpTo
 rw [List.length_map]
 exact Nat.le_trans (List.length_filter_le _ _) (by simp)
theorem nextF_len (code:List ApiInstr) (i:Int):(nextF code i).length≤2:=by
 unfold nextF nextL
 split
 · simp
 · refine Nat.le_trans (compact_le _) ?_
   rw [List.length_mergeSort]
   exact nextR_len _ _
theorem mem_next {x:ApiInstr}{i y:Int} : y ∈ nextL x i↔y ∈ Go.Proofs.YtpmdhkjbhjgoaaaGreatV.rnext x i:=by
 have h:=rnext_any x i (fun z=>decide (z=y))
 have e:∀ l:List Int,y ∈ l↔l.any (fun z=>decide (z=y))=true:=fun l=>by simp
 rw [show (y ∈ nextL x i)=(y ∈ nextR x i) from propext ((sorted_spec _).2 y),e,e,h]
theorem nextF_at {code:List ApiInstr}{k:Nat}(hk:k<code.length):nextF code (k:Int)=nextL (code.getD k default) (k:Int):=by
 unfold nextF
 rw [if_neg ZO,Int.toNat_natCast]
def fromP (code:List ApiInstr) (ks:List Nat):List Int:=(ks.map fun k:Nat=>nextF code (k:Int)).flatten
theorem fromP_len (code:List ApiInstr):∀ marks:List Nat,(fromP code marks).length≤2 * marks.length
 | []=>by simp [fromP]
 | k :: marks=>by
  have h:=fromP_len code marks
  have h2:=nextF_len code (k:Int)
  unfold fromP at *
  rw [List.map_cons,List.flatten_cons,List.length_append,List.length_cons]
  omega
theorem fromP_snoc (code:List ApiInstr) (marks:List Nat) (k:Nat):fromP code (marks++[k])=fromP code marks++nextF code (k:Int):=by
 unfold fromP;simp
theorem mem_fromP {code:List ApiInstr}{ks:List Nat}(hk:∀ k ∈ ks,k<code.length) {y:Int} : y ∈ fromP code ks↔y ∈ fromL code ks:=by
 unfold fromP fromL
 simp only [List.mem_flatten,List.mem_map]
 constructor
 · rintro ⟨l,⟨k,h1,rfl⟩,h2⟩
   rw [nextF_at (hk k h1)] at h2
   exact ⟨_,⟨k,h1,rfl⟩,mem_next.1 h2⟩
 · rintro ⟨l,⟨k,h1,rfl⟩,h2⟩
   exact ⟨_,⟨k,h1,rfl⟩,by rw [nextF_at (hk k h1)];exact mem_next.2 h2⟩
theorem graph_ends {code:List ApiInstr}{a:Nat}{b:Int} : b ∈ endsOf (graphF code) a↔b ∈ endsOf (rg code) a:=by
 unfold endsOf
 rw [List.mem_filter,List.mem_filter,show inG (graphF code) b=inG (rg code) b by unfold inG;rw [graphF_len,rg_len]]
 by_cases ha:a<code.length
 · rw [show (graphF code).getD a [] = nextF code (a : Int) by unfold graphF; rw [List.getD_eq_getElem?_getD, List.getElem?_map, List.getElem?_range ha]; rfl,
    show (rg code).getD a []=Go.Proofs.YtpmdhkjbhjgoaaaGreatV.rnext (code.getD a default) (a:Int) by unfold rg;rw [List.getD_eq_getElem?_getD,List.getElem?_map,List.getElem?_range ha];rfl,nextF_at ha,mem_next]
 · rw [List.getD_eq_getElem?_getD,List.getD_eq_getElem?_getD,List.getElem?_eq_none (by rw [graphF_len];omega),List.getElem?_eq_none (by rw [rg_len];omega)]
theorem RP_same {code:List ApiInstr}{ks:List Nat}(hk:∀ k ∈ ks,k<code.length) {y:Int} : RP (graphF code) (fromP code ks) y↔RP (rg code) (fromL code ks) y:=
 ⟨RP_congr (by rw [graphF_len,rg_len]) (fun a b=>graph_ends.1) (fun x _=>(mem_fromP hk).1),RP_congr (by rw [graphF_len,rg_len]) (fun a b=>graph_ends.2) (fun x _=>(mem_fromP hk).2)⟩
theorem gf_small {code:List ApiInstr}(h:code.length≤1000):SmallG (graphF code):=by
 refine ⟨by rw [graphF_len];exact h,fun l hl=>?_⟩
 unfold graphF at hl
 obtain ⟨k,_,rfl⟩:=List.mem_map.1 hl
 exact Nat.le_trans (nextF_len _ _) (by decide)
theorem flow_After {B:Base}{w:World}(hS:St B [] w) (A:Option Addr) (cp:Nat) (code:List ApiInstr) (hC:kApiInstr.C B.e A code) (hl:code.length≤1000) (A1:Option Addr) (cp1:Nat) (ks:List Nat) (hC1:(Kd.int .i64).C B.e A1 (ks.map fun k=>((k:Nat):Int))) (hk:∀ k ∈ ks,k<code.length) (hn:ks.length≤500) (W0:World) :
 CW 161 #[.slice A code.length cp,.slice A1 ks.length cp1] w
  (Ret B (fun z:Option Addr×Nat×List Bool=>z.2.2.length=code.length∧∀ i:Nat,z.2.2[i]?=some true↔RP (rg code) (fromL code ks) (i:Int)) (fun z=>.slice z.1 code.length z.2.1) (fun z=>[row Kd.bool W0 4 (.slice z.1 code.length z.2.1) z.2.2])):=by
 refine ZX Tryz.func161 hS ?_
 refine Zh (Zi (Zp J (Zn (Za (Zh (Zi (Zp J (Zn (Za (Zh (Zh (Zi (Zo J (Zv J J (Zo J (Zn (Za (Zk (wLoop (ι:=Nat×Option Addr×Nat) (fun z=>[(0,.slice A code.length cp),(5,.slice z.2.1 (fromP code (ks.take z.1)).length z.2.2),(8,.slice A1 ks.length cp1),(9,.int .i64 (ks.length:Int)),(10,.int .i64 (z.1:Int))]) (fun z=>[row (Kd.int .i64) W0 3 (.slice z.2.1 (fromP code (ks.take z.1)).length z.2.2) (fromP code (ks.take z.1))]) (fun z=>z.1≤ks.length) (fun z=>ks.length-z.1) (0,none,0) ?_ cv (Leads.nilrow.trans Lh) ?_)))))))))))))))))))
 exact Nat.zero_le _
 rintro ⟨i,A2,c2⟩ hi
 dsimp only at hi
 have hle:=fromP_len code (ks.take i)
 rw [List.length_take] at hle
 try dsimp only
 refine Zh (Zi (Zx J J (Zn (Za (Zh (wC (fun h11=>?_) (fun h11=>?_)))))))
 obtain ⟨k,hki⟩:∃ k,ks[i]?=some k:=⟨_,List.getElem?_eq_getElem ZO⟩
 have hkl:=hk k (List.mem_of_getElem? hki)
 obtain ⟨e1,cs1,hE⟩:=hC1.elm (i:=i) (u:=(k:Int)) (by rw [List.getElem?_map,hki];rfl)
 obtain rfl:=(show cs1=[Value.int .i64 (k:Int)] from hE.K)
 have hft:fromP code (ks.take (i+1))=fromP code (ks.take i)++nextF code (k:Int):=by rw [List.take_add_one,hki];show fromP code (ks.take i++[k])=_;rw [fromP_snoc]
 have hrl:=nextF_len code (k:Int)
 refine Zj (Za (Zh (Zk (Zh (Zi (oIdxE J J (hE) ZO J J ?_))))))
 have hc12:=(hE).cell
 refine Zlx hc12 ?_
 refine Zp J (Zn (Za (Zi (Zo J (Zo J (Zo J ?_))))))
 (refine ZC0 rfl ZK (fun w hS=>frame hS ZQ (fun B' hB hS'=>flow_Next hS' A cp code (Kd.C_grow hB hC) (k:Int) W0)) ?_;rintro ⟨A17,c17⟩ -)
 refine oAppA (kd:=Kd.int .i64) (W:=W0) (xs:=fromP code (ks.take i)) (ys:=nextF code (k:Int)) J J J J ZP J (fun w hw=>src_row (e:=3) (n:=(nextF code (k:Int)).length) (cp:=c17) (hw.get ZP)) ZO J (fun A18 c18 hc18=>?_)
 rw [← hft,show (fromP code (ks.take i)).length+(nextF code (k:Int)).length=(fromP code (ks.take (i+1))).length by rw [hft,List.length_append]]
 refine Zp J (Zn (Zze ?_))
 refine Zo J (Zn (Za ?_))
 exact ⟨rfl,(i+1,A18,c18),by show i+1≤_;omega,by show ks.length-(i+1)<ks.length-i;omega,cv,Lh⟩
 obtain rfl:i=ks.length:=by omega
 rw [List.take_length] at *
 refine Zm (Zb (Zb (Ze (Za (Zzi ?_)))))
 (refine ZC0 rfl ZK (fun w hS=>frame hS ZQ (fun B' hB hS'=>flow_graph hS' A cp code (Kd.C_grow hB hC) ZO B.e)) ?_;rintro ⟨A21,c21,hs21⟩ hl21)
 refine ZS0 (t:=21) (v':=.slice A21 (graphF code).length c21) rfl (by rw [graphF_len]) ?_
 refine Zo J ?_
 (refine ZD J (fun w B' hB hR hS'=>reach_any hS' (graphF code) A21 c21 (grid_C (hR _ _ ZP) (hR _ _ ZP) (by rw [graphF_len];exact hl21) hB) (gf_small hl) (fromP code ks) A2 c2 (row_Cs (W:=W0) (e:=3) (n:=(fromP code ks).length) (cp:=c2) (hR _ _ ZP)) ZO W0) ?_;rintro ⟨A23,c23,l23⟩ ⟨h23a,h23b⟩)
 dsimp only at h23a h23b ⊢
 rw [graphF_len] at h23a ⊢
 refine Zp J (Zza ?_)
 exact ⟨(A23,c23,l23),⟨h23a,fun i=>(h23b i).trans (RP_same hk)⟩,rfl,Lh⟩
open Classical in
noncomputable def pP (code:List ApiInstr) (k:Nat):Bool:=decide (RP (rg code) (fromL code (dfrN code)) (k:Int))
open Classical in
theorem pP_iff {code:List ApiInstr}{k:Nat} : pP code k=true↔RP (rg code) (fromL code (dfrN code)) (k:Int):=by unfold pP;exact decide_eq_true_iff
theorem pP_no {code:List ApiInstr}{k:Nat}(h:¬ RP (rg code) (fromL code (dfrN code)) (k:Int)):pP code k=false:=Bool.eq_false_iff.2 (fun e=>h (pP_iff.1 e))
noncomputable def pFrom (code:List ApiInstr) (i:Nat):List Int:=(((List.range code.length).drop i).filter (pP code)).map fun k:Nat=>(k:Int)
theorem pn_T {code:List ApiInstr}{i:Nat}(hi:i<code.length) (h:pP code i=true):pFrom code i=(i:Int) :: pFrom code (i+1):=by
 unfold pFrom
 rw [List.drop_eq_getElem_cons (by simpa using hi),List.getElem_range,List.filter_cons,if_pos h,List.map_cons]
theorem pn_F {code:List ApiInstr}{i:Nat}(hi:i<code.length) (h:pP code i=false):pFrom code i=pFrom code (i+1):=by
 unfold pFrom
 rw [List.drop_eq_getElem_cons (by simpa using hi),List.getElem_range,List.filter_cons,if_neg (by rw [h];simp)]
theorem pn_end (code:List ApiInstr):pFrom code code.length=[]:=by unfold pFrom;rw [List.drop_of_length_le (by simp)];rfl
theorem mem_pn {code:List ApiInstr}{x:Int} : x ∈ pFrom code 0↔∃ k:Nat,x=(k:Int)∧k<code.length∧RP (rg code) (fromL code (dfrN code)) (k:Int):=by
 unfold pFrom
 rw [List.drop_zero]
 simp only [List.mem_map,List.mem_filter,List.mem_range]
 constructor
 · rintro ⟨k,⟨h1,h2⟩,rfl⟩;exact ⟨k,rfl,h1,pP_iff.1 h2⟩
 · rintro ⟨k,rfl,h1,h2⟩;exact ⟨k,⟨h1,pP_iff.2 h2⟩,rfl⟩
theorem pending_any {B:Base}{w:World}(hS:St B [] w) (A:Option Addr) (n cp:Nat) :
 CW 130 #[.slice A n cp] w (Ret B (fun _:Nat=>True) (fun b=>.func (.func 160) #[] #[.pointer (some ⟨b,0,none⟩)]) (fun b=>[blk b 48 [.slice A n cp]])):=by
 refine ZX Tryz.func130 hS ?_
 refine Zh (Zi (oBox J ZP (fun b1=>?_)))
 refine Zp J (Zn (Za (Zh (Zi (oMakeFunc J (Zzh ?_))))))
 exact ⟨b1,trivial,rfl,Lh⟩
theorem pending1 {B:Base}(A:Option Addr) (cp:Nat) (code:List ApiInstr) (hC:kApiInstr.C B.e A code) (hl0:code.length≤500) (x1:Nat) :
 IterC Tryz.prog 160 #[.pointer (some ⟨x1,0,none⟩)] B ((pFrom code 0).map intV) [blk x1 48 [.slice A code.length cp]]:=by
 have hdl:(dfrN code).length≤500:=Nat.le_trans (List.length_filter_le _ _) (by simpa using hl0)
 intro lp AI Ax r0 w hbody hA hS
 show CW 160 #[.func (.yield lp) #[] #[],.pointer (some ⟨x1,0,none⟩)] w _
 refine ZX Tryz.func160 hS ?_
 refine Zh (wDrawG J [0,1,5] [(2,[0,5],[]),(3,[5],[4])] [] 24 ZK J J (fun w0=>?_))
 refine Zld ?_
 refine Zld ?_
 refine Zo J (Z4 (Z5 J ?_))
 (refine ZC0 rfl ZK (fun w hS=>frame hS ZQ (fun B' hB hS'=>rng_Marks hS' A cp code (Kd.C_grow hB hC) ZO B.e)) ?_;rintro ⟨A7,c7⟩ -)
 refine ZS0 (t:=7) (v':=.slice A7 (dfrN code).length c7) rfl (by rw [dfr_N,List.length_map]) ?_
 refine ZG ?_ J (fun w0=>?_)
 refine Z8 J J J J (fun w0=>?_) ?_
 refine Zld ?_
 exact Z9 rfl
 refine Z8 J J J J (fun w0=>?_) ?_
 refine Zo J ?_
 exact Z9 rfl
 exact AgainG.nil
 refine Z4 (Z5 J ?_)
 (refine ZD J (fun w B' hB hR hS'=>flow_After hS' A cp code (Kd.C_grow hB hC) ZO A7 c7 (dfrN code) (row_Cs (W:=B.e) (e:=3) (n:=(dfr code code.length).length) (cp:=c7) (hR _ _ ZP)) (fun k hk=>dfrN_lt hk) hdl B.e) ?_;rintro ⟨A8,c8,l8⟩ ⟨h8a,h8b⟩)
 dsimp only at h8a h8b
 refine ZG ?_ J (fun w0=>?_)
 refine Z8 J J J J (fun w0=>?_) ?_
 refine Zo J ?_
 exact Z9 rfl
 exact AgainG.nil
 refine Zv J J (Z6 (Zn (Za (Zk (wLoop (ι:=Nat×Nat×Res) (fun z=>[(0,.func (.yield lp) #[] #[]),(1,.pointer (some ⟨x1,0,none⟩)),(8,.slice A8 code.length c8),(9,.int .i64 (code.length:Int)),(10,.int .i64 (z.1:Int))]) (fun z=>[z.2.2,blk x1 48 [.slice A code.length cp],row Kd.bool B.e 4 (.slice A8 code.length c8) l8]) (fun z=>z.1≤code.length∧z.2.1≤(pFrom code 0).length∧AI z.2.1 z.2.2∧(pFrom code 0).drop z.2.1=pFrom code z.1) (fun z=>code.length-z.1) (0,0,r0) ?_ cv (Leads.has ZQ) ?_)))))
 exact ⟨Nat.zero_le _,Nat.zero_le _,hA,rfl⟩
 rintro ⟨i,j,r⟩ ⟨hi,hj,hA,hd⟩
 dsimp only at hi hj hA hd
 try dsimp only
 refine Zh (Zi (Zx J J (Zn (Za (Zh (wC (fun h11=>?_) (fun h11=>?_)))))))
 have hil:i<code.length:=by omega
 refine Zj (Za (Zh (Zk (Zh (Zi (Zo J (ZR J J ZP ZO J J (fun g13 hg13=>?_))))))))
 first | subst hg13 | (injection hg13 with hg13;injection hg13 with hg13;subst hg13)
 refine ZR1 J ZP ZO J (fun u14 hu14=>?_)
 refine Zp J (Zp J (Zn (Za (Zh (Zi (Zo J (Zo J (ZS (ZT 16) (fun h16=>?_) (fun h16=>?_)))))))))
 have hct:pP code i=true:=pP_iff.2 ((h8b i).1 (by rw [hu14];simp_all))
 rw [pn_T hil hct] at hd
 obtain ⟨hjlt,hjg,hjd⟩:=drop_cons hd
 have hY:∀ Fr W1,St B (r :: Fr) W1→YieldAt Fence.wide 0 Tryz.prog lp (intV (i:Int)).toArray W1 (YEnd B j AI Ax Fr):=by
  intro Fr W1 h1
  have:=hbody j (by simpa using hjlt) r Fr W1 hA h1
  rwa [List.getElem_map,hjg] at this
 refine Zq J J (Zo J (Zq J J (Zo J (Zq J J (oYield J J J (fun w hS=>hY _ w (hS.perm (Pick.perm ZP))) ?_)))))
 rintro ⟨bb,r'⟩ hr'
 dsimp only at hr' ⊢
 refine Zq J J (Zno ?_)
 refine Zt J J (Zn (Za (wC (fun h21=>?_) (fun h21=>?_))))
 refine Zl (Zf (Zc (Zc (Zf (Zw ?_)))))
 refine ⟨rfl,_,ResL.nil,?_⟩
 exact ⟨r',.inr ⟨j,by simpa using hjlt,by rw [if_neg (by simpa using h21)] at hr';exact hr'⟩,rfl,Lh⟩
 refine Zj (Zze ?_)
 refine Zo J (Zn (Za ?_))
 exact ⟨rfl,(i+1,j+1,r'),⟨by show i+1≤_;omega,hjlt,by rw [if_pos (by simpa using h21)] at hr';exact hr',hjd⟩,by show code.length-(i+1)<code.length-i;omega,cv,Lh⟩
 refine Zr J J J J (Zr J J J J (Zr J J J J (Zr J J J J (Zu J J (Zn (Za (wCondF J (Zj (Zze ?_)))))))))
 refine Zo J (Zn (Za ?_))
 exact ⟨rfl,(i+1,j,r),⟨by show i+1≤_;omega,hj,hA,by rw [hd,pn_F hil (pP_no (fun hr=>by have:=(h8b i).2 hr;rw [hu14] at this;simp_all))]⟩,by show code.length-(i+1)<code.length-i;omega,cv,Lh⟩
 refine Zm (Zb (Zb (Ze (fin_n ?_))))
 refine ⟨rfl,_,ResL.nil,?_⟩
 have hjj:j=((pFrom code 0).map intV).length:=by
  obtain rfl:i=code.length:=by omega
  rw [pn_end] at hd
  have:=List.drop_eq_nil_iff.1 hd
  rw [List.length_map];omega
 exact ⟨r,.inl (hjj ▸ hA),rfl,Lh⟩
theorem rng_Check {B:Base}{w:World}(hS:St B [] w) (f:ApiFunc) (fc:List Value) (hf:kApiFunc.K B.e f fc) (hl0:f.fCode.length≤500) :
 CW 97 #[.agg fc.toArray] w (Ret B (fun _:Unit=>True) (fun _=>.int .i64 (rangeF f)) (fun _=>[])):=by
 obtain ⟨A0,c0,A1,c1,A2,c2,A3,c3,rfl,l0,g0,l1,g1,l2,g2,l3,g3⟩:=kApiFunc_open hf
 (refine enterM Tryz.func97 J J hS ?_;simp only [List.zipIdx_cons,List.zipIdx_nil,List.map_cons,List.map_nil,Nat.reduceAdd,Nat.zero_add])
 refine Zh (Zi (oBox J ZP (fun b1=>?_)))
 refine oAlloc J ZP (fun b2=>?_)
 refine Zn (Za (Zh (Zh (Zi (Zz (n:=7) (m:=7) J J J (Zld ?_))))))
 (refine ZC0 rfl ZK (fun w hS=>frame hS ZQ (fun B' hB hS'=>pending_any hS' A2 f.fCode.length c2)) ?_;rintro x1 -)
 refine Zn (Za (Zk ?_))
 refine wRange rfl rfl ZK (pending1 A2 c2 f.fCode g2 hl0 x1) (by rintro _ h;obtain ⟨y,_,rfl⟩:=List.mem_map.1 h;rfl) rfl (ι:=Nat) (κ:=Unit) (fun j z=>z=j∧∀ y ∈ (pFrom f.fCode 0).take z,inR f y=true) (fun z=>[blk b1 51 [.int .i64 f.fClass,.slice A0 f.fKinds.length c0,.int .i64 f.fPad,.bool f.fNosplit,.int .i64 f.fFrom,.int .i64 f.fTo,.slice A1 f.fLines.length c1,.slice A2 f.fCode.length c2,.slice A3 f.fRelocs.length c3],blk b2 30 [.int .i64 0]]) (fun x z=>x=.ret∧outR f) (fun x z=>[blk b1 51 [.int .i64 f.fClass,.slice A0 f.fKinds.length c0,.int .i64 f.fPad,.bool f.fNosplit,.int .i64 f.fFrom,.int .i64 f.fTo,.slice A1 f.fLines.length c1,.slice A2 f.fCode.length c2,.slice A3 f.fRelocs.length c3],blk b2 30 [.int .i64 9]]) 0 ⟨rfl,by simp⟩ (Leads.has ZQ) ?_ ?_ ?_
 intro lp0 B' R1 R2 j hj
 rintro i hB ⟨rfl,hn⟩
 have hf:=kApiFunc.K_grow hB hf
 have hj':i<(pFrom f.fCode 0).length:=by simpa using hj
 have htk:(pFrom f.fCode 0).take (i+1)=(pFrom f.fCode 0).take i++[(pFrom f.fCode 0)[i]]:=List.take_succ_eq_append_getElem hj'
 have hym:(pFrom f.fCode 0)[i] ∈ pFrom f.fCode 0:=List.getElem_mem hj'
 rw [List.getElem_map]
 generalize (pFrom f.fCode 0)[i]=y at *
 dsimp only [hand,intV]
 refine Zi (Zp J (Zn (aq_n ZP ?_)))
 refine Zk (Zh (Zi (Zla ?_)))
 refine Zo J ?_
 (refine ZC0 rfl ZK (fun w hS=>frame hS ZQ (fun B' hB hS'=>rng_In hS' f _ (kApiFunc.K_grow hB hf) y)) ?_;rintro ⟨⟩ -)
 refine Zno ?_
 refine Zn (Za (wC (fun h11=>?_) (fun h11=>?_)))
 refine Zh (Zi (Zst ?_))
 refine Zn (Za (Zl (Zf (rq_r ?_))))
 exact ⟨(),⟨rfl,by obtain ⟨k,rfl,h1,h2⟩:=mem_pn.1 hym;exact ⟨k,h1,h2,by simp_all⟩⟩,Lh⟩
 refine Zj (Zd (rq_n ?_))
 exact ⟨i+1,⟨rfl,by rw [htk];intro u hu;rcases List.mem_append.1 hu with h | h;exact hn u h;rw [List.mem_singleton.1 h];simp_all⟩,Lh⟩
 rintro i Dm0 ⟨rfl,hn⟩
 rw [List.length_map,List.take_length] at hn
 have ho:¬ outR f:=fun ⟨k,hk,hr,hb⟩=>by rw [hn _ (mem_pn.2 ⟨k,rfl,hk,hr⟩)] at hb;cases hb
 try dsimp only
 refine Zd (Za (Zh (Zi (Zst ?_))))
 refine Zn (Za (Zl ?_))
 refine finM_r (Ds:=[Dm0]) rfl ZQ (ResL.cons (by first | exact ResR.cell rfl ZP rfl | exact ResR.agg rfl ZP rfl rfl) ResL.nil) ?_
 first | exact ⟨(),trivial,by unfold rangeF;rw [if_neg ho];rfl,Lh⟩ | exact ⟨(),trivial,by unfold rangeF;rw [if_pos ho];rfl,Lh⟩
 rintro x ⟨⟩ Dm0 ⟨rfl,ho⟩
 try dsimp only
 refine Zl (Zf (Zc ?_))
 refine finM_r (Ds:=[Dm0]) rfl ZQ (ResL.cons (by first | exact ResR.cell rfl ZP rfl | exact ResR.agg rfl ZP rfl rfl) ResL.nil) ?_
 first | exact ⟨(),trivial,by unfold rangeF;rw [if_neg ho];rfl,Lh⟩ | exact ⟨(),trivial,by unfold rangeF;rw [if_pos ho];rfl,Lh⟩
theorem fst2 (a y:Int):fstE [a,y]=if a≠0 then a else y:=by
 have h:=fst_drop (l:=[a,y]) (i:=0) rfl
 have h2:=fst_drop (l:=[a,y]) (i:=1) rfl
 rw [List.drop_zero] at h
 rw [h,h2]
 by_cases h3:y=0
 · subst h3;simp [fstE]
 · rw [if_pos h3]
theorem fstW (b:Bool) (y:Int):fstE [whenF b 14,y]=if b=true then 14 else y:=by
 rw [fst2]
 unfold whenF
 cases b <;> simp
theorem obj_item {B:Base}{w:World}(hS:St B [] w) (o:ApiObject) (oc:List Value) (ho:kApiObject.K B.e o oc) (hg:GoodO o) (i:Nat) (hi:i<o.fFuncs.length+o.fDatas.length) :
 CW 52 #[.agg oc.toArray,.int .i64 (i:Int)] w (Ret B (fun _:Unit=>True) (fun _=>.int .i64 (itemE o i)) (fun _=>[])):=by
 obtain ⟨A0,c0,A1,c1,A2,c2,rfl,m0,q0,m1,q1,m2,q2⟩:=kApiObject_open ho
 have hn0:=hg.syms
 have hn1:=hg.funcs
 have hn2:=hg.datas
 refine ZX Tryz.func52 hS ?_
 refine Zh (Zi (oBox J ZP (fun b2=>?_)))
 refine Zp J (Zn (Zzk ?_))
 refine Zo J ?_
 (refine ZC0 rfl ZK (fun w hS=>frame hS ZQ (fun B' hB hS'=>obj_Definer hS' o _ (kApiObject.K_grow hB ho) hg (i:Int))) ?_;rintro ⟨⟩ -)
 refine Zp J (Zn (Za (Zh (Zh (Zi (Zo J (Zx J J (Zn (Za (wC (fun h15=>?_) (fun h15=>?_)))))))))))
 refine Zh (Zi (Zzb ?_))
 exact ⟨(),trivial,by unfold itemE;rw [if_pos h15];rfl,Lh⟩
 have h15:¬ definerF o (i:Int)<0:=h15
 obtain ⟨k,x,hk,hx,-⟩:=definer_at (show 0≤definerF o (i:Int) by omega)
 have hkl:=(List.getElem?_eq_some_iff.1 hx).1
 obtain ⟨e1,cs1,hE⟩:=q0.elm hx
 obtain rfl:=kApiSymbol_open hE.K
 have hdk:dKind o i=x.fKind:=by unfold dKind;rw [hk,Int.toNat_natCast,List.getD_eq_getElem?_getD,hx];rfl
 refine Zj (Za (Zh (Zh (Zi (Zo J (Zz (n:=1) (m:=1) J J J (Zld ?_)))))))
 refine Zv J J ?_
 first | refine oSub rfl rfl ZO ?_ | refine oSubW rfl rfl ?_
 refine Zp J (Zn (Za (Zh (Zi (Zo J (Z2 J J (Zn (Za (wC (fun h22=>?_) (fun h22=>?_))))))))))
 have hif:o.fFuncs.length≤i:=by omega
 obtain ⟨d,hd⟩:∃ d,o.fDatas[i-o.fFuncs.length]?=some d:=⟨_,List.getElem?_eq_getElem ZO⟩
 obtain ⟨e2,cs2,hE2⟩:=q2.elm hd
 obtain ⟨D0,d0,D1,d1,rfl,n0,r0,n1,r1⟩:=kApiData_open hE2.K
 have hgd:=hg.data d (List.mem_of_getElem? hd)
 have hvd:=hg.v.2.2.2 d (List.mem_of_getElem? hd)
 have hdg:o.fDatas.getD (i-o.fFuncs.length) default=d:=by rw [List.getD_eq_getElem?_getD,hd];rfl
 refine Zh (Zi (Zz (n:=2) (m:=2) J J J (Zld ?_)))
 refine Zo J ?_
 refine ZS0 (t:=25) (v':=.int .i64 ((i-o.fFuncs.length:Nat):Int)) J (by congr 1;omega) ?_
 refine oIdxE J J (hE2) ZO J J ?_
 have hc26:=(hE2).cell
 refine Zlx hc26 ?_
 refine oAlloc J ZP (fun b7=>?_)
 refine Zsa ?_
 refine Zn (Za (Zh (wDrawG J [0,1,2,3,4,5,6,7,8,10,11,12] [(9,[10,11,12],[]),(13,[],[]),(14,[],[]),(15,[],[])] [16] 24 ZK J J (fun w0=>?_))))
 refine Zz (n:=0) (m:=0) J J J (Zld ?_)
 refine Zz (n:=0) (m:=0) J J J (Zld ?_)
 refine Zo rfl (ZS0 (t:=32) (v':=.int .i64 (k:Int)) rfl (by rw [hk]) ?_)
 refine oIdxE J J (hE) ZO J J ?_
 have hc33:=(hE).cell
 refine ZF (ZT 3) (ZT 3) ?_
 refine Zlx hc33 ?_
 refine Z0 J J (Zla ?_)
 refine Zz (n:=0) (m:=0) J J J (Zld ?_)
 refine Z4 (Z5 J ?_)
 (refine ZC0 rfl ZK (fun w hS=>frame hS ZQ (fun B' hB hS'=>obj_when hS' (decide (d.fKind≠x.fKind)) 14)) ?_;rintro ⟨⟩ -)
 refine ZG ?_ J (fun w0=>?_)
 refine Z8 J J J J (fun w0=>?_) ?_
 refine Zla ?_
 exact Z9 rfl
 refine Z8 J J J J (fun w0=>?_) ?_
 refine Zz (n:=0) (m:=0) J J J ?_
 exact Z9 rfl
 refine Z8 J J J J (fun w0=>?_) ?_
 refine Zld ?_
 exact Z9 rfl
 exact AgainG.nil
 refine Z4 (Z5 J ?_)
 (refine ZC0 rfl ZK (fun w hS=>frame hS ZQ (fun B' hB hS'=>data_Check hS' d _ (kApiData_mk _ d n0 (Kd.C_grow hB r0) n1 (Kd.C_grow hB r1)) hvd.1 ZO A0 c0 o.fSymbols (Kd.C_grow hB q0))) ?_;rintro ⟨⟩ -)
 refine ZG ?_ J (fun w0=>?_)
 exact AgainG.nil
 refine Z4 (Z5 J ?_)
 refine oBuildSliceF (Parts.cons J (Parts.cons J Parts.nil)) J J J J J (Fulls.cons ZP J (Fulls.cons ZP J Fulls.nil ap) ap) (fun b42=>?_)
 refine oConv (blk_row (enc:=Value.int .i64) (h1:=fun _=>J) (W:=B.e) (xs:=[whenF (decide (d.fKind≠x.fKind)) 14,dataF d o.fSymbols]) (n:=2) ZP J J (by decide)) ?_
 refine ZG ?_ J (fun w0=>?_)
 exact AgainG.nil
 refine Z4 (Z5 J ?_)
 (refine ZD J (fun w B' hB hR hS'=>obj_first hS' [whenF (decide (d.fKind≠x.fKind)) 14,dataF d o.fSymbols] (some ⟨b42,0,none⟩) 2 2 rfl (row_Cs (W:=B.e) (e:=30) (A:=some ⟨b42,0,none⟩) (n:=2) (cp:=2) (hR _ _ ZP))) ?_;rintro ⟨⟩ -)
 refine ZG ?_ J (fun w0=>?_)
 exact AgainG.nil
 refine Z6 (Zzb ?_)
 exact ⟨(),trivial,by unfold itemE;rw [if_neg h15,if_pos hif,hdg,hdk,fstW];simp only [decide_eq_true_eq];rfl,Lh⟩
 have hif:¬ o.fFuncs.length≤i:=by omega
 obtain ⟨f,hf⟩:∃ f,o.fFuncs[i]?=some f:=⟨_,List.getElem?_eq_getElem ZO⟩
 obtain ⟨e3,cs3,hE3⟩:=q1.elm hf
 obtain ⟨F0,f0,F1,f1,F2,f2,F3,f3,rfl,n0,r0,n1,r1,n2,r2,n3,r3⟩:=kApiFunc_open hE3.K
 have hgf:=hg.fun_ f (List.mem_of_getElem? hf)
 have hvf:=hg.v.2.1.2 f (List.mem_of_getElem? hf)
 have hfg:o.fFuncs.getD i default=f:=by rw [List.getD_eq_getElem?_getD,hf];rfl
 refine Zj (Za (Zh (Zi (Zz (n:=1) (m:=1) J J J (Zld ?_)))))
 refine Zo J (oIdxE J J (hE3) ZO J J ?_)
 have hc47:=(hE3).cell
 refine Zlx hc47 ?_
 refine oAlloc J ZP (fun b8=>?_)
 refine Zsa ?_
 refine Zn (Za (Zh (Zh (wDrawG J [0,1,2,3,4,5,6,7,8] [] [] 24 ZK J J (fun w0=>?_)))))
 refine Zz (n:=0) (m:=0) J J J (Zld ?_)
 refine Zz (n:=0) (m:=0) J J J (Zld ?_)
 refine Zo rfl (ZS0 (t:=53) (v':=.int .i64 (k:Int)) rfl (by rw [hk]) ?_)
 refine oIdxE J J (hE) ZO J J ?_
 have hc54:=(hE).cell
 refine ZF (ZT 3) (ZT 3) ?_
 refine Zlx hc54 ?_
 refine Z0 J J (Z6 (Zn (Za (wC (fun h57=>?_) (fun h57=>?_)))))
 refine Zh (Zi (Zzb ?_))
 exact ⟨(),trivial,by unfold itemE;rw [if_neg h15,if_neg hif,hfg,hdk,if_pos h57];rfl,Lh⟩
 refine Zj (Zzk ?_)
 refine Zz (n:=0) (m:=0) J J J (Zld ?_)
 (refine ZC0 rfl ZK (fun w hS=>frame hS ZQ (fun B' hB hS'=>verify_Check hS' f _ (kApiFunc_mk _ f n0 (Kd.C_grow hB r0) n1 (Kd.C_grow hB r1) n2 (Kd.C_grow hB r2) n3 (Kd.C_grow hB r3)) ZO A0 c0 o.fSymbols (Kd.C_grow hB q0))) ?_;rintro ⟨⟩ -)
 refine Zo J (oExt J ZP ?_)
 refine oExt J ZP ?_
 refine Zp J (Zp J (Zn (Za (Zh (Zi (Zo J (Zla ?_)))))))
 (refine ZC0 rfl ZK (fun w hS=>frame hS ZQ (fun B' hB hS'=>rng_Check hS' f _ (kApiFunc_mk _ f n0 (Kd.C_grow hB r0) n1 (Kd.C_grow hB r1) n2 (Kd.C_grow hB r2) n3 (Kd.C_grow hB r3)) ZO)) ?_;rintro ⟨⟩ -)
 refine oBuildSliceF (Parts.cons J (Parts.cons J Parts.nil)) J J J J J (Fulls.cons ZP J (Fulls.cons ZP J Fulls.nil ap) ap) (fun b68=>?_)
 refine oConv (blk_row (enc:=Value.int .i64) (h1:=fun _=>J) (W:=B.e) (xs:=[chkE f o.fSymbols,rangeF f]) (n:=2) ZP J J (by decide)) ?_
 (refine ZD J (fun w B' hB hR hS'=>obj_first hS' [chkE f o.fSymbols,rangeF f] (some ⟨b68,0,none⟩) 2 2 rfl (row_Cs (W:=B.e) (e:=30) (A:=some ⟨b68,0,none⟩) (n:=2) (cp:=2) (hR _ _ ZP))) ?_;rintro ⟨⟩ -)
 refine Zp J (Zza ?_)
 exact ⟨(),trivial,by unfold itemE funE;rw [if_neg h15,if_neg hif,hfg,hdk,if_neg h57,fst2];rfl,Lh⟩
def cntO (o:ApiObject) (r:Nat):Nat:=if r=0 then o.fSymbols.length else o.fFuncs.length+o.fDatas.length
noncomputable def entO (o:ApiObject) (r i:Nat):Int:=if r=0 then symE o i else itemE o i
noncomputable def lstO (o:ApiObject) (r:Nat):List Int:=(List.range (cntO o r)).map (entO o r)
theorem lst_0 (o:ApiObject):lstO o 0=symsL o:=rfl
theorem lst_1 (o:ApiObject):lstO o 1=itsL o:=rfl
def ruleO (b:Nat) (o:ApiObject):List (Fn×Int):=[((49,[b]),(o.fSymbols.length:Int)),((51,[b]),itemsF o)]
theorem cat_ruleO (w:World) (b:Nat) (o:ApiObject):Cat kRule w (ruleO b o) [.func (.func 49) #[] #[.pointer (some ⟨b,0,none⟩)],.int .i64 (o.fSymbols.length:Int),.func (.func 51) #[] #[.pointer (some ⟨b,0,none⟩)],.int .i64 (itemsF o)]:=
 ⟨[_,_],_,rfl,⟨_,_,rfl,rfl,rfl⟩,[_,_],_,rfl,⟨_,_,rfl,rfl,rfl⟩,rfl⟩
theorem ruleO_at {b j:Nat}{o:ApiObject}{r:Fn×Int}(h:(ruleO b o)[j]?=some r):r.2=(cntO o j:Int)∧j<2∧goodF Tryz.prog r.1.1=true:=by
  have hj:=(List.getElem?_eq_some_iff.1 h).1
  match j,hj,h with
  | 0,_,h=>obtain rfl:=Option.some.inj h;exact ⟨rfl,by decide,by show goodF Tryz.prog 49=true;kernel_rfl⟩
  | 1,_,h=>obtain rfl:=Option.some.inj h;exact ⟨by unfold itemsF cntO;simp,by decide,by show goodF Tryz.prog 51=true;kernel_rfl⟩
theorem obj_chk1 {B:Base}{w:World}(o:ApiObject) (A0:Option Addr) (c0:Nat) (A1:Option Addr) (c1:Nat) (A2:Option Addr) (c2 b1:Nat) (hS:St B [blk b1 26 [.slice A0 o.fSymbols.length c0,.slice A1 o.fFuncs.length c1,.slice A2 o.fDatas.length c2]] w) (ho:kApiObject.K B.e o [.slice A0 o.fSymbols.length c0,.slice A1 o.fFuncs.length c1,.slice A2 o.fDatas.length c2]) (hg:GoodO o) (i:Nat) (hi:i<o.fSymbols.length) :
 CW 49 #[.int .i64 (i:Int),.pointer (some ⟨b1,0,none⟩)] w (Ret B (fun _:Unit=>True) (fun _=>.int .i64 (symE o i)) (fun _=>[blk b1 26 [.slice A0 o.fSymbols.length c0,.slice A1 o.fFuncs.length c1,.slice A2 o.fDatas.length c2]])):=by
 refine ZX Tryz.func49 hS ?_
 refine Zh (Zi (Zp J (Zn (Zzk ?_))))
 refine Zo J ?_
 (refine ZC0 rfl ZK (fun w hS=>frame hS ZQ (fun B' hB hS'=>obj_symbol hS' o _ (kApiObject.K_grow hB ho) hg i hi)) ?_;rintro ⟨⟩ -)
 refine Zp J (Zza ?_)
 exact ⟨(),trivial,rfl,Lh⟩
theorem obj_chk2 {B:Base}{w:World}(o:ApiObject) (A0:Option Addr) (c0:Nat) (A1:Option Addr) (c1:Nat) (A2:Option Addr) (c2 b1:Nat) (hS:St B [blk b1 26 [.slice A0 o.fSymbols.length c0,.slice A1 o.fFuncs.length c1,.slice A2 o.fDatas.length c2]] w) (ho:kApiObject.K B.e o [.slice A0 o.fSymbols.length c0,.slice A1 o.fFuncs.length c1,.slice A2 o.fDatas.length c2]) (hg:GoodO o) (i:Nat) (hi:i<o.fFuncs.length+o.fDatas.length) :
 CW 51 #[.int .i64 (i:Int),.pointer (some ⟨b1,0,none⟩)] w (Ret B (fun _:Unit=>True) (fun _=>.int .i64 (itemE o i)) (fun _=>[blk b1 26 [.slice A0 o.fSymbols.length c0,.slice A1 o.fFuncs.length c1,.slice A2 o.fDatas.length c2]])):=by
 refine ZX Tryz.func51 hS ?_
 refine Zh (Zi (Zp J (Zn (Zzk ?_))))
 refine Zo J ?_
 (refine ZC0 rfl ZK (fun w hS=>frame hS ZQ (fun B' hB hS'=>obj_item hS' o _ (kApiObject.K_grow hB ho) hg i hi)) ?_;rintro ⟨⟩ -)
 refine Zp J (Zza ?_)
 exact ⟨(),trivial,rfl,Lh⟩
theorem ruleO_call {B:Base}{w:World}(o:ApiObject) (A0:Option Addr) (c0:Nat) (A1:Option Addr) (c1:Nat) (A2:Option Addr) (c2 b1:Nat) (hS:St B [blk b1 26 [.slice A0 o.fSymbols.length c0,.slice A1 o.fFuncs.length c1,.slice A2 o.fDatas.length c2]] w) (ho:kApiObject.K B.e o [.slice A0 o.fSymbols.length c0,.slice A1 o.fFuncs.length c1,.slice A2 o.fDatas.length c2]) (hg:GoodO o) {j:Nat}{r:Fn×Int}(h:(ruleO b1 o)[j]?=some r) (i:Nat) (hi:i<cntO o j) :
    CW r.1.1 (#[]++[Value.int .i64 (i:Int)].toArray++(r.1.2.map fun b=>Value.pointer (some ⟨b,0,none⟩)).toArray) w (Ret B (fun _:Unit=>True) (fun _=>.int .i64 (entO o j i)) (fun _=>[blk b1 26 [.slice A0 o.fSymbols.length c0,.slice A1 o.fFuncs.length c1,.slice A2 o.fDatas.length c2]])):=by
  have hj:=(List.getElem?_eq_some_iff.1 h).1
  match j,hj,h,hi with
  | 0,_,h,hi=>obtain rfl:=Option.some.inj h;exact obj_chk1 o A0 c0 A1 c1 A2 c2 b1 hS ho hg i hi
  | 1,_,h,hi=>obtain rfl:=Option.some.inj h;exact obj_chk2 o A0 c0 A1 c1 A2 c2 b1 hS ho hg i hi
theorem obj_Check {B:Base}{w:World}(hS:St B [] w) (o:ApiObject) (oc:List Value) (ho:kApiObject.K B.e o oc) (hg:GoodO o) :
 CW 17 #[.agg oc.toArray] w (Ret B (fun _:Unit=>True) (fun _=>.tuple #[.int .i64 (objE o),.int .i64 (objI o)]) (fun _=>[])):=by
 obtain ⟨A0,c0,A1,c1,A2,c2,rfl,m0,q0,m1,q1,m2,q2⟩:=kApiObject_open ho
 have hn0:=hg.syms
 have hn1:=hg.funcs
 have hn2:=hg.datas
 have hit:itemsF o=(o.fFuncs.length:Int)+(o.fDatas.length:Int):=rfl
 refine ZX Tryz.func17 hS ?_
 refine Zh (Zi (oBox J ZP (fun b1=>?_)))
 refine Zp J (Zp J (Zn (Za (Zh (Zh (Zi (Zz (n:=0) (m:=0) J J J (Zld ?_))))))))
 refine Zv J J (Z1 J J (Zo J (ZS (ZT 12) (fun h12=>?_) (fun h12=>?_))))
 refine Zr J J J J (Zr J J J J (Zr J J J J (Zr J J J J (Zt J J (Zo J (Zr J J J J (Zr J J J J (Zr J J J J (Zr J J J J (Zt J J (Zn (Za (wCondT J (Zh (Zi (Zp J (Zp J (Zn (Za (Zl (Zc (Zw ?_))))))))))))))))))))))
 refine ⟨rfl,_,(ResL.cons (ResR.tmp rfl) (ResL.cons (ResR.tmp rfl) ResL.nil)),?_⟩
 have hm:manyO o:=by unfold manyO;omega
 exact ⟨(),trivial,by unfold objE objI;rw [if_pos hm,if_pos hm];rfl,Lh⟩
 refine Zq J J (Zz (n:=1) (m:=1) J J J (Zzg ?_))
 refine Zq J J (Zv J J (Zq J J (Z1 J J (Zu J J (Zo J (ZS (ZT 18) (fun h18=>?_) (fun h18=>?_)))))))
 refine Zr J J J J (Zr J J J J (Zr J J J J (Zr J J J J (Zt J J (Zn (Za (wCondT J (Zh (Zi (Zp J (Zp J (Zn (Za (Zl (Zc (Zw ?_))))))))))))))))
 refine ⟨rfl,_,(ResL.cons (ResR.tmp rfl) (ResL.cons (ResR.tmp rfl) ResL.nil)),?_⟩
 have hm:manyO o:=by unfold manyO;omega
 exact ⟨(),trivial,by unfold objE objI;rw [if_pos hm,if_pos hm];rfl,Lh⟩
 refine Zq J J (Zz (n:=2) (m:=2) J J J (Zzg ?_))
 refine Zq J J (Zv J J (Zq J J (Z1 J J (Zu J J (Zn (Za (wC (fun h23=>?_) (fun h23=>?_))))))))
 refine Zh (Zi (Zp J (Zp J (Zn (Za (Zl (Zc (Zw ?_))))))))
 refine ⟨rfl,_,(ResL.cons (ResR.tmp rfl) (ResL.cons (ResR.tmp rfl) ResL.nil)),?_⟩
 have hm:manyO o:=by unfold manyO;omega
 exact ⟨(),trivial,by unfold objE objI;rw [if_pos hm,if_pos hm];rfl,Lh⟩
 have hm:¬ manyO o:=by unfold manyO;omega
 refine Zj (Za (Zh (Zh (wDrawG J [0,1,2,3,4,5,6,11] [(7,[0,1,2,3,4,5,11],[8]),(9,[11],[10])] [] 24 ZK J J (fun w0=>?_)))))
 refine oMakeFunc J (Zz (n:=0) (m:=0) J J J (Zld ?_))
 refine Zv J J (oBuild (Parts.cons J (Parts.cons J Parts.nil)) J J (Built.cons (off:=0) (s:=1) J ZP J ZP (Built.cons (off:=1) (s:=1) J ZP J ZP Built.nil)) ?_)
 refine oMakeFunc J (Zla ?_)
 refine Zo J (Z4 (Z5 J ?_))
 (refine ZC0 rfl ZK (fun w hS=>frame hS ZQ (fun B' hB hS'=>obj_Items hS' o _ (kApiObject.K_grow hB ho) hg)) ?_;rintro ⟨⟩ -)
 refine ZG ?_ J (fun w0=>?_)
 refine Z8 J J J J (fun w0=>?_) ?_
 refine oMakeFunc J ?_
 exact Z9 rfl
 refine Z8 J J J J (fun w0=>?_) ?_
 refine Zz (n:=0) (m:=0) J J J ?_
 exact Z9 rfl
 refine Z8 J J J J (fun w0=>?_) ?_
 refine Zld ?_
 exact Z9 rfl
 refine Z8 J J J J (fun w0=>?_) ?_
 refine Zv J J ?_
 exact Z9 rfl
 refine Z8 J J J J (fun w0=>?_) ?_
 refine oBuild (Parts.cons J (Parts.cons J Parts.nil)) J J (Built.cons (off:=0) (s:=1) J ZP J ZP (Built.cons (off:=1) (s:=1) J ZP J ZP Built.nil)) ?_
 exact Z9 rfl
 refine Z8 J J J J (fun w0=>?_) ?_
 refine oMakeFunc J ?_
 exact Z9 rfl
 refine Z8 J J J J (fun w0=>?_) ?_
 refine Zo J ?_
 exact Z9 rfl
 exact AgainG.nil
 refine oBuild (Parts.cons J (Parts.cons J Parts.nil)) J J (Built.cons (off:=0) (s:=1) J ZP J ZP (Built.cons (off:=1) (s:=1) J ZP J ZP Built.nil)) ?_
 refine Z4 (Z5 J ?_)
 refine oBuildSliceF (Parts.cons J (Parts.cons J Parts.nil)) J J J J J (Fulls.cons ZP J (Fulls.cons ZP J Fulls.nil ap) ap) (fun b33=>?_)
 refine ZG ?_ J (fun w0=>?_)
 refine Z8 J J J J (fun w0=>?_) ?_
 refine Zo J ?_
 exact Z9 rfl
 exact AgainG.nil
 refine Zv J J (Z6 (Zn (Za (wFreeze [blk b33 86 [.func (.func 49) #[] #[.pointer (some ⟨b1,0,none⟩)],.int .i64 (o.fSymbols.length:Int),.func (.func 51) #[] #[.pointer (some ⟨b1,0,none⟩)],.int .i64 (itemsF o)]] ZQ (fun B1 hB1 hq1=>?_)))))
 have hR:kRule.C B1.e (some ⟨b33,0,none⟩) (ruleO b1 o):=C_blk (hq1 _ _ ZP) (by show 2≤9223372036854775807;omega) (cat_ruleO _ _ _)
 have ho:=kApiObject.K_grow hB1 ho
 refine Zk (wLoop (ι:=Nat) (fun r=>[(1,.pointer (some ⟨b1,0,none⟩)),(33,.slice (some ⟨b33,0,none⟩) 2 2),(34,.int .i64 2),(35,.int .i64 (r:Int))]) (fun r=>[blk b1 26 [.slice A0 o.fSymbols.length c0,.slice A1 o.fFuncs.length c1,.slice A2 o.fDatas.length c2]]) (fun r=>r≤2∧∀ q,q<r→fstE (lstO o q)=0) (fun r=>2-r) 0 ?_ cv (Leads.has ZQ) ?_)
 exact ⟨Nat.zero_le _,fun q hq=>by omega⟩
 rintro r ⟨hr2,hqs⟩
 try dsimp only
 refine Zh (Zi (Zx J J (Zn (Za (Zh (wC (fun h36=>?_) (fun h36=>?_)))))))
 obtain ⟨u,hu⟩:∃ u,(ruleO b1 o)[r]?=some u:=⟨_,List.getElem?_eq_getElem (by show r<2;omega)⟩
 obtain ⟨hu1,hu2,hu3⟩:=ruleO_at hu
 obtain ⟨⟨ug,ub⟩,uc⟩:=u
 dsimp only at hu1 hu3
 subst hu1
 obtain ⟨e2,cs2,hE2⟩:=hR.elm hu
 obtain ⟨_,_,rfl,rfl,rfl⟩:=(hE2.K:kRule.K _ _ _)
 have hcn:cntO o r≤100:=by unfold cntO;split <;> omega
 refine Zj (Za (Zh (Zk (Zh (Zi (oIdxE J J (hE2) ZO J J ?_))))))
 have hc37:=(hE2).cell
 refine Zlx hc37 ?_
 refine oAlloc J ZP (fun b5=>?_)
 refine Zsa ?_
 refine Zn (Za (Zh (Zi (Zz (n:=1) (m:=1) J J J (Zld ?_)))))
 refine Zo J (Zn (Za (Zk (wLoop (ι:=Nat) (fun i=>[(1,.pointer (some ⟨b1,0,none⟩)),(33,.slice (some ⟨b33,0,none⟩) 2 2),(34,.int .i64 2),(35,.int .i64 (r:Int)),(5,.pointer (some ⟨b5,0,none⟩)),(40,.int .i64 (cntO o r:Int)),(41,.int .i64 (i:Int))]) (fun i=>[blk b5 86 [.func (.func ug) #[] (ub.map fun b=>Value.pointer (some ⟨b,0,none⟩)).toArray,.int .i64 (cntO o r:Int)],blk b1 26 [.slice A0 o.fSymbols.length c0,.slice A1 o.fFuncs.length c1,.slice A2 o.fDatas.length c2]]) (fun i=>i≤cntO o r∧fstE ((lstO o r).take i)=0∧∀ y ∈ (lstO o r).take i,non0 y=false) (fun i=>cntO o r-i) 0 ?_ cv (Leads.has ZQ) ?_))))
 exact ⟨Nat.zero_le _,rfl,by simp⟩
 rintro i ⟨hi,hs,hs2⟩
 try dsimp only
 refine Zh (Zi (Zx J J (Zn (Za (Zh (wC (fun h42=>?_) (fun h42=>?_)))))))
 have hxe:(lstO o r)[i]?=some (entO o r i):=rmap_at ZO
 refine Zj (Za (Zh (Zk (Zh (Zi (Zo J (Zp J (Zn (Za (Zh (Zi (Zz (n:=0) (m:=0) J J J (Zld ?_)))))))))))))
 refine Zo J ?_
 (refine oCallV rfl rfl rfl hu3 (fun w hS=>frame hS ZQ (fun B' hB hS'=>ruleO_call o A0 c0 A1 c1 A2 c2 b1 hS' (kApiObject.K_grow hB ho) hg hu i ZO)) ?_;rintro ⟨⟩ -)
 refine Zp J (Zn (Za (Zh (Zi (Zo J (Z0 J J (Zn (Za (wC (fun h49=>?_) (fun h49=>?_))))))))))
 refine Zh (Zi (Zo J (Zo J (Zp J (Zp J (Zn (Za (Zl (Zf (Zc (Zc (Zf (Zf (Zc (Zc (Zf (Zc (Zw ?_))))))))))))))))))
 refine ⟨rfl,_,(ResL.cons (ResR.tmp rfl) (ResL.cons (ResR.tmp rfl) ResL.nil)),?_⟩
 have hfe:=fstE_stop hs hxe h49
 have hie:=idxI_stop hs2 hxe (decide_eq_true h49)
 exact ⟨(),trivial,by
  unfold objE objI
  rcases Nat.eq_zero_or_pos r with h0 | h0
  · subst h0
    rw [lst_0] at hfe hie
    rw [if_neg hm,if_neg hm,hfe,if_pos h49,if_pos h49,hie];rfl
  · obtain rfl:r=1:=by omega
    have hfs:=hqs 0 ZO
    rw [lst_0] at hfs
    rw [lst_1] at hfe hie
    rw [if_neg hm,if_neg hm,if_neg (by rw [hfs];simp),if_neg (by rw [hfs];simp),hfe,hie];rfl,Lh⟩
 refine Zj (Zze ?_)
 refine Zo J (Zn (Za ?_))
 exact ⟨rfl,i+1,⟨by omega,fstE_next hs hxe (Classical.not_not.1 h49),take_not hs2 hxe (decide_eq_false h49)⟩,by omega,cv,Lh⟩
 obtain rfl:i=cntO o r:=by omega
 have hfr:fstE (lstO o r)=0:=by have:=hs;unfold lstO at this;rw [rmap_all] at this;exact this
 refine Zm (Zb (Zb (Ze (Zze ?_))))
 refine Zo J (Zn (Za ?_))
 exact ⟨rfl,r+1,⟨by omega,fun q hq=>if e:q=r then by rw [e];exact hfr else hqs q ZO⟩,by omega,cv,Lh⟩
 refine Zm (Zb (Zb (Ze (Za (Zh (Zi (Zp J (Zp J (Zn (Za (Zl (Zw ?_))))))))))))
 refine ⟨rfl,_,(ResL.cons (ResR.tmp rfl) (ResL.cons (ResR.tmp rfl) ResL.nil)),?_⟩
 obtain rfl:r=2:=by omega
 have hfs:=hqs 0 ZO
 have hfi:=hqs 1 ZO
 rw [lst_0] at hfs
 rw [lst_1] at hfi
 exact ⟨(),trivial,by unfold objE objI;rw [if_neg hm,if_neg hm,if_neg (by rw [hfs];simp),if_neg (by rw [hfs];simp),hfi,idxI_none (p:=non0) (fun y hy=>decide_eq_false (fun h=>h (fstE_zero.1 hfi y hy)))];rfl,Lh⟩
def oneF:ApiFunc:=⟨1,[0,0],0,false,0,0,[],[⟨15,1,0,0,0⟩,⟨24,1,0,0,0⟩],[⟨0,1,true⟩]⟩
def oneD:ApiData:=⟨0,[7],[]⟩
def oneS (x:Int):List ApiSymbol:=[⟨⟨#[109,97,105,110]⟩,false,1,1,0⟩,⟨⟨#[100]⟩,true,2,0,x⟩]
def oneO (x:Int):ApiObject:=⟨oneS x,[oneF],[oneD]⟩
def nilO:ApiObject:=⟨[],[],[]⟩
theorem one_K {w:World}{s k c r f w' d:Nat}{x:Int}(h0:(blk s 44 [.string ⟨#[109,97,105,110]⟩,.bool false,.int .i64 1,.int .i64 1,.int .i64 0,.string ⟨#[100]⟩,.bool true,.int .i64 2,.int .i64 0,.int .i64 x]).q w) (h1:(blk k 3 [.int .i64 0,.int .i64 0]).q w) (h2:(blk c 90 [.int .i64 15,.int .i64 1,.int .i64 0,.int .i64 0,.int .i64 0,.int .i64 24,.int .i64 1,.int .i64 0,.int .i64 0,.int .i64 0]).q w) (h3:(blk r 92 [.int .i64 0,.int .i64 1,.bool true]).q w) (h4:(blk f 51 [.int .i64 1,.slice (some ⟨k,0,none⟩) 2 2,.int .i64 0,.bool false,.int .i64 0,.int .i64 0,.slice none 0 0,.slice (some ⟨c,0,none⟩) 2 2,.slice (some ⟨r,0,none⟩) 1 1]).q w) (h5:(blk w' 2 [.int .i64 7]).q w) (h6:(blk d 55 [.int .i64 0,.slice (some ⟨w',0,none⟩) 1 1,.slice none 0 0]).q w):kApiObject.K w (oneO x) [.slice (some ⟨s,0,none⟩) 2 2,.slice (some ⟨f,0,none⟩) 1 1,.slice (some ⟨d,0,none⟩) 1 1]:=
 kApiObject_mk w (oneO x) (A0:=some ⟨s,0,none⟩) (A1:=some ⟨f,0,none⟩) (A2:=some ⟨d,0,none⟩) (c0:=2) (c1:=1) (c2:=1) (by show 2≤2;omega)
  (C_blk (kd:=kApiSymbol) h0 (by show 2≤9223372036854775807;omega) ⟨_,_,rfl,kApiSymbol_mk w ⟨⟨#[109,97,105,110]⟩,false,1,1,0⟩,_,_,rfl,kApiSymbol_mk w ⟨⟨#[100]⟩,true,2,0,x⟩,rfl⟩) (by show 1≤1;omega)
  (C_blk (kd:=kApiFunc) h4 (by show 1≤9223372036854775807;omega) ⟨_,_,rfl,kApiFunc_mk w oneF (c0:=2) (c1:=0) (c2:=2) (c3:=1) (by decide) (C_blk (kd:=Kd.int .i64) h1 (by decide) (cat_scalar.2 rfl)) (by decide) (Kd.C_nil _ _ _) (by decide) (C_blk (kd:=kApiInstr) h2 (by decide) ⟨_,_,rfl,kApiInstr_mk w ⟨15,1,0,0,0⟩,_,_,rfl,kApiInstr_mk w ⟨24,1,0,0,0⟩,rfl⟩) (by decide) (C_blk (kd:=kApiReloc) h3 (by decide) ⟨_,_,rfl,kApiReloc_mk w ⟨0,1,true⟩,rfl⟩),rfl⟩) (by show 1≤1;omega)
  (C_blk (kd:=kApiData) h6 (by show 1≤9223372036854775807;omega) ⟨_,_,rfl,kApiData_mk w oneD (c0:=1) (c1:=0) (by decide) (C_blk (kd:=Kd.int .i64) h5 (by decide) (cat_scalar.2 rfl)) (by decide) (Kd.C_nil _ _ _),rfl⟩)
theorem nil_K (w:World):kApiObject.K w nilO [.slice none 0 0,.slice none 0 0,.slice none 0 0]:=kApiObject_mk w nilO (c0:=0) (c1:=0) (c2:=0) (by decide) (Kd.C_nil _ _ _) (by decide) (Kd.C_nil _ _ _) (by decide) (Kd.C_nil _ _ _)
theorem one_good {x:Int}(hx:in64 x):GoodO (oneO x):=by
 refine ⟨?_,by show 2≤300;omega,by show 1≤300;omega,by show 1≤300;omega,fun f hf=>?_,fun d hd=>?_⟩
 · have s1:(⟨#[109,97,105,110]⟩:ByteArray).size=4:=rfl
   have s2:(⟨#[100]⟩:ByteArray).size=1:=rfl
   unfold vApiObject
   simp [s1,s2,oneO,oneS,oneF,oneD,vApiSymbol,vApiFunc,vApiData,vApiInstr,vApiReloc,vApiLine,in64,maxLen] at hx ⊢
   omega
 · obtain rfl:=List.mem_singleton.1 hf;decide
 · obtain rfl:=List.mem_singleton.1 hd;decide
theorem nil_good:GoodO nilO:=by
 refine ⟨?_,by decide,by decide,by decide,fun f hf=>(by cases hf),fun d hd=>(by cases hd)⟩
 unfold vApiObject
 simp [nilO]
theorem one_range:rangeF oneF=0:=by
 unfold rangeF
 rw [if_neg]
 rintro ⟨i,hi,hr,-⟩
 have hn:∀ y,¬ RP (rg oneF.fCode) (fromL oneF.fCode (dfrN oneF.fCode)) y:=by
  intro y hy
  induction hy with
  | start h1 h2=>rw [show fromL oneF.fCode (dfrN oneF.fCode)=[] from by decide] at h1;cases h1
  | step h1 h2 ih=>exact ih
 exact hn _ hr
theorem one_fun:funF oneF=0:=by unfold funF codeF;rw [flowF_eq];decide
theorem one_chk:chkE oneF (oneS 0)=0:=by unfold chkE;rw [one_fun];decide
theorem one_syms:symsL (oneO 0)=[0,0]:=by decide
theorem one_it0:itemE (oneO 0) 0=0:=by
 unfold itemE funE
 rw [if_neg (by decide),if_neg (by decide),if_neg (by decide),if_neg (by show ¬ chkE oneF (oneS 0)≠0;rw [one_chk];decide)]
 exact one_range
theorem one_it1:itemE (oneO 0) 1=0:=by
 unfold itemE
 rw [if_neg (by decide),if_pos (by decide),if_neg (by decide)]
 decide
theorem one_its:itsL (oneO 0)=[0,0]:=by
 show [itemE (oneO 0) 0,itemE (oneO 0) 1]=[0,0]
 rw [one_it0,one_it1]
theorem one_E:objE (oneO 0)=0∧objI (oneO 0) = -1:=by
 unfold objE objI
 rw [one_syms,one_its]
 decide
theorem law_One {B:Base}{w:World}(hS:St B [] w) :
 CW 20 #[] w (Ret B (fun _:Nat×Nat×Nat×Nat×Nat×Nat×Nat=>True) (fun z=>.agg #[.slice (some ⟨z.1,0,none⟩) 2 2,.slice (some ⟨z.2.2.2.2.1,0,none⟩) 1 1,.slice (some ⟨z.2.2.2.2.2.2,0,none⟩) 1 1]) (fun z=>[blk z.1 44 [.string ⟨#[109,97,105,110]⟩,.bool false,.int .i64 1,.int .i64 1,.int .i64 0,.string ⟨#[100]⟩,.bool true,.int .i64 2,.int .i64 0,.int .i64 0],blk z.2.1 3 [.int .i64 0,.int .i64 0],blk z.2.2.1 90 [.int .i64 15,.int .i64 1,.int .i64 0,.int .i64 0,.int .i64 0,.int .i64 24,.int .i64 1,.int .i64 0,.int .i64 0,.int .i64 0],blk z.2.2.2.1 92 [.int .i64 0,.int .i64 1,.bool true],blk z.2.2.2.2.1 51 [.int .i64 1,.slice (some ⟨z.2.1,0,none⟩) 2 2,.int .i64 0,.bool false,.int .i64 0,.int .i64 0,.slice none 0 0,.slice (some ⟨z.2.2.1,0,none⟩) 2 2,.slice (some ⟨z.2.2.2.1,0,none⟩) 1 1],blk z.2.2.2.2.2.1 2 [.int .i64 7],blk z.2.2.2.2.2.2 55 [.int .i64 0,.slice (some ⟨z.2.2.2.2.2.1,0,none⟩) 1 1,.slice none 0 0]])):=by
 refine ZX Tryz.func20 hS ?_
 refine Zh (Zi (oAlloc J ZP (fun b0=>?_)))
 refine Zn (Za (Zh (Zi (oBuild (Parts.cons J (Parts.cons J (Parts.cons J Parts.nil))) J J (Built.cons (off:=0) (s:=1) J ZP J ZP (Built.cons (off:=2) (s:=1) J ZP J ZP (Built.cons (off:=3) (s:=1) J ZP J ZP Built.nil))) ?_))))
 refine oBuild (Parts.cons J (Parts.cons J (Parts.cons J Parts.nil))) J J (Built.cons (off:=0) (s:=1) J ZP J ZP (Built.cons (off:=1) (s:=1) J ZP J ZP (Built.cons (off:=2) (s:=1) J ZP J ZP Built.nil))) ?_
 refine oBuildSliceF (Parts.cons J (Parts.cons J Parts.nil)) J J J J J (Fulls.cons ZP J (Fulls.cons ZP J Fulls.nil ap) ap) (fun b3=>?_)
 refine oBuildSliceF (Parts.cons J (Parts.cons J Parts.nil)) J J J J J (Fulls.cons ZP J (Fulls.cons ZP J Fulls.nil ap) ap) (fun b4=>?_)
 refine oBuild (Parts.cons J (Parts.cons J Parts.nil)) J J (Built.cons (off:=0) (s:=1) J ZP J ZP (Built.cons (off:=1) (s:=1) J ZP J ZP Built.nil)) ?_
 refine oBuild (Parts.cons J (Parts.cons J Parts.nil)) J J (Built.cons (off:=0) (s:=1) J ZP J ZP (Built.cons (off:=1) (s:=1) J ZP J ZP Built.nil)) ?_
 refine oBuildSliceF (Parts.cons J (Parts.cons J Parts.nil)) J J J J J (Fulls.cons ZP J (Fulls.cons ZP J Fulls.nil ap) ap) (fun b7=>?_)
 refine oBuild (Parts.cons J (Parts.cons J (Parts.cons J Parts.nil))) J J (Built.cons (off:=0) (s:=1) J ZP J ZP (Built.cons (off:=1) (s:=1) J ZP J ZP (Built.cons (off:=2) (s:=1) J ZP J ZP Built.nil))) ?_
 refine oBuildSlice1 J J J J J ZP J (fun b9=>?_)
 refine oBuild (Parts.cons J (Parts.cons J (Parts.cons J (Parts.cons J Parts.nil)))) J J (Built.cons (off:=0) (s:=1) J ZP J ZP (Built.cons (off:=1) (s:=1) J ZP J ZP (Built.cons (off:=7) (s:=1) J ZP J ZP (Built.cons (off:=8) (s:=1) J ZP J ZP Built.nil)))) ?_
 refine oBuildSlice1 J J J J J ZP J (fun b11=>?_)
 refine oBuildSlice1 J J J J J ZP J (fun b12=>?_)
 refine oBuild (Parts.cons J Parts.nil) J J (Built.cons (off:=1) (s:=1) J ZP J ZP Built.nil) ?_
 refine oBuildSlice1 J J J J J ZP J (fun b14=>?_)
 refine oBuild (Parts.cons J (Parts.cons J (Parts.cons J Parts.nil))) J J (Built.cons (off:=0) (s:=1) J ZP J ZP (Built.cons (off:=1) (s:=1) J ZP J ZP (Built.cons (off:=2) (s:=1) J ZP J ZP Built.nil))) ?_
 refine Zsa ?_
 refine Zn (Za (Zl (Zw (ZI ?_))))
 exact ⟨(b3,b4,b7,b9,b11,b12,b14),trivial,rfl,Lh⟩
end Go.Proofs.YtpmdhkjbhjgoaaaGreatO
namespace Go.Proofs.YtpmdhkjbhjgoaaaGreatD
set_option maxRecDepth 100000
set_option maxHeartbeats 4000000
open Go.RowKit Go.Proofs.YtpmdhkjbhjgoaaaGreatK Go.Proofs.YtpmdhkjbhjgoaaaGreatT Go.Proofs.YtpmdhkjbhjgoaaaGreatV
open Go.Proofs.YtpmdhkjbhjgoaaaGreatW (GoodO)
open Go.Proofs.YtpmdhkjbhjgoaaaGreatO (nilO nil_K nil_good)

def Dm {α:Type}(p:Pr α) (D:α→Prop):Prop:=∀ r v r',Byts r→p r=.ok (v,r')→D v∧Byts r'
theorem num_dm (w:Nat):Dm (numX w) in64:=by
 intro r v r' hb h
 unfold numX at h
 split at h
 · cases h
 · obtain ⟨rfl,rfl⟩:=Prod.mk.inj (Except.ok.inj h)
   exact ⟨in64_wrap _,hb.drop w⟩
theorem sgn_dm {w:Nat}(hw:w=1∨w=4):Dm (sgnX w) in64:=by
 intro r v r' hb h
 unfold sgnX at h
 split at h
 · cases h
 · next k=>
   obtain ⟨rfl,rfl⟩:=Prod.mk.inj (Except.ok.inj h)
   refine ⟨?_,hb.drop w⟩
   have h0:=valU_in (hb.take w)
   have hx:(r.take w).length=w:=by rw [List.length_take];omega
   unfold sgnV in64
   rw [hx] at h0 ⊢
   rcases hw with rfl | rfl
   · simp only [Int.reducePow] at h0 ⊢;split <;> omega
   · simp only [Int.reducePow] at h0 ⊢;split <;> omega
theorem flag_dm:Dm flagX (fun _=>True):=by
 intro r v r' hb h
 obtain ⟨n,r1,h1,h2⟩:=bnd_ok h
 have:=(num_dm 1 _ _ _ hb h1).2
 split at h2
 · cases h2
 · obtain ⟨rfl,rfl⟩:=Prod.mk.inj (Except.ok.inj h2)
   exact ⟨trivial,this⟩
theorem txt_dm:Dm (txtX 255) (fun s=>s.size≤maxLen):=by
 intro r v r' hb h
 obtain ⟨n,r1,h1,h2⟩:=bnd_ok h
 have h3:=num1_in hb h1
 have:=(num_dm 1 _ _ _ hb h1).2
 split at h2
 · cases h2
 · obtain ⟨rfl,rfl⟩:=Prod.mk.inj (Except.ok.inj h2)
   refine ⟨?_,this.drop _⟩
   have hml:maxLen=9223372036854775807:=rfl
   show (bytesS (r1.take n.toNat)).size≤maxLen
   rw [bytesS_size,List.length_take];omega
theorem rep_dm {α:Type}{p:Pr α}{D:α→Prop}(h:Dm p D):∀ n,Dm (repX p n) (fun l=>l.length=n∧∀ v ∈ l,D v)
 | 0=>fun r v r' hb k=>by obtain ⟨rfl,rfl⟩:=Prod.mk.inj (Except.ok.inj k);exact ⟨⟨rfl,fun v hv=>by cases hv⟩,hb⟩
 | n+1=>fun r v r' hb k=>by
  obtain ⟨a,r1,h1,h2⟩:=bnd_ok k
  obtain ⟨l,r2,h3,h4⟩:=bnd_ok h2
  obtain ⟨rfl,rfl⟩:=Prod.mk.inj (Except.ok.inj h4)
  obtain ⟨d1,b1⟩:=h _ _ _ hb h1
  obtain ⟨⟨e2,d2⟩,b2⟩:=rep_dm h n _ _ _ b1 h3
  exact ⟨⟨by rw [List.length_cons,e2],fun v hv=>(List.mem_cons.1 hv).elim (fun e=>e ▸ d1) (d2 v)⟩,b2⟩
theorem list_dm {α:Type}{p:Pr α}{D:α→Prop}(h:Dm p D):Dm (listX p) (fun l=>l.length≤255∧∀ v ∈ l,D v):=by
 intro r v r' hb k
 obtain ⟨n,r1,h1,h2⟩:=bnd_ok k
 have h3:=num1_in hb h1
 obtain ⟨⟨e2,d2⟩,b2⟩:=rep_dm h _ _ _ _ (num_dm 1 _ _ _ hb h1).2 h2
 exact ⟨⟨by omega,d2⟩,b2⟩
theorem sym_dm:Dm symX vApiSymbol:=by
 intro r v r' hb k
 obtain ⟨s,r1,h1,k⟩:=bnd_ok k
 obtain ⟨lo,r2,h2,k⟩:=bnd_ok k
 obtain ⟨so,r3,h3,k⟩:=bnd_ok k
 obtain ⟨kk,r4,h4,k⟩:=bnd_ok k
 obtain ⟨d,r5,h5,k⟩:=bnd_ok k
 obtain ⟨rfl,rfl⟩:=Prod.mk.inj (Except.ok.inj k)
 obtain ⟨e1,b1⟩:=txt_dm _ _ _ hb h1
 obtain ⟨e2,b2⟩:=flag_dm _ _ _ b1 h2
 obtain ⟨e3,b3⟩:=num_dm 1 _ _ _ b2 h3
 obtain ⟨e4,b4⟩:=num_dm 1 _ _ _ b3 h4
 obtain ⟨e5,b5⟩:=sgn_dm (.inl rfl) _ _ _ b4 h5
 exact ⟨⟨e1,trivial,e3,e4,e5⟩,b5⟩
theorem ins_dm:Dm insX vApiInstr:=by
 intro r v r' hb k
 obtain ⟨s,r1,h1,k⟩:=bnd_ok k
 obtain ⟨lo,r2,h2,k⟩:=bnd_ok k
 obtain ⟨so,r3,h3,k⟩:=bnd_ok k
 obtain ⟨kk,r4,h4,k⟩:=bnd_ok k
 obtain ⟨d,r5,h5,k⟩:=bnd_ok k
 split at k
 · cases k
 · obtain ⟨rfl,rfl⟩:=Prod.mk.inj (Except.ok.inj k)
   obtain ⟨e1,b1⟩:=num_dm 1 _ _ _ hb h1
   obtain ⟨e2,b2⟩:=num_dm 1 _ _ _ b1 h2
   obtain ⟨e3,b3⟩:=num_dm 1 _ _ _ b2 h3
   obtain ⟨e4,b4⟩:=num_dm 1 _ _ _ b3 h4
   obtain ⟨e5,b5⟩:=sgn_dm (.inr rfl) _ _ _ b4 h5
   exact ⟨⟨e1,e2,e3,e4,e5⟩,b5⟩
theorem lin_dm:Dm linX vApiLine:=by
 intro r v r' hb k
 obtain ⟨s,r1,h1,k⟩:=bnd_ok k
 obtain ⟨lo,r2,h2,k⟩:=bnd_ok k
 obtain ⟨rfl,rfl⟩:=Prod.mk.inj (Except.ok.inj k)
 obtain ⟨e1,b1⟩:=num_dm 1 _ _ _ hb h1
 obtain ⟨e2,b2⟩:=num_dm 2 _ _ _ b1 h2
 exact ⟨⟨e1,e2⟩,b2⟩
theorem rel_dm:Dm relX vApiReloc:=by
 intro r v r' hb k
 obtain ⟨s,r1,h1,k⟩:=bnd_ok k
 obtain ⟨lo,r2,h2,k⟩:=bnd_ok k
 obtain ⟨so,r3,h3,k⟩:=bnd_ok k
 obtain ⟨rfl,rfl⟩:=Prod.mk.inj (Except.ok.inj k)
 obtain ⟨e1,b1⟩:=num_dm 1 _ _ _ hb h1
 obtain ⟨e2,b2⟩:=num_dm 1 _ _ _ b1 h2
 obtain ⟨e3,b3⟩:=flag_dm _ _ _ b2 h3
 exact ⟨⟨e1,e2,trivial⟩,b3⟩
theorem max255 {n:Nat}(h:n≤255):n≤maxLen:=by have:maxLen=9223372036854775807:=rfl;omega
theorem dat_dm:Dm datX (fun d=>vApiData d∧d.fWords.length≤300∧d.fRelocs.length≤300):=by
 intro r v r' hb k
 obtain ⟨s,r1,h1,k⟩:=bnd_ok k
 obtain ⟨lo,r2,h2,k⟩:=bnd_ok k
 obtain ⟨so,r3,h3,k⟩:=bnd_ok k
 obtain ⟨rfl,rfl⟩:=Prod.mk.inj (Except.ok.inj k)
 obtain ⟨e1,b1⟩:=num_dm 1 _ _ _ hb h1
 obtain ⟨e2,b2⟩:=list_dm (num_dm 8) _ _ _ b1 h2
 obtain ⟨e3,b3⟩:=list_dm rel_dm _ _ _ b2 h3
 exact ⟨⟨⟨e1,⟨max255 e2.1,e2.2⟩,max255 e3.1,e3.2⟩,by show lo.length≤300;omega,by show so.length≤300;omega⟩,b3⟩
theorem fun_dm:Dm funX (fun f=>vApiFunc f∧f.fKinds.length≤300∧f.fLines.length≤300∧f.fCode.length≤300∧f.fRelocs.length≤300):=by
 intro r v r' hb k
 obtain ⟨c1,r1,h1,k⟩:=bnd_ok k
 obtain ⟨c2,r2,h2,k⟩:=bnd_ok k
 obtain ⟨c3,r3,h3,k⟩:=bnd_ok k
 obtain ⟨c4,r4,h4,k⟩:=bnd_ok k
 obtain ⟨c5,r5,h5,k⟩:=bnd_ok k
 obtain ⟨c6,r6,h6,k⟩:=bnd_ok k
 obtain ⟨c7,r7,h7,k⟩:=bnd_ok k
 obtain ⟨c8,r8,h8,k⟩:=bnd_ok k
 obtain ⟨c9,r9,h9,k⟩:=bnd_ok k
 obtain ⟨rfl,rfl⟩:=Prod.mk.inj (Except.ok.inj k)
 obtain ⟨e1,b1⟩:=num_dm 1 _ _ _ hb h1
 obtain ⟨e2,b2⟩:=list_dm (num_dm 1) _ _ _ b1 h2
 obtain ⟨e3,b3⟩:=num_dm 2 _ _ _ b2 h3
 obtain ⟨e4,b4⟩:=flag_dm _ _ _ b3 h4
 obtain ⟨e5,b5⟩:=num_dm 1 _ _ _ b4 h5
 obtain ⟨e6,b6⟩:=num_dm 1 _ _ _ b5 h6
 obtain ⟨e7,b7⟩:=list_dm lin_dm _ _ _ b6 h7
 obtain ⟨e8,b8⟩:=list_dm ins_dm _ _ _ b7 h8
 obtain ⟨e9,b9⟩:=list_dm rel_dm _ _ _ b8 h9
 exact ⟨⟨⟨e1,⟨max255 e2.1,e2.2⟩,e3,trivial,e5,e6,⟨max255 e7.1,e7.2⟩,⟨max255 e8.1,e8.2⟩,max255 e9.1,e9.2⟩,by show c2.length≤300;omega,by show c7.length≤300;omega,by show c8.length≤300;omega,by show c9.length≤300;omega⟩,b9⟩
abbrev ObjT:=((Unit×List ApiSymbol)×List ApiFunc)×List ApiData
def objS (r:List Int):Except Int (ObjT×List Int):=nxt (nxt (nxt (.ok ((),r)) (listX symX)) (listX funX)) (listX datX)
def finO (σ:Except Int (ObjT×List Int)):Except Int ApiObject:=match σ with
  | .ok (t,[])=>.ok ⟨t.1.1.2,t.1.2,t.2⟩
  | .ok (_,_ :: _)=>.error 6
  | .error e=>.error e
theorem inn_eq (l:List Int):innX l=if l.length<4 then .error 5 else if l.take 4≠magicL then .error 3 else finO (objS (l.drop 4)):=by
 unfold innX
 split
 · rfl
 · split
   · rfl
   · have e : (bnd (listX symX) fun ss => bnd (listX funX) fun fs => bnd (listX datX) fun ds => pur (⟨ss, fs, ds⟩ : ApiObject)) (l.drop 4) = runX (objS (l.drop 4)) (fun t => pur ⟨t.1.1.2, t.1.2, t.2⟩) := by
      unfold objS
      rw [run_nxt,run_nxt,run_nxt];rfl
     rw [e]
     cases objS (l.drop 4) with
     | error e=>rfl
     | ok z=>
      obtain ⟨t,r⟩:=z
      cases r with
      | nil=>rfl
      | cons y ys=>rfl
theorem inn_good {l:List Int}{o:ApiObject}(hb:Byts l) (h:innX l=.ok o):GoodO o:=by
 unfold innX at h
 split at h
 · cases h
 · split at h
   · cases h
   · split at h
     · next o' he=>
       obtain rfl:=Except.ok.inj h
       obtain ⟨c1,r1,h1,k⟩:=bnd_ok he
       obtain ⟨c2,r2,h2,k⟩:=bnd_ok k
       obtain ⟨c3,r3,h3,k⟩:=bnd_ok k
       obtain ⟨rfl,rfl⟩:=Prod.mk.inj (Except.ok.inj k)
       obtain ⟨e1,b1⟩:=list_dm sym_dm _ _ _ (hb.drop 4) h1
       obtain ⟨e2,b2⟩:=list_dm fun_dm _ _ _ b1 h2
       obtain ⟨e3,b3⟩:=list_dm dat_dm _ _ _ b2 h3
       exact ⟨⟨⟨max255 e1.1,e1.2⟩,⟨max255 e2.1,fun f hf=>(e2.2 f hf).1⟩,max255 e3.1,fun d hd=>(e3.2 d hd).1⟩,by show c1.length≤300;omega,by show c2.length≤300;omega,by show c3.length≤300;omega,fun f hf=>(e2.2 f hf).2,fun d hd=>(e3.2 d hd).2⟩
     · cases h
     · cases h
theorem opn_byts {l x:List Int}(hb:Byts l) (h:opnF l=.ok x):Byts x∧x=l.take (l.length-4):=by
 unfold opnF at h
 split at h
 · cases h
 · split at h
   · cases h
   · obtain rfl:=Except.ok.inj h;exact ⟨hb.take _,rfl⟩
theorem get_good {l:List Int}{o:ApiObject}(hb:Byts l) (h:getF l=.ok o):GoodO o:=by
 unfold getF at h
 cases hx:opnF l with
 | error e=>rw [hx] at h;cases h
 | ok x=>rw [hx] at h;exact inn_good (opn_byts hb hx).1 h
theorem ret_map {P:Program}{g:FuncId}{args:Array Value}{w:World}{B:Base}{ι κ:Type}{inv:ι→Prop}{val:ι→Value}{post:ι→List Res}{inv':κ→Prop}{val':κ→Value}{post':κ→List Res}(h:CallsIn Fence.wide 0 P g args w (Ret B inv val post)) (f:ι→κ) (hi:∀ i,inv i→inv' (f i)) (hv:∀ i,val i=val' (f i)) (hp:∀ i,Leads B (post i) (post' (f i))):CallsIn Fence.wide 0 P g args w (Ret B inv' val' post'):=by
 refine h.mono ?_
 rintro e w' ⟨i,h1,h2,h3⟩
 exact ⟨f i,hi i h1,h2.trans (by rw [hv]),hp i w' h3⟩
theorem row_both {α:Type}{kd:Kd α}{W w:World}{e:TypeId}{A:Option Addr}{n cp:Nat}{xs:List α}(h:(row kd W e (.slice A n cp) xs).q w) (g:Grow W w) (hn:n=xs.length):xs.length≤cp∧kd.C w A xs:=by
 obtain ⟨h1,h2,h3,_⟩:=row_C h g
 exact ⟨by omega,h3⟩
def funCs (f:ApiFunc) (h0 h1 h2 h3:Option Addr×Nat):List Value:=[.int .i64 f.fClass,.slice h0.1 f.fKinds.length h0.2,.int .i64 f.fPad,.bool f.fNosplit,.int .i64 f.fFrom,.int .i64 f.fTo,.slice h1.1 f.fLines.length h1.2,.slice h2.1 f.fCode.length h2.2,.slice h3.1 f.fRelocs.length h3.2]
def datCs (d:ApiData) (h0 h1:Option Addr×Nat):List Value:=[.int .i64 d.fKind,.slice h0.1 d.fWords.length h0.2,.slice h1.1 d.fRelocs.length h1.2]
def fpOf (Ψ:List Res):Nat→Prop:=fun k=>∃ r ∈ Ψ,r.fp k
abbrev funΨ (W0:World) (f:ApiFunc) (h0 h1 h2 h3:Option Addr×Nat) (S:Nat→Prop) (fs:List ApiFunc) (rs:List (List Value)):List Res:=[row (Kd.int .i64) W0 3 (.slice h0.1 f.fKinds.length h0.2) f.fKinds,row kApiLine W0 107 (.slice h1.1 f.fLines.length h1.2) f.fLines,row kApiInstr W0 90 (.slice h2.1 f.fCode.length h2.2) f.fCode,row kApiReloc W0 92 (.slice h3.1 f.fRelocs.length h3.2) f.fRelocs,hold W0 S (fun w=>Raws kApiFunc w fs rs)]
abbrev datΨ (W0:World) (d:ApiData) (h0 h1:Option Addr×Nat) (S:Nat→Prop) (ds:List ApiData) (rs:List (List Value)):List Res:=[row (Kd.int .i64) W0 2 (.slice h0.1 d.fWords.length h0.2) d.fWords,row kApiReloc W0 92 (.slice h1.1 d.fRelocs.length h1.2) d.fRelocs,hold W0 S (fun w=>Raws kApiData w ds rs)]
abbrev objΨ (W0:World) (ss:List ApiSymbol) (fs:List ApiFunc) (ds:List ApiData) (rf rd:List (List Value)) (h0 h1 h2:Option Addr×Nat) (S1 S2:Nat→Prop):List Res:=[row kApiSymbol W0 44 (.slice h0.1 ss.length h0.2) ss,row (kRaw 9) W0 51 (.slice h1.1 rf.length h1.2) rf,hold W0 S1 (fun w=>Raws kApiFunc w fs rf),row (kRaw 3) W0 55 (.slice h2.1 rd.length h2.2) rd,hold W0 S2 (fun w=>Raws kApiData w ds rd)]
theorem fun_hold {B:Base}{Φ Φ':List Res}{W0:World}{f:ApiFunc}{h0 h1 h2 h3:Option Addr×Nat}{S:Nat→Prop}{fs:List ApiFunc}{rs:List (List Value)}(hs:Split Φ (funΨ W0 f h0 h1 h2 h3 S fs rs) Φ') :
 Leads B Φ (hold W0 (fpOf (funΨ W0 f h0 h1 h2 h3 S fs rs)) (fun w=>Raws kApiFunc w (fs++[f]) (rs++[funCs f h0 h1 h2 h3])) :: Φ'):=
 hold_of hs (fun w hq g=>by
  have q0:=row_both (hq _ _ .here) g rfl
  have q1:=row_both (hq _ _ (.there .here)) g rfl
  have q2:=row_both (hq _ _ (.there (.there .here))) g rfl
  have q3:=row_both (hq _ _ (.there (.there (.there .here)))) g rfl
  have q4:=hold_at (hq _ _ (.there (.there (.there (.there .here))))) g
  exact q4.app (Raws.one (kApiFunc_mk w f q0.1 q0.2 q1.1 q1.2 q2.1 q2.2 q3.1 q3.2)))
theorem dat_hold {B:Base}{Φ Φ':List Res}{W0:World}{d:ApiData}{h0 h1:Option Addr×Nat}{S:Nat→Prop}{ds:List ApiData}{rs:List (List Value)}(hs:Split Φ (datΨ W0 d h0 h1 S ds rs) Φ') :
 Leads B Φ (hold W0 (fpOf (datΨ W0 d h0 h1 S ds rs)) (fun w=>Raws kApiData w (ds++[d]) (rs++[datCs d h0 h1])) :: Φ'):=
 hold_of hs (fun w hq g=>by
  have q0:=row_both (hq _ _ .here) g rfl
  have q1:=row_both (hq _ _ (.there .here)) g rfl
  have q4:=hold_at (hq _ _ (.there (.there .here))) g
  exact q4.app (Raws.one (kApiData_mk w d q0.1 q0.2 q1.1 q1.2)))
theorem obj_hold {B:Base}{Φ Φ':List Res}{W0:World}{ss:List ApiSymbol}{fs:List ApiFunc}{ds:List ApiData}{rf rd:List (List Value)}{h0 h1 h2:Option Addr×Nat}{S1 S2:Nat→Prop}(hs:Split Φ (objΨ W0 ss fs ds rf rd h0 h1 h2 S1 S2) Φ') (hf:rf.length=fs.length) (hd:rd.length=ds.length) :
 Leads B Φ (hold W0 (fpOf (objΨ W0 ss fs ds rf rd h0 h1 h2 S1 S2)) (fun w=>kApiObject.K w ⟨ss,fs,ds⟩ [.slice h0.1 ss.length h0.2,.slice h1.1 fs.length h1.2,.slice h2.1 ds.length h2.2]) :: Φ'):=
 hold_of hs (fun w hq g=>by
  have q0:=row_both (hq _ _ .here) g rfl
  have q1:=hq _ _ (.there .here)
  have q2:=hold_at (hq _ _ (.there (.there .here))) g
  have q3:=hq _ _ (.there (.there (.there .here)))
  have q4:=hold_at (hq _ _ (.there (.there (.there (.there .here))))) g
  have l1:=(row_len q1).2
  have l3:=(row_len q3).2
  exact kApiObject_mk w ⟨ss,fs,ds⟩ (c0:=h0.2) (c1:=h1.2) (c2:=h2.2) q0.1 q0.2 (by show fs.length≤h1.2;omega) (rawrow (kd:=kApiFunc) q1 rfl q2) (by show ds.length≤h2.2;omega) (rawrow (kd:=kApiData) q3 rfl q4))
theorem oHold {c:Cx}{N:Md c}{rest:List Oper}{E:Env}{D:List Deferred}{H H':List Res}{W:World}{S:Nat→Prop}{Pd:World→Prop}(hL:Leads c.B H (hold W S Pd :: H')) (h:∀ S',O N rest E D (hold W S' Pd :: H')):O N rest E D H:=oConv hL (h S)
theorem funCs_one (f:ApiFunc) (h0 h1 h2 h3:Option Addr×Nat):funCs f h0 h1 h2 h3=funCs f h0 h1 h2 h3∧(funCs f h0 h1 h2 h3).length=9∧∀ u ∈ funCs f h0 h1 h2 h3,u.oneCell'=true:=⟨rfl,rfl,by unfold funCs;intro u hu;simp only [List.mem_cons,List.not_mem_nil,or_false] at hu;rcases hu with rfl | rfl | rfl | rfl | rfl | rfl | rfl | rfl | rfl <;> rfl⟩
theorem datCs_one (d:ApiData) (h0 h1:Option Addr×Nat):datCs d h0 h1=datCs d h0 h1∧(datCs d h0 h1).length=3∧∀ u ∈ datCs d h0 h1,u.oneCell'=true:=⟨rfl,rfl,by unfold datCs;intro u hu;simp only [List.mem_cons,List.not_mem_nil,or_false] at hu;rcases hu with rfl | rfl | rfl <;> rfl⟩
open Go.Proofs.YtpmdhkjbhjgoaaaGreatW (GoodO objE objI)
open Go.Proofs.YtpmdhkjbhjgoaaaGreatO (nilO nil_K nil_good oSliceU C_take)
def magicS:ByteArray:=⟨#[83,72,76,49]⟩
theorem magic_iff {l:List Int}(hb:Byts l) (h:4≤l.length):bytesS (l.take 4)=magicS↔l.take 4=magicL:=by
 constructor
 · intro k
   have:=congrArg txtL k
   rw [txtL_bytesS (hb.take 4)] at this
   rw [this];rfl
 · intro k;rw [k];rfl
def Inv2 {α:Type}(p:Pr α) (q:α→List Int) (dom:α→Prop):Prop:=∀ v r,dom v→p (q v++r)=.ok (v,r)
theorem inv2_bnd {α β:Type}{p:Pr α}{q:α→List Int}{dom:α→Prop}(h:Inv2 p q dom) {a:α}(ha:dom a) (f:α→Pr β) (r:List Int):bnd p f (q a++r)=f a r:=bnd_to (h a r ha)
theorem take_putL (n:Int) (w:Nat) (r:List Int):(putL n w++r).take w=putL n w:=by
 have:=List.take_left (l₁:=putL n w) (l₂:=r)
 rwa [putL_len] at this
theorem drop_putL (n:Int) (w:Nat) (r:List Int):(putL n w++r).drop w=r:=by
 have:=List.drop_left (l₁:=putL n w) (l₂:=r)
 rwa [putL_len] at this
theorem num_put (n:Int) (w:Nat) (r:List Int):numX w (putL n w++r)=.ok (IntKind.i64.wrap (n % 256 ^ w),r):=by
 unfold numX
 rw [if_neg (by rw [List.length_append,putL_len];omega),take_putL,drop_putL,valU_putL]
theorem num2 (w:Nat) (hw:w≤7):Inv2 (numX w) (putL · w) (fun n=>0≤n∧n<256 ^ w):=by
 intro n r h
 dsimp only
 rw [num_put,Int.emod_eq_of_lt h.1 h.2,small_wrap h.1]
 have:(256:Int) ^ w≤256 ^ 7:=by
  obtain ⟨j,hj⟩:∃ j,7=w+j:=⟨7-w,by omega⟩
  rw [hj,Int.pow_add]
  have h1:(0:Int)<256 ^ w:=Int.pow_pos (by decide)
  have h2:(0:Int)<256 ^ j:=Int.pow_pos (by decide)
  have h3:(256:Int) ^ w * 1≤256 ^ w * 256 ^ j:=Int.mul_le_mul_of_nonneg_left ZO ZO
  omega
 have e7:(256:Int) ^ 7=72057594037927936:=by decide
 omega
theorem num8:Inv2 (numX 8) (putL · 8) in64:=by
 intro n r h
 dsimp only
 rw [num_put,show (256:Int) ^ 8=18446744073709551616 from by decide,wrapIU,wrap_in h]
theorem sgn2 (w:Nat):Inv2 (sgnX w) (putL · w) (fun n=>- (256 ^ w)≤2 * n∧2 * n<256 ^ w):=by
 intro n r h
 dsimp only at h ⊢
 unfold sgnX
 rw [if_neg (by rw [List.length_append,putL_len];omega),take_putL,drop_putL]
 have hp:(0:Int)<256 ^ w:=Int.pow_pos (by decide)
 have e:sgnV (putL n w)=n:=by
  unfold sgnV
  rw [valU_putL,putL_len]
  generalize (256:Int) ^ w=m at *
  by_cases h0:0≤n
  · rw [Int.emod_eq_of_lt h0 ZO,if_pos h.2]
  · have e1 : n % m = n + m := by
     have:=Int.add_mul_emod_self_left (n+m) m (-1)
     rw [show n+m+m * -1=n by omega] at this
     rw [this,Int.emod_eq_of_lt ZO ZO]
    rw [e1,if_neg ZO];omega
 rw [e]
theorem flag2:Inv2 flagX (fun b=>putL (flagN b) 1) (fun _=>True):=by
 intro b r _
 dsimp only
 unfold flagX
 rw [inv2_bnd (num2 1 (by decide)) (by unfold flagN;split <;> decide)]
 cases b <;> rfl
theorem txt2:Inv2 (txtX 255) txtP (fun s=>s.size≤255):=by
 intro s r h
 have h:s.size≤255:=h
 unfold txtX txtP
 have hl:=txtL_len s
 rw [Nat.min_eq_left h,List.append_assoc,inv2_bnd (num2 1 (by decide)) (by constructor <;> omega),List.take_of_length_le ZO,Int.toNat_natCast]
 rw [if_neg (by rw [List.length_append];omega),← hl,List.take_left,List.drop_left,bytesS_txtL]
theorem rep2 {α:Type}{p:Pr α}{q:α→List Int}{dom:α→Prop}(h:Inv2 p q dom):∀ (l:List α) (r:List Int),(∀ v ∈ l,dom v)→repX p l.length (l.flatMap q++r)=.ok (l,r)
 | [],r,_=>rfl
 | v :: l,r,hd=>by
  rw [List.length_cons,List.flatMap_cons,List.append_assoc]
  show bnd p (fun x=>bnd (repX p l.length) fun l=>pur (x :: l)) _=_
  rw [inv2_bnd h (hd v List.mem_cons_self),bnd_to (rep2 h l r (fun u hu=>hd u (List.mem_cons_of_mem _ hu)))]
  rfl
theorem list2 {α:Type}{p:Pr α}{q:α→List Int}{dom:α→Prop}(h:Inv2 p q dom):Inv2 (listX p) (lstP q) (fun l=>l.length≤255∧∀ v ∈ l,dom v):=by
 intro l r hd
 unfold listX lstP
 rw [List.append_assoc,inv2_bnd (num2 1 (by decide)) (by constructor <;> omega),Int.toNat_natCast]
 exact rep2 h l r hd.2
def byteN (n:Int):Prop:=0≤n∧n<256
theorem byt2:Inv2 (numX 1) (putL · 1) byteN:=num2 1 (by decide)
theorem two2:Inv2 (numX 2) (putL · 2) (fun n=>0≤n∧n<65536):=num2 2 (by decide)
structure SymD (x:ApiSymbol):Prop where
  name:x.fName.size≤255
  sort:byteN x.fSort
  kind:byteN x.fKind
  def_ : -128≤x.fDef∧x.fDef<128
theorem sym2:Inv2 symX symP SymD:=by
 intro x r h
 unfold symX symP
 simp only [List.append_assoc]
 rw [inv2_bnd txt2 h.name,inv2_bnd flag2 trivial,inv2_bnd byt2 h.sort,inv2_bnd byt2 h.kind,inv2_bnd (sgn2 1) (by have:=h.def_;constructor <;> omega)]
 rfl
structure InsD (x:ApiInstr):Prop where
  op:byteN x.fOp
  a:byteN x.fA
  b:byteN x.fB
  c:byteN x.fC
  n : -2147483648≤x.fN∧x.fN≤2147483647
  chk:icF x=0
theorem ins2:Inv2 insX insP InsD:=by
 intro x r h
 unfold insX insP
 simp only [List.append_assoc]
 rw [inv2_bnd byt2 h.op,inv2_bnd byt2 h.a,inv2_bnd byt2 h.b,inv2_bnd byt2 h.c,inv2_bnd (sgn2 4) (by have:=h.n;constructor <;> omega)]
 rw [if_neg (by rw [show (⟨x.fOp,x.fA,x.fB,x.fC,x.fN⟩:ApiInstr)=x from rfl,h.chk];simp)]
 rfl
def LinD (x:ApiLine):Prop:=byteN x.fAt∧0≤x.fLine∧x.fLine<65536
theorem lin2:Inv2 linX linP LinD:=by
 intro x r h
 unfold linX linP
 rw [List.append_assoc,inv2_bnd byt2 h.1,inv2_bnd two2 h.2]
 rfl
def RelD (x:ApiReloc):Prop:=byteN x.fAt∧byteN x.fSym
theorem rel2:Inv2 relX relP RelD:=by
 intro x r h
 unfold relX relP
 simp only [List.append_assoc]
 rw [inv2_bnd byt2 h.1,inv2_bnd byt2 h.2,inv2_bnd flag2 trivial]
 rfl
def Sml {α:Type}(dom:α→Prop) (l:List α):Prop:=l.length≤255∧∀ v ∈ l,dom v
structure FunD (f:ApiFunc):Prop where
  cls:byteN f.fClass
  kinds:Sml byteN f.fKinds
  pad:0≤f.fPad∧f.fPad<65536
  from_:byteN f.fFrom
  to_:byteN f.fTo
  lines:Sml LinD f.fLines
  code:Sml InsD f.fCode
  rels:Sml RelD f.fRelocs
theorem fun2:Inv2 funX funP FunD:=by
 intro f r h
 unfold funX funP
 simp only [List.append_assoc]
 rw [inv2_bnd byt2 h.cls,inv2_bnd (list2 byt2) h.kinds,inv2_bnd two2 h.pad,inv2_bnd flag2 trivial,inv2_bnd byt2 h.from_,inv2_bnd byt2 h.to_,inv2_bnd (list2 lin2) h.lines,inv2_bnd (list2 ins2) h.code,inv2_bnd (list2 rel2) h.rels]
 rfl
structure DatD (d:ApiData):Prop where
  kind:byteN d.fKind
  words:Sml in64 d.fWords
  rels:Sml RelD d.fRelocs
theorem dat2:Inv2 datX datP DatD:=by
 intro d r h
 unfold datX datP
 simp only [List.append_assoc]
 rw [inv2_bnd byt2 h.kind,inv2_bnd (list2 num8) h.words,inv2_bnd (list2 rel2) h.rels]
 rfl
structure ObjD (o:ApiObject):Prop where
  syms:Sml SymD o.fSymbols
  funs:Sml FunD o.fFuncs
  dats:Sml DatD o.fDatas
theorem inn_put {o:ApiObject}(h:ObjD o):innX (innP o)=.ok o:=by
 unfold innX
 rw [if_neg (by unfold innP magicL;rw [List.length_append];simp),if_neg (by unfold innP magicL;simp)]
 have e:(innP o).drop 4=lstP symP o.fSymbols++(lstP funP o.fFuncs++(lstP datP o.fDatas++[])):=by unfold innP magicL;simp
 rw [e,inv2_bnd (list2 sym2) h.syms,inv2_bnd (list2 fun2) h.funs,inv2_bnd (list2 dat2) h.dats]
 rfl
theorem opn_seal {l:List Int} : opnF (sealP l)=.ok l:=by
 unfold opnF sealP
 have hl:(l++putL (sumF l) 4).length-4=l.length:=by rw [List.length_append,putL_len];omega
 have hs:=sumF_in l
 rw [if_neg (by rw [List.length_append,putL_len];omega),hl,List.take_left,List.drop_left,valU_putL,if_neg]
 rw [Int.emod_eq_of_lt hs.1 (by rw [show (256:Int) ^ 4=4294967296 from by decide];exact hs.2)]
 simp
theorem put_get {o:ApiObject}(h:ObjD o):getF (objP o)=.ok o:=by
 unfold getF objP
 rw [opn_seal]
 exact inn_put h
theorem adl_fst (l:List Int):∀ z:Int×Int,0≤z.1∧z.1<65521→(l.foldl (fun z x=>((z.1+x) % 65521,(z.2+(z.1+x) % 65521) % 65521)) z).1=(z.1+l.sum) % 65521:=by
 induction l with
 | nil=>intro z h;simp;omega
 | cons x l ih=>intro z h;rw [List.foldl_cons,ih _ (by dsimp only;omega),List.sum_cons];dsimp only;omega
theorem adl_one (l:List Int):(adl l).1=(1+l.sum) % 65521:=adl_fst l (1,0) (by decide)
theorem sum_set {l:List Int}{i:Nat}{x y:Int}(h:l[i]?=some x):(l.set i y).sum=l.sum-x+y:=by
 induction l generalizing i with
 | nil=>simp at h
 | cons a l ih=>
  cases i with
  | zero=>simp at h;subst h;simp;omega
  | succ i=>simp at h;simp [ih h];omega
theorem valU_set {l:List Int}(hb:Byts l) {i:Nat}{x y:Int}(h:l[i]?=some x) (hy:0≤y∧y<256) (hne:y≠x):valU (l.set i y)≠valU l:=by
 intro he
 have hb2:Byts (l.set i y):=fun v hv=>by
  rcases List.mem_or_eq_of_mem_set hv with h1 | h1
  · exact hb v h1
  · rw [h1];exact hy
 have h1:=putL_valU hb
 have h2:=putL_valU hb2
 rw [List.length_set,he,h1] at h2
 have h3:(l.set i y)[i]?=some y:=by rw [List.getElem?_set];have:=(List.getElem?_eq_some_iff.1 h).1;simp [this]
 rw [← h2,h] at h3
 exact hne (Option.some.inj h3).symm
theorem opn_told {l:List Int}(hb:Byts l) {x:List Int}(ho:opnF l=.ok x) {i:Nat}{u y:Int}(hi:l[i]?=some u) (hy:0≤y∧y<256) (hne:y≠u):opnF (l.set i y)=.error 4:=by
 have hu:=hb u (List.mem_of_getElem? hi)
 unfold opnF at ho ⊢
 split at ho
 · cases ho
 · next k1=>
   split at ho
   · cases ho
   · next k2=>
     have k3:=Decidable.not_not.1 k2
     rw [List.length_set,if_neg k1,if_pos]
     have hil:=(List.getElem?_eq_some_iff.1 hi).1
     by_cases k:i<l.length-4
     · rw [List.drop_set,if_pos k,List.take_set,k3]
       intro he
       have h1:=adl_in (l.take (l.length-4))
       have h2:=adl_in ((l.take (l.length-4)).set i y)
       have e1:=adl_one (l.take (l.length-4))
       have e2:=adl_one ((l.take (l.length-4)).set i y)
       have hi2:(l.take (l.length-4))[i]?=some u:=by rw [List.getElem?_take,if_pos k];exact hi
       rw [sum_set hi2] at e2
       unfold sumF at he
       omega
     · have e:(l.take (l.length-4)).set i y=l.take (l.length-4):=List.set_eq_of_length_le (by rw [List.length_take];omega)
       rw [List.drop_set,if_neg k,List.take_set,e,← k3]
       have hi2:(l.drop (l.length-4))[i-(l.length-4)]?=some u:=by rw [List.getElem?_drop];rw [show l.length-4+(i-(l.length-4))=i by omega];exact hi
       exact valU_set (hb.drop _) hi2 hy hne
theorem get_told {l:List Int}(hb:Byts l) {x:List Int}(ho:opnF l=.ok x) {i:Nat}{u y:Int}(hi:l[i]?=some u) (hy:0≤y∧y<256) (hne:y≠u):getF (l.set i y)=.error 4:=by
 unfold getF;rw [opn_told hb ho hi hy hne]
end Go.Proofs.YtpmdhkjbhjgoaaaGreatD
namespace Go.Proofs.YtpmdhkjbhjgoaaaGreatO
set_option maxRecDepth 100000
set_option maxHeartbeats 4000000
open Go.RowKit Go.Proofs.YtpmdhkjbhjgoaaaGreatK Go.Proofs.YtpmdhkjbhjgoaaaGreatT Go.Proofs.YtpmdhkjbhjgoaaaGreatL Go.Proofs.YtpmdhkjbhjgoaaaGreatV Go.Proofs.YtpmdhkjbhjgoaaaGreatG Go.Proofs.YtpmdhkjbhjgoaaaGreatW

theorem few_good {o:ApiObject}(hv:vApiObject o) (h:FewB o):GoodO o:=⟨hv,Nat.le_trans h.syms (by decide),Nat.le_trans h.funcs (by decide),Nat.le_trans h.datas (by decide),fun f hf=>by have:=h.fun_ f hf;omega,fun d hd=>by have:=h.data d hd;omega⟩
theorem obj_zero {o:ApiObject}(h:objE o=0):(∀ k,k<o.fSymbols.length→symE o k=0)∧∀ i,i<o.fFuncs.length+o.fDatas.length→itemE o i=0:=by
 unfold objE at h
 split at h
 · omega
 · by_cases h2:fstE (symsL o)=0
   · rw [if_neg (by rw [h2];simp)] at h
     refine ⟨fun k hk=>fstE_zero.1 h2 _ (List.mem_map.2 ⟨k,List.mem_range.2 hk,rfl⟩),fun i hi=>fstE_zero.1 h _ (List.mem_map.2 ⟨i,List.mem_range.2 hi,rfl⟩)⟩
   · rw [if_pos h2] at h;exact absurd h h2
end Go.Proofs.YtpmdhkjbhjgoaaaGreatO
namespace Go.Proofs.YtpmdhkjbhjgoaaaGreatD
set_option maxRecDepth 100000
set_option maxHeartbeats 4000000
open Go.RowKit Go.Proofs.YtpmdhkjbhjgoaaaGreatK Go.Proofs.YtpmdhkjbhjgoaaaGreatT Go.Proofs.YtpmdhkjbhjgoaaaGreatV Go.Proofs.YtpmdhkjbhjgoaaaGreatW Go.Proofs.YtpmdhkjbhjgoaaaGreatO

theorem fst_all {l:List Int}(h:fstE l=0):∀ e ∈ l,e=0:=fstE_zero.1 h
theorem name_room {s:ByteArray}(h:nameF4 s=0):s.size≤255:=by
 unfold nameF4 at h
 split at h
 · omega
 · omega
theorem text_room {k:Int}(h:textF k≠ByteArray.empty):byteN k:=by
 have:=Decidable.not_not.1 (fun k'=>h (textF_no.2 k'))
 exact ⟨by omega,by omega⟩
theorem cls_room {k:Int}(h:isC k=true):byteN k:=by
 have:=isC_iff.1 h
 exact ⟨by omega,by omega⟩
theorem sym_room {o:ApiObject}{i:Nat}{x:ApiSymbol}(hm:¬ manyO o) (h:Go.Proofs.YtpmdhkjbhjgoaaaGreatW.symX o i x=0):SymD x:=by
 unfold Go.Proofs.YtpmdhkjbhjgoaaaGreatW.symX at h
 by_cases h1:nameF4 x.fName=0
 · rw [if_neg (by simpa using h1)] at h
   by_cases h2:kindB x=true
   · rw [if_pos h2] at h;omega
   · rw [if_neg h2] at h
     have hk:kindB x=false:=by simpa using h2
     split at h
     · omega
     · split at h
       · omega
       · next h4=>
         have hmo:(mostN o x:Int)≤12:=by
          have:¬ (32<o.fSymbols.length∨12<o.fFuncs.length∨8<o.fDatas.length):=hm
          unfold mostN;split <;> omega
         have hd : -128≤x.fDef∧x.fDef<128:=by
          by_cases h5:x.fDef = -1
          · omega
          · have h6 : x.fDef = (aheadN x (o.fSymbols.take i) : Int) ∧ ¬ (mostN o x : Int) ≤ x.fDef := by
             constructor
             · exact Decidable.not_not.1 (fun h7=>h4 ⟨h5,.inl h7⟩)
             · exact fun h7=>h4 ⟨h5,.inr h7⟩
            omega
         unfold kindB at hk
         simp only [Bool.or_eq_false_iff,Bool.and_eq_false_imp,decide_eq_false_iff_not,decide_eq_true_eq,Bool.not_eq_false'] at hk
         obtain ⟨⟨k1,k2⟩,k3⟩:=hk
         have hs:x.fSort=1∨x.fSort=2:=by
          by_cases e:x.fSort=1
          · exact .inl e
          · exact .inr (Decidable.not_not.1 (k1 e))
         refine ⟨name_room h1,?_,?_,hd⟩
         · rcases hs with e | e <;> rw [e] <;> exact ⟨by decide,by decide⟩
         · rcases hs with e | e
           · exact cls_room (by simpa using k2 e)
           · exact text_room (k3 e)
 · rw [if_pos h1] at h;exact absurd h h1
theorem ins_room {x:ApiInstr}(h:icF x=0):InsD x:=by
 have h0:=h
 unfold icF at h
 split at h
 · omega
 · next h1=>
   have hop:=Decidable.not_not.1 (fun k'=>h1 (nameF_no.2 k'))
   split at h
   · omega
   · next h2=>
     have h2:(List.range 3).any (badA x)=false:=by simpa using h2
     have hA:∀ j,j<3→badA x j=false:=fun j hj=>by
      have:=List.any_eq_false.1 h2 j (List.mem_range.2 hj)
      simpa using this
     split at h
     · omega
     · next h3=>
       have a0:=hA 0 (by decide)
       have a1:=hA 1 (by decide)
       have a2:=hA 2 (by decide)
       simp [badA,numsL] at a0 a1 a2
       exact ⟨⟨by omega,by omega⟩,⟨by omega,by omega⟩,⟨by omega,by omega⟩,⟨by omega,by omega⟩,⟨by omega,by omega⟩,h0⟩
theorem ris_room {n:Int} : ∀ {l:List Int}{last:Int},risF n last l=true→∀ a ∈ l,last<a∧a<n
 | [],_,_,a,ha=>by cases ha
 | b :: l,last,h,a,ha=>by
  unfold risF at h
  split at h
  · cases h
  · rcases List.mem_cons.1 ha with rfl | ha
    · constructor <;> omega
    · have:=ris_room h a ha
      constructor <;> omega
theorem fun_room {f:ApiFunc}(h:funF f=0) (hl:f.fRelocs.length≤100):FunD f:=by
 unfold funF at h
 split at h
 · next k=>exact absurd h k
 · next h1=>
   have h1:=Decidable.not_not.1 h1
   split at h
   · omega
   · next h2=>
     split at h
     · next k=>exact absurd h k
     · next h3=>
       have h3:=Decidable.not_not.1 h3
       split at h
       · omega
       · next h4=>
         split at h
         · next k=>exact absurd h k
         · next h5=>
           have h5:=Decidable.not_not.1 h5
           have hc:f.fCode.length≤64:=by
            have k:flowF f.fCode=0:=by
             unfold codeF at h3
             split at h3
             · next k=>exact absurd h3 k
             · next k=>exact Decidable.not_not.1 k
            unfold flowF at k
            split at k
            · omega
            · split at k
              · omega
              · omega
           have hcode:∀ x ∈ f.fCode,InsD x:=by
            intro x hx
            unfold codeF at h3
            split at h3
            · next k=>exact absurd h3 k
            · have:=fst_all h3 (ceF x) (List.mem_map.2 ⟨x,hx,rfl⟩)
              unfold ceF at this
              split at this
              · next k=>exact absurd this k
              · next k=>exact ins_room (Decidable.not_not.1 k)
           have hslots:isC f.fClass=true∧f.fKinds.length≤16∧∀ k ∈ f.fKinds,byteN k:=by
            unfold slotsF at h1
            split at h1
            · next k1=>
              split at h1
              · omega
              · next k2=>
                split at h1
                · omega
                · split at h1
                  · omega
                  · next k4=>
                    refine ⟨k1,by omega,fun k hk=>?_⟩
                    obtain ⟨i,hi⟩:=List.getElem?_of_mem hk
                    have k4:((List.range f.fKinds.length).any fun i=>kindBad (parF f.fClass) i (f.fKinds.getD i 0))=false:=by simpa using k4
                    have:=List.any_eq_false.1 k4 i (List.mem_range.2 (List.getElem?_eq_some_iff.1 hi).1)
                    have this:kindBad (parF f.fClass) i (f.fKinds.getD i 0)=false:=by simpa using this
                    rw [getDat hi] at this
                    unfold kindBad at this
                    simp only [Bool.or_eq_false_iff,decide_eq_false_iff_not] at this
                    exact text_room this.1
            · omega
           have hlines:Sml LinD f.fLines:=by
            unfold linesF at h5
            split at h5
            · omega
            · next k1=>
              split at h5
              · omega
              · next k2=>
                have k2:f.fLines.any lineBad=false:=by simpa using k2
                split at h5
                · omega
                · next k3=>
                  have k4:risF f.fCode.length (-1) (f.fLines.map (·.fAt))=true:=by
                   cases hr:risF f.fCode.length (-1) (f.fLines.map (·.fAt)) with
                   | true=>rfl
                   | false=>exact absurd (.inr hr) k3
                  refine ⟨by omega,fun x hx=>?_⟩
                  have h6:=ris_room k4 x.fAt (List.mem_map.2 ⟨x,hx,rfl⟩)
                  have h7:lineBad x=false:=by have:=List.any_eq_false.1 k2 x hx;simpa using this
                  simp [lineBad] at h7
                  exact ⟨⟨by omega,by omega⟩,by omega,by omega⟩
           have hrels:Sml RelD f.fRelocs:=by
            unfold relocsF at h
            split at h
            · omega
            · next k1=>
              have k1:f.fRelocs.any relBad=false:=by simpa using k1
              split at h
              · next k2=>
                refine ⟨by omega,fun x hx=>?_⟩
                have h6:=ris_room k2 x.fAt (List.mem_map.2 ⟨x,hx,rfl⟩)
                have h7:relBad x=false:=by have:=List.any_eq_false.1 k1 x hx;simpa using this
                simp [relBad] at h7
                exact ⟨⟨by omega,by omega⟩,by omega,by omega⟩
              · omega
           exact ⟨cls_room hslots.1,⟨by omega,hslots.2.2⟩,⟨by omega,by omega⟩,⟨by omega,by omega⟩,⟨by omega,by omega⟩,hlines,⟨by omega,hcode⟩,hrels⟩
theorem dat_room {d:ApiData}{l:List ApiSymbol}(hl:l.length≤60) (h:dataF d l=0) (hr:d.fRelocs.length≤100) (hw:∀ n ∈ d.fWords,in64 n):DatD d:=by
 unfold dataF at h
 split at h
 · omega
 · next h1=>
   split at h
   · omega
   · next h2=>
     split at h
     · omega
     · next h3=>
       refine ⟨text_room h1,⟨by omega,hw⟩,by omega,fun x hx=>?_⟩
       obtain ⟨i,hi⟩:=List.getElem?_of_mem hx
       have:=fst_all h (relE d l i) (List.mem_map.2 ⟨i,List.mem_range.2 (List.getElem?_eq_some_iff.1 hi).1,rfl⟩)
       rw [relE_at hi] at this
       unfold dRelE at this
       split at this
       · omega
       · next h5=>exact ⟨⟨by omega,by omega⟩,by omega,by omega⟩
theorem obj_room {o:ApiObject}(hf:FewB o) (hv:vApiObject o) (h:objE o=0):ObjD o:=by
 have hm:¬ manyO o:=by
  intro hm
  unfold objE at h
  rw [if_pos hm] at h
  omega
 obtain ⟨hs,hi⟩:=obj_zero h
 have h1:=hf.syms
 have h2:=hf.funcs
 have h3:=hf.datas
 refine ⟨⟨by omega,fun x hx=>?_⟩,⟨by omega,fun f hf'=>?_⟩,by omega,fun d hd=>?_⟩
 · obtain ⟨i,hi⟩:=List.getElem?_of_mem hx
   have:=hs i (List.getElem?_eq_some_iff.1 hi).1
   rw [symE_at hi] at this
   exact sym_room hm this
 · obtain ⟨i,hfi⟩:=List.getElem?_of_mem hf'
   have hil:=(List.getElem?_eq_some_iff.1 hfi).1
   have:=hi i ZO
   unfold itemE at this
   split at this
   · omega
   · rw [if_neg ZO] at this
     split at this
     · omega
     · unfold funE at this
       split at this
       · next k=>exact absurd this k
       · next k=>
         have k:=Decidable.not_not.1 k
         rw [getDat hfi] at k
         unfold chkE at k
         split at k
         · next k2=>exact absurd k k2
         · next k2=>exact fun_room (Decidable.not_not.1 k2) (hf.fun_ f hf').2.2.2
 · obtain ⟨i,hdi⟩:=List.getElem?_of_mem hd
   have hil:=(List.getElem?_eq_some_iff.1 hdi).1
   have:=hi (o.fFuncs.length+i) ZO
   unfold itemE at this
   split at this
   · omega
   · rw [if_pos ZO] at this
     split at this
     · omega
     · rw [show o.fFuncs.length+i-o.fFuncs.length=i by omega,getDat hdi] at this
       exact dat_room h1 this (hf.data d hd).2 ((hv.2.2.2 d hd).2.1.2)
open Go.Proofs.YtpmdhkjbhjgoaaaGreatW (GoodO objE objI manyO)
open Go.Proofs.YtpmdhkjbhjgoaaaGreatO (nilO nil_K nil_good oSliceU C_take)
theorem opn_err {l:List Int}{e:Int}(h:opnF l=.error e):e≠0:=by
 unfold opnF at h
 split at h
 · rw [← Except.error.inj h];decide
 · split at h
   · rw [← Except.error.inj h];decide
   · cases h
theorem dm_bnd {α β:Type}{p:Pr α}{f:α→Pr β}(h1:∀ r e,p r=.error e→e≠0) (h2:∀ a r e,f a r=.error e→e≠0):∀ r e,bnd p f r=.error e→e≠0:=by
 intro r e h
 cases hp:p r with
 | error x=>rw [bnd_err hp] at h;rw [← Except.error.inj h];exact h1 r x hp
 | ok z=>obtain ⟨a,r'⟩:=z;rw [bnd_to hp] at h;exact h2 a r' e h
theorem num_ne (w:Nat):∀ r e,numX w r=.error e→e≠0:=by
 intro r e h
 rw [num_err5 h];decide
theorem sgn_ne (w:Nat):∀ r e,sgnX w r=.error e→e≠0:=by
 intro r e h
 unfold sgnX at h
 split at h
 · rw [← Except.error.inj h];decide
 · cases h
theorem pur_ne {α:Type}(a:α):∀ r e,(pur a:Pr α) r=.error e→e≠0:=fun r e h=>by cases h
theorem txt_ne (m:Nat):∀ r e,txtX m r=.error e→e≠0:=dm_bnd (num_ne 1) (fun n r e h=>by
 split at h
 · rw [← Except.error.inj h];decide
 · cases h)
theorem flag_ne:∀ r e,flagX r=.error e→e≠0:=dm_bnd (num_ne 1) (fun n r e h=>by
 split at h
 · rw [← Except.error.inj h];decide
 · cases h)
theorem rep_ne {α:Type}{p:Pr α}(h:∀ r e,p r=.error e→e≠0):∀ n r e,repX p n r=.error e→e≠0
 | 0=>fun r e k=>by cases k
 | n+1=>dm_bnd h (fun a=>dm_bnd (rep_ne h n) (fun l=>pur_ne _))
theorem list_ne {α:Type}{p:Pr α}(h:∀ r e,p r=.error e→e≠0):∀ r e,listX p r=.error e→e≠0:=dm_bnd (num_ne 1) (fun n=>rep_ne h _)
theorem sym_ne:∀ r e,symX r=.error e→e≠0:=dm_bnd (txt_ne _) (fun _=>dm_bnd flag_ne (fun _=>dm_bnd (num_ne 1) (fun _=>dm_bnd (num_ne 1) (fun _=>dm_bnd (sgn_ne 1) (fun _=>pur_ne _)))))
theorem ins_ne:∀ r e,insX r=.error e→e≠0:=dm_bnd (num_ne 1) (fun _=>dm_bnd (num_ne 1) (fun _=>dm_bnd (num_ne 1) (fun _=>dm_bnd (num_ne 1) (fun _=>dm_bnd (sgn_ne 4) (fun _ r e h=>by
 split at h
 · next k=>rw [← Except.error.inj h];exact k
 · cases h)))))
theorem lin_ne:∀ r e,linX r=.error e→e≠0:=dm_bnd (num_ne 1) (fun _=>dm_bnd (num_ne 2) (fun _=>pur_ne _))
theorem rel_ne:∀ r e,relX r=.error e→e≠0:=dm_bnd (num_ne 1) (fun _=>dm_bnd (num_ne 1) (fun _=>dm_bnd flag_ne (fun _=>pur_ne _)))
theorem fun_ne:∀ r e,funX r=.error e→e≠0:=dm_bnd (num_ne 1) (fun _=>dm_bnd (list_ne (num_ne 1)) (fun _=>dm_bnd (num_ne 2) (fun _=>dm_bnd flag_ne (fun _=>dm_bnd (num_ne 1) (fun _=>dm_bnd (num_ne 1) (fun _=>dm_bnd (list_ne lin_ne) (fun _=>dm_bnd (list_ne ins_ne) (fun _=>dm_bnd (list_ne rel_ne) (fun _=>pur_ne _)))))))))
theorem dat_ne:∀ r e,datX r=.error e→e≠0:=dm_bnd (num_ne 1) (fun _=>dm_bnd (list_ne (num_ne 8)) (fun _=>dm_bnd (list_ne rel_ne) (fun _=>pur_ne _)))
theorem inn_ne {l:List Int}{e:Int}(h:innX l=.error e):e≠0:=by
 unfold innX at h
 split at h
 · rw [← Except.error.inj h];decide
 · split at h
   · rw [← Except.error.inj h];decide
   · split at h
     · cases h
     · rw [← Except.error.inj h];decide
     · next e' he=>
       rw [← Except.error.inj h]
       exact dm_bnd (list_ne sym_ne) (fun _=>dm_bnd (list_ne fun_ne) (fun _=>dm_bnd (list_ne dat_ne) (fun _=>pur_ne _))) _ _ he
theorem get_err {l:List Int}{e:Int}(h:getF l=.error e):e≠0:=by
 unfold getF at h
 cases ho:opnF l with
 | error x=>rw [ho] at h;rw [← Except.error.inj h];exact opn_err ho
 | ok x=>rw [ho] at h;exact inn_ne h
def errO (σ:Except Int ApiObject):Int:=match σ with
  | .ok _=>0
  | .error e=>e
def valO (σ:Except Int ApiObject):ApiObject:=match σ with
  | .ok o=>o
  | .error _=>nilO
noncomputable def rdE (l:List Int):Int:=match getF l with
  | .ok o=>objE o
  | .error e=>e
noncomputable def rdI (l:List Int):Int:=match getF l with
  | .ok o=>if objE o=0 then -1 else objI o
  | .error _=>-1
noncomputable def rdV (l:List Int):ApiObject:=match getF l with
  | .ok o=>if objE o=0 then o else nilO
  | .error _=>nilO
noncomputable def wrI (o:ApiObject):Int:=if objE o=0 then -1 else objI o
noncomputable def wrV (o:ApiObject):List Int:=if objE o=0 then objP o else []
theorem sml_of {o:ApiObject}(hg:GoodO o) (h:objE o=0):SmlO o:=by
 have hm:¬ manyO o:=fun hm=>by unfold objE at h;rw [if_pos hm] at h;omega
 have hm:¬ (32<o.fSymbols.length∨12<o.fFuncs.length∨8<o.fDatas.length):=hm
 exact ⟨by omega,by omega,by omega,hg.fun_,hg.data⟩
open Go.Proofs.YtpmdhkjbhjgoaaaGreatO (nilO nil_K nil_good oSliceU C_take obj_Check)
structure KO where
  ss:List ApiSymbol
  sA:Option Addr
  sc:Nat
  fs:List ApiFunc
  rf:List (List Value)
  fA:Option Addr
  fc:Nat
  fS:Nat→Prop
  ds:List ApiData
  rd:List (List Value)
  dA:Option Addr
  dc:Nat
  dS:Nat→Prop
def KO.ok (k:KO):Prop:=k.rf.length=k.fs.length∧k.rd.length=k.ds.length
def koS (W0:World) (bo:Nat) (k:KO):List Res:=[blk bo 26 [.slice k.sA k.ss.length k.sc,.slice k.fA k.rf.length k.fc,.slice k.dA k.rd.length k.dc],row kApiSymbol W0 44 (.slice k.sA (k.ss).length k.sc) (k.ss),row (kRaw 9) W0 51 (.slice k.fA (k.rf).length k.fc) (k.rf),hold W0 k.fS (fun w=>Raws kApiFunc w (k.fs) (k.rf)),row (kRaw 3) W0 55 (.slice k.dA (k.rd).length k.dc) (k.rd),hold W0 k.dS (fun w=>Raws kApiData w (k.ds) (k.rd))]
theorem unp2 {B:Base}{w:World}{a:Res}{Ψ:List Res}(h:St B [a,bun Ψ] w):St B (Ψ++[a]) w:=
 (h.perm (List.Perm.swap _ _ _)).unpack
theorem pk2 {B:Base}{H Ψ:List Res}{a:Res}(h:Leads B H (Ψ++[a])):Leads B H [a,bun Ψ]:=fun w hS=>by
 have h2:St B (bun Ψ :: [a]) w:=(h w hS).pack
 exact h2.perm (List.Perm.swap _ _ _)
theorem part_step {α κ:Type}{p:Pr α}{l:List Int}{σ:Except Int (List α×List Int)}{vl:κ→List α}{ok:κ→Prop}{sm:κ→κ→Prop}{k0 k k':κ}{s s':Rs}{e':Int}{acc:List α}{x:α}{i N:Nat}(hL:LInv p l σ s acc i N) (hi:i<N) (hv:vl k=vl k0++acc) (hac:acc.length=i) (hsm:sm k0 k) (htr:∀ a b c,sm a b→sm b c→sm a c) (g:Got l (p (l.drop s.1)) e' x s') (u:e'=0→vl k'=vl k++[x]∧ok k'∧sm k k') (h0:e'=0) :
 LInv p l σ s' (acc++[x]) (i+1) N∧vl k'=vl k0++(acc++[x])∧(acc++[x]).length=i+1∧ok k'∧sm k0 k':=by
 obtain ⟨h1,h2,h3⟩:=(got_inv g).1 h0
 obtain ⟨u1,u2,u3⟩:=u h0
 exact ⟨linv_step hL hi h1 h2 h3,by rw [u1,hv,List.append_assoc],by rw [List.length_append,hac];rfl,u2,htr _ _ _ hsm u3⟩
theorem file_part1 {α κ:Type}{B:Base}{w:World}(br b0 b1:Nat) (A:Option Addr) (cp:Nat) (l:List Int) (p:Pr α) (P:κ→Res) (vl:κ→List α) (ok:κ→Prop) (sm:κ→κ→Prop) (hrf:∀ k,sm k k) (htr:∀ a b c,sm a b→sm b c→sm a c) (gf:Nat) (lb:Array Value) (hg:goodF Tryz.prog gf=true) (hl:l.length≤900000) (hb:Byts l) (hcp:l.length≤cp) (W0:World) (hW:Grow W0 B.e) (hC0:(Kd.int .u8).C W0 A l) (hr0:W0.cell? ⟨b0,0,none⟩=some (.pointer (some ⟨br,0,none⟩))) (hr1:W0.cell? ⟨b1,0,none⟩=some (.func (.func gf) #[] lb))
 (hh:∀ B' w (k:κ) (s:Rs),Grow W0 B'.e→s.1≤l.length→s.2=false→(vl k).length≤600→ok k→St B' [blk br 96 [.slice A l.length cp,.int .i64 ((s.1:Nat):Int),.bool true,.bool s.2],P k] w→CW gf (#[]++([]:List Value).toArray++lb) w (Ret B' (fun z:κ×Rs×Int×α=>z.2.1.1≤l.length∧Got l (p (l.drop s.1)) z.2.2.1 z.2.2.2 z.2.1∧(z.2.2.1=0→vl z.1=vl k++[z.2.2.2]∧ok z.1∧sm k z.1)) (fun z=>.int .i64 z.2.2.1) (fun z=>[blk br 96 [.slice A l.length cp,.int .i64 ((z.2.1.1:Nat):Int),.bool true,.bool z.2.1.2],P z.1])))
 (k0:κ) (hk0:(vl k0).length≤300) (hok:ok k0) (a:Nat) (d:Bool) (hat:a≤l.length) (hS:St B [blk br 96 [.slice A l.length cp,.int .i64 ((a:Nat):Int),.bool true,.bool d],P k0] w) :
 CW 56 #[.pointer (some ⟨b0,0,none⟩),.pointer (some ⟨b1,0,none⟩)] w (Ret B (fun z:κ×Rs×Int×List α=>z.2.1.1≤l.length∧Got l (ifR l (listX p) (a,d)) z.2.2.1 z.2.2.2 z.2.1∧(z.2.2.1=0→vl z.1=vl k0++z.2.2.2∧ok z.1∧sm k0 z.1)) (fun z=>.int .i64 z.2.2.1) (fun z=>[blk br 96 [.slice A l.length cp,.int .i64 ((z.2.1.1:Nat):Int),.bool true,.bool z.2.1.2],P z.1])):=by
 have hC:=Kd.C_grow hW hC0
 refine ZX Tryz.func56 hS ?_
 refine Zh (Zi (Zp J (Zn (Za (Zh (Zh (Zi ?_)))))))
 first | refine oLd rfl ZP rfl rfl ?_ | refine oLdE rfl (hW _ _ hr0) rfl ?_
 (refine ZC0 rfl ZK (fun w hS=>frame hS ZQ (fun B' hB hS'=>rd_Num br A cp l a d hS' hat hl hb hcp (Kd.C_grow hB hC) 1 (by decide))) ?_;rintro ⟨⟨a1,d1⟩,n1⟩ h1)
 have hn1:=rawN_in hb h1
 refine Zo J (Zn (Za (Zk (wLoop (ι:=Nat×κ×Rs×List α) (fun z=>[(0,.pointer (some ⟨b0,0,none⟩)),(1,.pointer (some ⟨b1,0,none⟩)),(5,.int .i64 n1),(6,.int .i64 (z.1:Int))]) (fun z=>[blk br 96 [.slice A l.length cp,.int .i64 ((z.2.2.1.1:Nat):Int),.bool true,.bool z.2.2.1.2],P z.2.1]) (fun z=>LInv p l (ifR l (listX p) (a,d)) z.2.2.1 z.2.2.2 z.1 n1.toNat∧vl z.2.1=vl k0++z.2.2.2∧z.2.2.2.length=z.1∧ok z.2.1∧sm k0 z.2.1) (fun z=>n1.toNat-z.1) (0,k0,(a1,d1),[]) ?_ cv (Leads.has ZQ) ?_))))
 exact ⟨linv_start p h1 hat,by rw [List.append_nil],rfl,hok,hrf k0⟩
 rintro ⟨i,k,⟨a2,d2⟩,acc⟩ ⟨hL,hv,hac,hko,hsm⟩
 dsimp only at hL hv hac hko hsm
 try dsimp only
 refine Zh (Zi (Zx J J (Zn (Za (Zh (wC (fun h7=>?_) (fun h7=>?_)))))))
 have hi:i<n1.toNat:=by omega
 obtain ⟨hd2,-⟩:=linv_live hL hi
 have hd2:d2=false:=hd2
 subst hd2
 have hvl:(vl k).length≤600:=by rw [hv,List.length_append,hac];omega
 refine Zj (Za (Zh (Zk (Zh (Zi ?_)))))
 first | refine oLd rfl ZP rfl rfl ?_ | refine oLdE rfl (hW _ _ hr1) rfl ?_
 (refine oCallV rfl rfl rfl hg (fun w hS=>frame hS ZQ (fun B' hB hS'=>hh B' w k (a2,false) (hW.trans hB) hL.1 rfl hvl hko hS')) ?_;rintro ⟨k',⟨a3,d3⟩,e3,x3⟩ ⟨h3,g3,u3⟩;dsimp only at h3 g3 u3)
 refine Zp J (Zn (Za (Zh (Zi (Zo J (Z0 J J (Zn (Za (wC (fun h11=>?_) (fun h11=>?_))))))))))
 refine Zh (Zi (Zo J (Zzc ?_)))
 exact ⟨(k',(a3,d3),e3,[]),⟨h3,got_err (linv_err hL hi ((got_inv g3).2 h11)) h11,fun h=>absurd h h11⟩,rfl,Lh⟩
 refine Zj (Zze ?_)
 refine Zo J (Zn (Za ?_))
 exact ⟨rfl,(i+1,k',(a3,d3),acc++[x3]),part_step hL hi hv hac hsm htr g3 u3 (Decidable.not_not.1 h11),by show n1.toNat-(i+1)<n1.toNat-i;omega,cv,Lh⟩
 obtain rfl:i=n1.toNat:=by have:=hL.2.1;omega
 have hE:=linv_end hL
 refine Zm (Zb (Zb (Ze (Za (Zh (Zh (Zi ?_)))))))
 first | refine oLd rfl ZP rfl rfl ?_ | refine oLdE rfl (hW _ _ hr0) rfl ?_
 (refine ZC0 rfl ZK (fun w hS=>frame hS ZQ (fun B' hB hS'=>rd_Bad br A cp l a2 d2 hS')) ?_;rintro ⟨⟩ -)
 refine Zn (Za (wC (fun h15=>?_) (fun h15=>?_)))
 refine Zh (Zi (Zzb ?_))
 exact ⟨(k,(a2,d2),5,[]),⟨hL.1,got_err (hE.2 h15) (by decide:(5:Int)≠0),fun h=>absurd h (by decide:¬ (5:Int)=0)⟩,rfl,Lh⟩
 refine Zj (Za (Zh (Zi (Zzh ?_))))
 exact ⟨(k,(a2,d2),0,acc),⟨hL.1,got_ok (hE.1 h15) h15 hL.1,fun _=>⟨hv,hko,hsm⟩⟩,rfl,Lh⟩
theorem file_keep0 {B:Base}{w:World}(br bo b3 b4 b5:Nat) (A:Option Addr) (cp:Nat) (l:List Int) (hl:l.length≤900000) (hb:Byts l) (hcp:l.length≤cp) (W0 W1:World) (hW:Grow W1 B.e) (hC0:(Kd.int .u8).C W1 A l) (hr3:W1.cell? ⟨b3,0,none⟩=some (.pointer (some ⟨bo,0,none⟩))) (hr4:W1.cell? ⟨b4,0,none⟩=some (.func (.func 26) #[] #[])) (hr5:W1.cell? ⟨b5,0,none⟩=some (.pointer (some ⟨br,0,none⟩))) (k:KO) (s:Rs) (hat:s.1≤l.length) (hs:s.2=false) (hk:k.ss.length≤600) (hok:k.ok) (hS:St B [blk br 96 [.slice A l.length cp,.int .i64 ((s.1:Nat):Int),.bool true,.bool s.2],bun (koS W0 bo k)] w) :
 CW 58 #[.pointer (some ⟨b4,0,none⟩),.pointer (some ⟨b5,0,none⟩),.pointer (some ⟨b3,0,none⟩)] w (Ret B (fun z:KO×Rs×Int×ApiSymbol=>z.2.1.1≤l.length∧Got l (symX (l.drop s.1)) z.2.2.1 z.2.2.2 z.2.1∧(z.2.2.1=0→z.1.ss=k.ss++[z.2.2.2]∧z.1.ok∧(z.1.fs=k.fs∧z.1.ds=k.ds))) (fun z=>.int .i64 z.2.2.1) (fun z=>[blk br 96 [.slice A l.length cp,.int .i64 ((z.2.1.1:Nat):Int),.bool true,.bool z.2.1.2],bun (koS W0 bo z.1)])):=by
 obtain ⟨a,d⟩:=s
 obtain rfl:d=false:=hs
 have hC:=Kd.C_grow hW hC0
 obtain ⟨hok1,hok2⟩:=hok
 dsimp only at hat
 have hS:=unp2 hS
 unfold koS at hS
 refine ZX Tryz.func58 hS ?_
 refine Zh (Zi (Zp J (Zn (Za (Zh (Zi ?_))))))
 first | refine oLd rfl ZP rfl rfl ?_ | refine oLdE rfl (hW _ _ hr4) rfl ?_
 first | refine oLd rfl ZP rfl rfl ?_ | refine oLdE rfl (hW _ _ hr5) rfl ?_
 (refine oCallV rfl rfl rfl ZK (fun w hS=>frame hS ZQ (fun B' hB hS'=>file_symbol br A cp l a hS' hat hl hb hcp (Kd.C_grow hB hC))) ?_;rintro ⟨e1,x1,a1,d1⟩ ⟨g1,ha1⟩;dsimp only at g1 ha1)
 refine Zo J (oExt J ZP ?_)
 refine oExt J ZP ?_
 refine oAlloc J ZP (fun b4=>?_)
 refine Zsa ?_
 refine Zp J (Zn (Za (Zh (Zh (Zi (Zo J (Zy J J (Zn (Za (wC (fun h13=>?_) (fun h13=>?_)))))))))))
 refine wDrawG J [0,1,2,3,4] [(5,[0,1,2,3],[]),(6,[0],[])] [7,8] 24 ZK J J (fun w0=>?_)
 first | refine oLd rfl ZP rfl rfl ?_ | refine oLdE rfl (hW _ _ hr3) rfl ?_
 first | refine oLd rfl ZP rfl rfl ?_ | refine oLdE rfl (hW _ _ hr3) rfl ?_
 refine Z3 J (Zld ?_)
 refine Zla ?_
 refine Z4 (Z5 J (oBuildSlice1 J J J J J ZP J (fun b19=>?_)))
 refine ZG ?_ J (fun w0=>?_)
 refine Z8 J J J J (fun w0=>?_) ?_
 first | refine oLd rfl ZP rfl rfl ?_ | refine oLdE rfl (hW _ _ hr3) rfl ?_
 exact Z9 rfl
 refine Z8 J J J J (fun w0=>?_) ?_
 first | refine oLd rfl ZP rfl rfl ?_ | refine oLdE rfl (hW _ _ hr3) rfl ?_
 exact Z9 rfl
 refine Z8 J J J J (fun w0=>?_) ?_
 refine Z3 J ?_
 exact Z9 rfl
 refine Z8 J J J J (fun w0=>?_) ?_
 refine Zld ?_
 exact Z9 rfl
 exact AgainG.nil
 refine Z4 (Z5 J (oApp1 (kd:=kApiSymbol) x1 J J J J ZP ZP (kApiSymbol_mk _ x1) ZO J (fun g20 cp20=>?_)))
 refine ZG ?_ J (fun w0=>?_)
 refine Z8 J J J J (fun w0=>?_) ?_
 first | refine oLd rfl ZP rfl rfl ?_ | refine oLdE rfl (hW _ _ hr3) rfl ?_
 exact Z9 rfl
 exact AgainG.nil
 refine Z6 (Z3 J (Zst ?_))
 refine Zn (Zzq ?_)
 exact ⟨({ k with ss:=k.ss++[x1],sA:=some ⟨g20,0,none⟩,sc:=cp20 },(a1,d1),e1,x1),⟨ha1,g1,fun _=>⟨rfl,⟨hok1,hok2⟩,rfl,rfl⟩⟩,rfl,pk2 (by unfold koS;dsimp only;rw [List.length_append];exact Lh)⟩
 refine Zj (Zzq ?_)
 exact ⟨(k,(a1,d1),e1,x1),⟨ha1,g1,fun h=>absurd h h13⟩,rfl,pk2 (by unfold koS;exact Lh)⟩
theorem keep0 {B:Base}{w:World}(hS:St B [] w) (ad:Addr) (br:Nat) :
 CW 25 #[.pointer (some ad),.func (.func 26) #[] #[],.pointer (some ⟨br,0,none⟩)] w (Ret B (fun _:Nat×Nat×Nat=>True) (fun z=>.func (.func 58) #[] #[.pointer (some ⟨z.2.1,0,none⟩),.pointer (some ⟨z.2.2,0,none⟩),.pointer (some ⟨z.1,0,none⟩)]) (fun z=>[blk z.1 65 [.pointer (some ad)],blk z.2.1 66 [.func (.func 26) #[] #[]],blk z.2.2 59 [.pointer (some ⟨br,0,none⟩)]])):=by
 refine ZX Tryz.func25 hS ?_
 refine Zh (Zi (oBox J ZP (fun b3=>?_)))
 refine oBox J ZP (fun b4=>?_)
 refine oBox J ZP (fun b5=>?_)
 refine Zp J (Zn (Za (Zh (Zi (oMakeFuncB J J (Zzh ?_))))))
 exact ⟨(b3,b4,b5),trivial,rfl,Lh⟩
theorem file_keep1 {B:Base}{w:World}(br bo b3 b4 b5:Nat) (A:Option Addr) (cp:Nat) (l:List Int) (hl:l.length≤900000) (hb:Byts l) (hcp:l.length≤cp) (W0 W1:World) (hW:Grow W1 B.e) (hC0:(Kd.int .u8).C W1 A l) (hr3:W1.cell? ⟨b3,0,none⟩=some (.pointer (some ⟨bo,1,none⟩))) (hr4:W1.cell? ⟨b4,0,none⟩=some (.func (.func 28) #[] #[])) (hr5:W1.cell? ⟨b5,0,none⟩=some (.pointer (some ⟨br,0,none⟩))) (k:KO) (s:Rs) (hat:s.1≤l.length) (hs:s.2=false) (hk:k.fs.length≤600) (hok:k.ok) (hS:St B [blk br 96 [.slice A l.length cp,.int .i64 ((s.1:Nat):Int),.bool true,.bool s.2],bun (koS W0 bo k)] w) :
 CW 61 #[.pointer (some ⟨b4,0,none⟩),.pointer (some ⟨b5,0,none⟩),.pointer (some ⟨b3,0,none⟩)] w (Ret B (fun z:KO×Rs×Int×ApiFunc=>z.2.1.1≤l.length∧Got l (funX (l.drop s.1)) z.2.2.1 z.2.2.2 z.2.1∧(z.2.2.1=0→z.1.fs=k.fs++[z.2.2.2]∧z.1.ok∧(z.1.ss=k.ss∧z.1.ds=k.ds))) (fun z=>.int .i64 z.2.2.1) (fun z=>[blk br 96 [.slice A l.length cp,.int .i64 ((z.2.1.1:Nat):Int),.bool true,.bool z.2.1.2],bun (koS W0 bo z.1)])):=by
 obtain ⟨a,d⟩:=s
 obtain rfl:d=false:=hs
 have hC:=Kd.C_grow hW hC0
 obtain ⟨hok1,hok2⟩:=hok
 dsimp only at hat
 have hS:=unp2 hS
 unfold koS at hS
 refine ZX Tryz.func61 hS ?_
 refine Zh (Zi (Zp J (Zn (Za (Zh (Zi ?_))))))
 first | refine oLd rfl ZP rfl rfl ?_ | refine oLdE rfl (hW _ _ hr4) rfl ?_
 first | refine oLd rfl ZP rfl rfl ?_ | refine oLdE rfl (hW _ _ hr5) rfl ?_
 (refine oCallV rfl rfl rfl ZK (fun w hS=>frame hS ZQ (fun B' hB hS'=>fun_Get br A cp l a hS' hat hl hb hcp (Kd.C_grow hB hC) W0)) ?_;rintro ⟨⟨e1,x1,a1,d1⟩,q0,q1,q2,q3⟩ ⟨g1,ha1⟩;dsimp only at g1 ha1)
 refine Zo J (oExt J ZP ?_)
 refine oExt J ZP ?_
 refine oAlloc J ZP (fun b4=>?_)
 refine Zsa ?_
 refine Zp J (Zn (Za (Zh (Zh (Zi (Zo J (Zy J J (Zn (Za (wC (fun h13=>?_) (fun h13=>?_)))))))))))
 refine wDrawG J [0,1,2,3,4] [(5,[0,1,2,3],[]),(6,[0],[])] [7,8] 24 ZK J J (fun w0=>?_)
 first | refine oLd rfl ZP rfl rfl ?_ | refine oLdE rfl (hW _ _ hr3) rfl ?_
 first | refine oLd rfl ZP rfl rfl ?_ | refine oLdE rfl (hW _ _ hr3) rfl ?_
 refine Z3 J (Zld ?_)
 refine Zla ?_
 refine Z4 (Z5 J (oBuildSlice1 J J J J J ZP J (fun b19=>?_)))
 refine ZG ?_ J (fun w0=>?_)
 refine Z8 J J J J (fun w0=>?_) ?_
 first | refine oLd rfl ZP rfl rfl ?_ | refine oLdE rfl (hW _ _ hr3) rfl ?_
 exact Z9 rfl
 refine Z8 J J J J (fun w0=>?_) ?_
 first | refine oLd rfl ZP rfl rfl ?_ | refine oLdE rfl (hW _ _ hr3) rfl ?_
 exact Z9 rfl
 refine Z8 J J J J (fun w0=>?_) ?_
 refine Z3 J ?_
 exact Z9 rfl
 refine Z8 J J J J (fun w0=>?_) ?_
 refine Zld ?_
 exact Z9 rfl
 exact AgainG.nil
 refine Z4 (Z5 J (oHold (fun_hold (W0:=W0) (f:=x1) (h0:=q0) (h1:=q1) (h2:=q2) (h3:=q3) (S:=k.fS) (fs:=k.fs) (rs:=k.rf) ZQ) (fun S4=>?_)))
 refine oApp1 (kd:=kRaw 9) (funCs x1 q0 q1 q2 q3) J J J J ZP ZP (funCs_one x1 q0 q1 q2 q3) ZO J (fun g20 cp20=>?_)
 refine ZG ?_ J (fun w0=>?_)
 refine Z8 J J J J (fun w0=>?_) ?_
 first | refine oLd rfl ZP rfl rfl ?_ | refine oLdE rfl (hW _ _ hr3) rfl ?_
 exact Z9 rfl
 exact AgainG.nil
 refine Z6 (Z3 J (Zst ?_))
 refine Zn (Zzq ?_)
 exact ⟨({ k with fs:=k.fs++[x1],rf:=k.rf++[funCs x1 q0 q1 q2 q3],fA:=some ⟨g20,0,none⟩,fc:=cp20,fS:=S4 },(a1,d1),e1,x1),⟨ha1,g1,fun _=>⟨rfl,⟨by show (k.rf++[_]).length=(k.fs++[x1]).length;rw [List.length_append,List.length_append,hok1];rfl,hok2⟩,rfl,rfl⟩⟩,rfl,pk2 (by unfold koS;dsimp only;rw [List.length_append];exact Lh)⟩
 refine Zj (Zzq ?_)
 exact ⟨(k,(a1,d1),e1,x1),⟨ha1,g1,fun h=>absurd h h13⟩,rfl,pk2 (by unfold koS;exact Lh)⟩
theorem keep1 {B:Base}{w:World}(hS:St B [] w) (ad:Addr) (br:Nat) :
 CW 27 #[.pointer (some ad),.func (.func 28) #[] #[],.pointer (some ⟨br,0,none⟩)] w (Ret B (fun _:Nat×Nat×Nat=>True) (fun z=>.func (.func 61) #[] #[.pointer (some ⟨z.2.1,0,none⟩),.pointer (some ⟨z.2.2,0,none⟩),.pointer (some ⟨z.1,0,none⟩)]) (fun z=>[blk z.1 68 [.pointer (some ad)],blk z.2.1 69 [.func (.func 28) #[] #[]],blk z.2.2 59 [.pointer (some ⟨br,0,none⟩)]])):=by
 refine ZX Tryz.func27 hS ?_
 refine Zh (Zi (oBox J ZP (fun b3=>?_)))
 refine oBox J ZP (fun b4=>?_)
 refine oBox J ZP (fun b5=>?_)
 refine Zp J (Zn (Za (Zh (Zi (oMakeFuncB J J (Zzh ?_))))))
 exact ⟨(b3,b4,b5),trivial,rfl,Lh⟩
theorem file_keep2 {B:Base}{w:World}(br bo b3 b4 b5:Nat) (A:Option Addr) (cp:Nat) (l:List Int) (hl:l.length≤900000) (hb:Byts l) (hcp:l.length≤cp) (W0 W1:World) (hW:Grow W1 B.e) (hC0:(Kd.int .u8).C W1 A l) (hr3:W1.cell? ⟨b3,0,none⟩=some (.pointer (some ⟨bo,2,none⟩))) (hr4:W1.cell? ⟨b4,0,none⟩=some (.func (.func 30) #[] #[])) (hr5:W1.cell? ⟨b5,0,none⟩=some (.pointer (some ⟨br,0,none⟩))) (k:KO) (s:Rs) (hat:s.1≤l.length) (hs:s.2=false) (hk:k.ds.length≤600) (hok:k.ok) (hS:St B [blk br 96 [.slice A l.length cp,.int .i64 ((s.1:Nat):Int),.bool true,.bool s.2],bun (koS W0 bo k)] w) :
 CW 71 #[.pointer (some ⟨b4,0,none⟩),.pointer (some ⟨b5,0,none⟩),.pointer (some ⟨b3,0,none⟩)] w (Ret B (fun z:KO×Rs×Int×ApiData=>z.2.1.1≤l.length∧Got l (datX (l.drop s.1)) z.2.2.1 z.2.2.2 z.2.1∧(z.2.2.1=0→z.1.ds=k.ds++[z.2.2.2]∧z.1.ok∧(z.1.ss=k.ss∧z.1.fs=k.fs))) (fun z=>.int .i64 z.2.2.1) (fun z=>[blk br 96 [.slice A l.length cp,.int .i64 ((z.2.1.1:Nat):Int),.bool true,.bool z.2.1.2],bun (koS W0 bo z.1)])):=by
 obtain ⟨a,d⟩:=s
 obtain rfl:d=false:=hs
 have hC:=Kd.C_grow hW hC0
 obtain ⟨hok1,hok2⟩:=hok
 dsimp only at hat
 have hS:=unp2 hS
 unfold koS at hS
 refine ZX Tryz.func71 hS ?_
 refine Zh (Zi (Zp J (Zn (Za (Zh (Zi ?_))))))
 first | refine oLd rfl ZP rfl rfl ?_ | refine oLdE rfl (hW _ _ hr4) rfl ?_
 first | refine oLd rfl ZP rfl rfl ?_ | refine oLdE rfl (hW _ _ hr5) rfl ?_
 (refine oCallV rfl rfl rfl ZK (fun w hS=>frame hS ZQ (fun B' hB hS'=>data_Get br A cp l a hS' hat hl hb hcp (Kd.C_grow hB hC) W0)) ?_;rintro ⟨⟨e1,x1,a1,d1⟩,q0,q1⟩ ⟨g1,ha1⟩;dsimp only at g1 ha1)
 refine Zo J (oExt J ZP ?_)
 refine oExt J ZP ?_
 refine oAlloc J ZP (fun b4=>?_)
 refine Zsa ?_
 refine Zp J (Zn (Za (Zh (Zh (Zi (Zo J (Zy J J (Zn (Za (wC (fun h13=>?_) (fun h13=>?_)))))))))))
 refine wDrawG J [0,1,2,3,4] [(5,[0,1,2,3],[]),(6,[0],[])] [7,8] 24 ZK J J (fun w0=>?_)
 first | refine oLd rfl ZP rfl rfl ?_ | refine oLdE rfl (hW _ _ hr3) rfl ?_
 first | refine oLd rfl ZP rfl rfl ?_ | refine oLdE rfl (hW _ _ hr3) rfl ?_
 refine Z3 J (Zld ?_)
 refine Zla ?_
 refine Z4 (Z5 J (oBuildSlice1 J J J J J ZP J (fun b19=>?_)))
 refine ZG ?_ J (fun w0=>?_)
 refine Z8 J J J J (fun w0=>?_) ?_
 first | refine oLd rfl ZP rfl rfl ?_ | refine oLdE rfl (hW _ _ hr3) rfl ?_
 exact Z9 rfl
 refine Z8 J J J J (fun w0=>?_) ?_
 first | refine oLd rfl ZP rfl rfl ?_ | refine oLdE rfl (hW _ _ hr3) rfl ?_
 exact Z9 rfl
 refine Z8 J J J J (fun w0=>?_) ?_
 refine Z3 J ?_
 exact Z9 rfl
 refine Z8 J J J J (fun w0=>?_) ?_
 refine Zld ?_
 exact Z9 rfl
 exact AgainG.nil
 refine Z4 (Z5 J (oHold (dat_hold (W0:=W0) (d:=x1) (h0:=q0) (h1:=q1) (S:=k.dS) (ds:=k.ds) (rs:=k.rd) ZQ) (fun S4=>?_)))
 refine oApp1 (kd:=kRaw 3) (datCs x1 q0 q1) J J J J ZP ZP (datCs_one x1 q0 q1) ZO J (fun g20 cp20=>?_)
 refine ZG ?_ J (fun w0=>?_)
 refine Z8 J J J J (fun w0=>?_) ?_
 first | refine oLd rfl ZP rfl rfl ?_ | refine oLdE rfl (hW _ _ hr3) rfl ?_
 exact Z9 rfl
 exact AgainG.nil
 refine Z6 (Z3 J (Zst ?_))
 refine Zn (Zzq ?_)
 exact ⟨({ k with ds:=k.ds++[x1],rd:=k.rd++[datCs x1 q0 q1],dA:=some ⟨g20,0,none⟩,dc:=cp20,dS:=S4 },(a1,d1),e1,x1),⟨ha1,g1,fun _=>⟨rfl,⟨hok1,by show (k.rd++[_]).length=(k.ds++[x1]).length;rw [List.length_append,List.length_append,hok2];rfl⟩,rfl,rfl⟩⟩,rfl,pk2 (by unfold koS;dsimp only;rw [List.length_append];exact Lh)⟩
 refine Zj (Zzq ?_)
 exact ⟨(k,(a1,d1),e1,x1),⟨ha1,g1,fun h=>absurd h h13⟩,rfl,pk2 (by unfold koS;exact Lh)⟩
theorem keep2 {B:Base}{w:World}(hS:St B [] w) (ad:Addr) (br:Nat) :
 CW 29 #[.pointer (some ad),.func (.func 30) #[] #[],.pointer (some ⟨br,0,none⟩)] w (Ret B (fun _:Nat×Nat×Nat=>True) (fun z=>.func (.func 71) #[] #[.pointer (some ⟨z.2.1,0,none⟩),.pointer (some ⟨z.2.2,0,none⟩),.pointer (some ⟨z.1,0,none⟩)]) (fun z=>[blk z.1 71 [.pointer (some ad)],blk z.2.1 72 [.func (.func 30) #[] #[]],blk z.2.2 59 [.pointer (some ⟨br,0,none⟩)]])):=by
 refine ZX Tryz.func29 hS ?_
 refine Zh (Zi (oBox J ZP (fun b3=>?_)))
 refine oBox J ZP (fun b4=>?_)
 refine oBox J ZP (fun b5=>?_)
 refine Zp J (Zn (Za (Zh (Zi (oMakeFuncB J J (Zzh ?_))))))
 exact ⟨(b3,b4,b5),trivial,rfl,Lh⟩
theorem file_part {B:Base}{w:World}(hS:St B [] w) (br:Nat) (gf:Nat) (lb:Array Value) :
 CW 24 #[.pointer (some ⟨br,0,none⟩),.func (.func gf) #[] lb] w (Ret B (fun _:Nat×Nat=>True) (fun z=>.func (.func 56) #[] #[.pointer (some ⟨z.1,0,none⟩),.pointer (some ⟨z.2,0,none⟩)]) (fun z=>[blk z.1 59 [.pointer (some ⟨br,0,none⟩)],blk z.2 62 [.func (.func gf) #[] lb]])):=by
 refine ZX Tryz.func24 hS ?_
 refine Zh (Zi (oBox J ZP (fun b2=>?_)))
 refine oBox J ZP (fun b3=>?_)
 refine Zp J (Zn (Za (Zh (Zi (oMakeFuncB J J (Zzh ?_))))))
 exact ⟨(b2,b3),trivial,rfl,Lh⟩
def partV (b0 b1:Nat):Value:=.func (.func 56) #[] #[.pointer (some ⟨b0,0,none⟩),.pointer (some ⟨b1,0,none⟩)]
theorem file_all {κ:Type}{B:Base}{w:World}(bl cl:Nat) (c0 c1:Nat→Nat) (W0:World) (hW:Grow W0 B.e) (hf:∀ i,i<3→W0.cell? ⟨bl,i,none⟩=some (partV (c0 i) (c1 i))) (Q:κ→Res) (Ch:Nat→κ→Prop) (Er:Int→Prop)
 (hh:∀ i,i<3→∀ B' w k,Grow W0 B'.e→Ch i k→St B' [Q k] w→CW 56 #[.pointer (some ⟨c0 i,0,none⟩),.pointer (some ⟨c1 i,0,none⟩)] w (Ret B' (fun z:κ×Int=>(z.2=0→Ch (i+1) z.1)∧(z.2≠0→Er z.2)) (fun z=>.int .i64 z.2) (fun z=>[Q z.1])))
 (k0:κ) (hk:Ch 0 k0) (hS:St B [Q k0] w) :
 CW 23 #[.slice (some ⟨bl,0,none⟩) 3 cl] w (Ret B (fun z:κ×Int=>(z.2=0→Ch 3 z.1)∧(z.2≠0→Er z.2)) (fun z=>.int .i64 z.2) (fun z=>[Q z.1])):=by
 refine ZX Tryz.func23 hS ?_
 refine Zh (Zi (Zp J (Zn (Za (Zh (Zh (Zi (Zo J (Zv J J (Zo J (Zn (Za (Zk (wLoop (ι:=Nat×κ) (fun z=>[(6,.slice (some ⟨bl,0,none⟩) 3 cl),(7,.int .i64 ((3:Nat):Int)),(8,.int .i64 (z.1:Int))]) (fun z=>[Q z.2]) (fun z=>z.1≤3∧Ch z.1 z.2) (fun z=>3-z.1) (0,k0) ?_ cv (Leads.has ZQ) ?_))))))))))))))
 exact ⟨Nat.zero_le _,hk⟩
 rintro ⟨i,k⟩ ⟨hi,hc⟩
 dsimp only at hi hc
 try dsimp only
 refine Zh (Zi (Zx J J (Zn (Za (Zh (wC (fun h9=>?_) (fun h9=>?_)))))))
 have hi3:i<3:=by omega
 refine Zj (Za (Zh (Zk (Zh (Zi (oIdxB (s:=1) (i:=i) (m:=i) J J J ZO ZO ?_))))))
 first | refine oLd rfl ZP rfl rfl ?_ | refine oLdE rfl (hW _ _ (hf i hi3)) rfl ?_
 refine Zp J (Zn (Za (Zzi ?_)))
 (refine oCallV rfl rfl rfl ZK (fun w hS=>frame hS ZQ (fun B' hB hS'=>hh i hi3 B' w k (hW.trans hB) hc hS')) ?_;rintro ⟨k',e'⟩ hz;dsimp only at hz)
 refine Zp J (Zn (Za (Zh (Zi (Zo J (Z0 J J (Zn (Za (wC (fun h15=>?_) (fun h15=>?_))))))))))
 refine Zh (Zi (Zo J (Zzc ?_)))
 exact ⟨(k',e'),⟨fun h=>absurd h h15,hz.2⟩,rfl,Lh⟩
 refine Zj (Zze ?_)
 refine Zo J (Zn (Za ?_))
 exact ⟨rfl,(i+1,k'),⟨by show i+1≤3;omega,hz.1 (Decidable.not_not.1 h15)⟩,by show 3-(i+1)<3-i;omega,cv,Lh⟩
 obtain rfl:i=3:=by omega
 refine Zm (Zzf ?_)
 exact ⟨(k,0),⟨fun _=>hc,fun h=>absurd rfl h⟩,rfl,Lh⟩
def ChO (l:List Int):Nat→Rs×KO→Prop
  | 0,k=>Got l (.ok ((),l)) 0 () k.1∧k.2.ss=[]∧k.2.fs=[]∧k.2.ds=[]∧k.2.ok
  | 1,k=>Got l (nxt (.ok ((),l)) (listX symX)) 0 ((),k.2.ss) k.1∧k.2.fs=[]∧k.2.ds=[]∧k.2.ok
  | 2,k=>Got l (nxt (nxt (.ok ((),l)) (listX symX)) (listX funX)) 0 (((),k.2.ss),k.2.fs) k.1∧k.2.ds=[]∧k.2.ok
  | _,k=>Got l (objS l) 0 ((((),k.2.ss),k.2.fs),k.2.ds) k.1∧k.2.ok
theorem unb {B:Base}{w:World}{a b:Res}(h:St B [bun [a,b]] w):St B [a,b] w:=by
 have:=St.unpack (Ψ:=[a,b]) (Φ:=[]) h
 exact this
theorem cell1 {w:World}{b:Nat}{t:TypeId}{v:Value}{cs:List Value}(h:(blk b t (v :: cs)).q w):w.cell? ⟨b,0,none⟩=some v:=(cell_of h).trans rfl
theorem three_of {w:World}{bl:Nat}{t:TypeId}{c0 c1 d0 d1 e0 e1:Nat}(h:(blk bl t [partV c0 c1,partV d0 d1,partV e0 e1]).q w):∀ i,i<3→w.cell? ⟨bl,i,none⟩=some (partV (if i=0 then c0 else if i=1 then d0 else e0) (if i=0 then c1 else if i=1 then d1 else e1)):=by
 intro i hi
 obtain rfl | rfl | rfl:i=0∨i=1∨i=2:=by omega
 · exact (cell_of h).trans rfl
 · exact (cell_of h).trans rfl
 · exact (cell_of h).trans rfl
theorem three3 {M:Nat→Prop}(h0:M 0) (h1:M 1) (h2:M 2):∀ i,i<3→M i:=by
 intro i hi
 obtain rfl | rfl | rfl:i=0∨i=1∨i=2:=by omega
 · exact h0
 · exact h1
 · exact h2
theorem koS_start {B:Base}{Φ Φ':List Res}{W0:World}{b5:Nat}{k0:KO}(hk:k0=(⟨[],none,0,[],[],none,0,(fun _=>False),[],[],none,0,(fun _=>False)⟩:KO)) (hp:Pick Φ (blk b5 26 [.slice none 0 0,.slice none 0 0,.slice none 0 0]) Φ'):Leads B Φ (bun (koS W0 b5 k0) :: Φ'):=fun w hS=>by
 subst hk
 have h1:St B (blk b5 26 [.slice none 0 0,.slice none 0 0,.slice none 0 0] :: Φ') w:=hS.perm hp.perm
 have h2:=Leads.nilrow (kd:=kApiSymbol) (W:=W0) (e:=44) w h1
 have h3:=Leads.nilrow (kd:=kRaw 9) (W:=W0) (e:=51) w h2
 have h4:=hold_nil (W:=W0) (Pd:=fun w=>Raws kApiFunc w [] []) (fun _ _=>rfl) w h3
 have h5:=Leads.nilrow (kd:=kRaw 3) (W:=W0) (e:=55) w h4
 have h6:=hold_nil (W:=W0) (Pd:=fun w=>Raws kApiData w [] []) (fun _ _=>rfl) w h5
 exact St.pack (Ψ:=koS W0 b5 (⟨[],none,0,[],[],none,0,(fun _=>False),[],[],none,0,(fun _=>False)⟩:KO)) (h6.perm ((List.reverse_perm (koS W0 b5 (⟨[],none,0,[],[],none,0,(fun _=>False),[],[],none,0,(fun _=>False)⟩:KO))).append_right Φ'))
theorem pkb {B:Base}{a b:Res} : Leads B [a,b] [bun [a,b]]:=fun w h=>St.pack (Ψ:=[a,b]) (Φ:=[]) h
theorem file_do0 (br bo p0 p1 d3 d4 d5:Nat) (A:Option Addr) (cp:Nat) (l:List Int) (hl:l.length≤900000) (hb:Byts l) (hcp:l.length≤cp) (W0 W1:World) (hC1:(Kd.int .u8).C W1 A l) (hr0:W1.cell? ⟨p0,0,none⟩=some (.pointer (some ⟨br,0,none⟩))) (hr1:W1.cell? ⟨p1,0,none⟩=some (.func (.func 58) #[] #[.pointer (some ⟨d4,0,none⟩),.pointer (some ⟨d5,0,none⟩),.pointer (some ⟨d3,0,none⟩)])) (hr3:W1.cell? ⟨d3,0,none⟩=some (.pointer (some ⟨bo,0,none⟩))) (hr4:W1.cell? ⟨d4,0,none⟩=some (.func (.func 26) #[] #[])) (hr5:W1.cell? ⟨d5,0,none⟩=some (.pointer (some ⟨br,0,none⟩)))
 {B:Base}{w:World}(k:Rs×KO) (hW:Grow W1 B.e) (hc:ChO l 0 k) (hS:St B [bun [blk br 96 [.slice A l.length cp,.int .i64 ((k.1.1:Nat):Int),.bool true,.bool k.1.2],bun (koS W0 bo k.2)]] w) :
 CW 56 #[.pointer (some ⟨p0,0,none⟩),.pointer (some ⟨p1,0,none⟩)] w (Ret B (fun z:(Rs×KO)×Int=>(z.2=0→ChO l (0+1) z.1)∧(z.2≠0→objS l=.error z.2)) (fun z=>.int .i64 z.2) (fun z=>[bun [blk br 96 [.slice A l.length cp,.int .i64 ((z.1.1.1:Nat):Int),.bool true,.bool z.1.1.2],bun (koS W0 bo z.1.2)]])):=by
 have hn:=got_inv (show Got l _ 0 _ k.1 from hc.1)
 have hle:=(hn.1 rfl).2.2
 obtain ⟨hg,hz,hf,hd,hok⟩:=hc
 refine ret_map (file_part1 br p0 p1 A cp l symX (fun k=>bun (koS W0 bo k)) (fun k=>k.ss) KO.ok (fun k k':KO=>k'.fs=k.fs∧k'.ds=k.ds) (fun k=>⟨rfl,rfl⟩) (fun a b c h1 h2=>⟨h2.1.trans h1.1,h2.2.trans h1.2⟩) 58 #[.pointer (some ⟨d4,0,none⟩),.pointer (some ⟨d5,0,none⟩),.pointer (some ⟨d3,0,none⟩)] ZK hl hb hcp W1 hW hC1 hr0 hr1 (fun B' w k s hW' hs hs2 hk hok hS=>file_keep0 br bo d3 d4 d5 A cp l hl hb hcp W0 W1 hW' hC1 hr3 hr4 hr5 k s hs hs2 hk hok hS) k.2 (by rw [hz];decide) hok k.1.1 k.1.2 hle (unb hS)) (fun z=>((z.2.1,z.1),z.2.2.1)) (fun z hz1=>?_) (fun _=>rfl) (fun _=>pkb)
 obtain ⟨h1,h2,h3⟩:=hz1
 have gz:=got_many hg (fun _=>h2) (fun h=>absurd rfl h)
 refine ⟨fun he=>?_,fun he=>by unfold objS;exact nxt_err (nxt_err ((got_inv gz).2 he))⟩
 obtain ⟨u1,okz,s1,s2⟩:=h3 he
 have he:z.2.2.1=0:=he
 have gg:=gz
 rw [he] at gg
 exact ⟨by rw [show z.1.ss=z.2.2.2 by rw [u1,hz];rfl];exact gg,s1.trans hf,s2.trans hd,okz⟩
theorem file_do1 (br bo p0 p1 d3 d4 d5:Nat) (A:Option Addr) (cp:Nat) (l:List Int) (hl:l.length≤900000) (hb:Byts l) (hcp:l.length≤cp) (W0 W1:World) (hC1:(Kd.int .u8).C W1 A l) (hr0:W1.cell? ⟨p0,0,none⟩=some (.pointer (some ⟨br,0,none⟩))) (hr1:W1.cell? ⟨p1,0,none⟩=some (.func (.func 61) #[] #[.pointer (some ⟨d4,0,none⟩),.pointer (some ⟨d5,0,none⟩),.pointer (some ⟨d3,0,none⟩)])) (hr3:W1.cell? ⟨d3,0,none⟩=some (.pointer (some ⟨bo,1,none⟩))) (hr4:W1.cell? ⟨d4,0,none⟩=some (.func (.func 28) #[] #[])) (hr5:W1.cell? ⟨d5,0,none⟩=some (.pointer (some ⟨br,0,none⟩)))
 {B:Base}{w:World}(k:Rs×KO) (hW:Grow W1 B.e) (hc:ChO l 1 k) (hS:St B [bun [blk br 96 [.slice A l.length cp,.int .i64 ((k.1.1:Nat):Int),.bool true,.bool k.1.2],bun (koS W0 bo k.2)]] w) :
 CW 56 #[.pointer (some ⟨p0,0,none⟩),.pointer (some ⟨p1,0,none⟩)] w (Ret B (fun z:(Rs×KO)×Int=>(z.2=0→ChO l (1+1) z.1)∧(z.2≠0→objS l=.error z.2)) (fun z=>.int .i64 z.2) (fun z=>[bun [blk br 96 [.slice A l.length cp,.int .i64 ((z.1.1.1:Nat):Int),.bool true,.bool z.1.1.2],bun (koS W0 bo z.1.2)]])):=by
 have hn:=got_inv (show Got l _ 0 _ k.1 from hc.1)
 have hle:=(hn.1 rfl).2.2
 obtain ⟨hg,hz,hd,hok⟩:=hc
 refine ret_map (file_part1 br p0 p1 A cp l funX (fun k=>bun (koS W0 bo k)) (fun k=>k.fs) KO.ok (fun k k':KO=>k'.ss=k.ss∧k'.ds=k.ds) (fun k=>⟨rfl,rfl⟩) (fun a b c h1 h2=>⟨h2.1.trans h1.1,h2.2.trans h1.2⟩) 61 #[.pointer (some ⟨d4,0,none⟩),.pointer (some ⟨d5,0,none⟩),.pointer (some ⟨d3,0,none⟩)] ZK hl hb hcp W1 hW hC1 hr0 hr1 (fun B' w k s hW' hs hs2 hk hok hS=>file_keep1 br bo d3 d4 d5 A cp l hl hb hcp W0 W1 hW' hC1 hr3 hr4 hr5 k s hs hs2 hk hok hS) k.2 (by rw [hz];decide) hok k.1.1 k.1.2 hle (unb hS)) (fun z=>((z.2.1,z.1),z.2.2.1)) (fun z hz1=>?_) (fun _=>rfl) (fun _=>pkb)
 obtain ⟨h1,h2,h3⟩:=hz1
 have gz:=got_many hg (fun _=>h2) (fun h=>absurd rfl h)
 refine ⟨fun he=>?_,fun he=>by unfold objS;exact nxt_err ((got_inv gz).2 he)⟩
 obtain ⟨u1,okz,s1,s2⟩:=h3 he
 have he:z.2.2.1=0:=he
 have gg:=gz
 rw [he] at gg
 exact ⟨by rw [show z.1.fs=z.2.2.2 by rw [u1,hz];rfl,show z.1.ss=k.2.ss from s1];exact gg,s2.trans hd,okz⟩
theorem file_do2 (br bo p0 p1 d3 d4 d5:Nat) (A:Option Addr) (cp:Nat) (l:List Int) (hl:l.length≤900000) (hb:Byts l) (hcp:l.length≤cp) (W0 W1:World) (hC1:(Kd.int .u8).C W1 A l) (hr0:W1.cell? ⟨p0,0,none⟩=some (.pointer (some ⟨br,0,none⟩))) (hr1:W1.cell? ⟨p1,0,none⟩=some (.func (.func 71) #[] #[.pointer (some ⟨d4,0,none⟩),.pointer (some ⟨d5,0,none⟩),.pointer (some ⟨d3,0,none⟩)])) (hr3:W1.cell? ⟨d3,0,none⟩=some (.pointer (some ⟨bo,2,none⟩))) (hr4:W1.cell? ⟨d4,0,none⟩=some (.func (.func 30) #[] #[])) (hr5:W1.cell? ⟨d5,0,none⟩=some (.pointer (some ⟨br,0,none⟩)))
 {B:Base}{w:World}(k:Rs×KO) (hW:Grow W1 B.e) (hc:ChO l 2 k) (hS:St B [bun [blk br 96 [.slice A l.length cp,.int .i64 ((k.1.1:Nat):Int),.bool true,.bool k.1.2],bun (koS W0 bo k.2)]] w) :
 CW 56 #[.pointer (some ⟨p0,0,none⟩),.pointer (some ⟨p1,0,none⟩)] w (Ret B (fun z:(Rs×KO)×Int=>(z.2=0→ChO l (2+1) z.1)∧(z.2≠0→objS l=.error z.2)) (fun z=>.int .i64 z.2) (fun z=>[bun [blk br 96 [.slice A l.length cp,.int .i64 ((z.1.1.1:Nat):Int),.bool true,.bool z.1.1.2],bun (koS W0 bo z.1.2)]])):=by
 have hn:=got_inv (show Got l _ 0 _ k.1 from hc.1)
 have hle:=(hn.1 rfl).2.2
 obtain ⟨hg,hz,hok⟩:=hc
 refine ret_map (file_part1 br p0 p1 A cp l datX (fun k=>bun (koS W0 bo k)) (fun k=>k.ds) KO.ok (fun k k':KO=>k'.ss=k.ss∧k'.fs=k.fs) (fun k=>⟨rfl,rfl⟩) (fun a b c h1 h2=>⟨h2.1.trans h1.1,h2.2.trans h1.2⟩) 71 #[.pointer (some ⟨d4,0,none⟩),.pointer (some ⟨d5,0,none⟩),.pointer (some ⟨d3,0,none⟩)] ZK hl hb hcp W1 hW hC1 hr0 hr1 (fun B' w k s hW' hs hs2 hk hok hS=>file_keep2 br bo d3 d4 d5 A cp l hl hb hcp W0 W1 hW' hC1 hr3 hr4 hr5 k s hs hs2 hk hok hS) k.2 (by rw [hz];decide) hok k.1.1 k.1.2 hle (unb hS)) (fun z=>((z.2.1,z.1),z.2.2.1)) (fun z hz1=>?_) (fun _=>rfl) (fun _=>pkb)
 obtain ⟨h1,h2,h3⟩:=hz1
 have gz:=got_many hg (fun _=>h2) (fun h=>absurd rfl h)
 refine ⟨fun he=>?_,fun he=>by unfold objS;exact (got_inv gz).2 he⟩
 obtain ⟨u1,okz,s1,s2⟩:=h3 he
 have he:z.2.2.1=0:=he
 have gg:=gz
 rw [he] at gg
 exact ⟨by unfold objS;rw [show z.1.ds=z.2.2.2 by rw [u1,hz];rfl,show z.1.ss=k.2.ss from s1,show z.1.fs=k.2.fs from s2];exact gg,okz⟩
theorem file_Get {B:Base}{w:World}(hS:St B [] w) (A:Option Addr) (cp:Nat) (l:List Int) (hl:l.length≤900000) (hb:Byts l) (hcp:l.length≤cp) (hC:(Kd.int .u8).C B.e A l) (W0:World) :
 CW 8 #[.slice A l.length cp] w (Ret B (fun z:(Option Addr×Nat)×(Option Addr×Nat)×(Option Addr×Nat)×(Nat→Prop)=>True) (fun z=>.tuple #[.agg #[.slice z.1.1 (valO (getF l)).fSymbols.length z.1.2,.slice z.2.1.1 (valO (getF l)).fFuncs.length z.2.1.2,.slice z.2.2.1.1 (valO (getF l)).fDatas.length z.2.2.1.2],.int .i64 (errO (getF l))]) (fun z=>[hold W0 z.2.2.2 (fun w=>kApiObject.K w (valO (getF l)) [.slice z.1.1 (valO (getF l)).fSymbols.length z.1.2,.slice z.2.1.1 (valO (getF l)).fFuncs.length z.2.1.2,.slice z.2.2.1.1 (valO (getF l)).fDatas.length z.2.2.1.2])])):=by
 refine ZX Tryz.func8 hS ?_
 refine Zh (Zi (oAlloc J ZP (fun b2=>?_)))
 refine Zp J (Zn (Za (Zzi ?_)))
 (refine ZC0 rfl ZK (fun w hS=>frame hS ZQ (fun B' hB hS'=>sum_Open hS' A cp l (Kd.C_grow hB hC) hb hl hcp W0)) ?_;rintro ⟨A9,c9⟩ hc9)
 refine Zo J (oExt J ZP ?_)
 refine oExt J ZP ?_
 refine Zp J (Zp J (Zn (Za (Zh (Zh (Zi (Zo J (Z0 J J (Zn (Za (wC (fun h13=>?_) (fun h13=>?_))))))))))))
 refine Zh (Zi (oBuild Parts.nil J J Built.nil (Zo J (Zsa ?_))))
 refine Zp J (Zzp ?_)
 have he:getF l=.error (errX (opnF l)):=by unfold getF;cases ho:opnF l with | ok x=>rw [ho] at h13;exact absurd rfl h13 | error e=>rfl
 rw [he]
 exact ⟨((none,0),(none,0),(none,0),(fun _=>False)),trivial,rfl,Leads.trans (hold_nil (W:=W0) (fun w _=>nil_K w)) Lh⟩
 obtain ⟨x,hox⟩:∃ x,opnF l=.ok x:=by cases ho:opnF l with | ok x=>exact ⟨x,rfl⟩ | error e=>rw [ho] at h13;exact absurd (Decidable.not_not.1 h13) (opn_err ho)
 have hvx:valX (opnF l)=x:=by rw [hox];rfl
 have hc9:x.length≤c9:=by rw [hvx] at hc9;exact hc9
 rw [hvx]
 obtain ⟨hbx,hxt⟩:=opn_byts hb hox
 have hxl:x.length≤l.length:=by rw [hxt,List.length_take];omega
 have hgx:getF l=innX x:=by unfold getF;rw [hox]
 refine Zj (Za (Zh (Zk (Zh (Zi (Zo J (Zv J J (Zx J J (Zp J (Zn (Za (wC (fun h16=>?_) (fun h16=>?_)))))))))))))
 refine Zh (Zi (oBuild Parts.nil J J Built.nil (Zsa ?_)))
 refine Zp J (Zzl ?_)
 have he:getF l=.error 5:=by rw [hgx,inn_eq,if_pos ZO]
 rw [he]
 exact ⟨((none,0),(none,0),(none,0),(fun _=>False)),trivial,rfl,Leads.trans (hold_nil (W:=W0) (fun w _=>nil_K w)) Lh⟩
 have h4:¬ x.length<4:=by omega
 refine Zh (Zi (Zo J (oSliceU (m:=4) J J ZO J ?_)))
 refine oConvBR (xs:=x.take 4) rfl rfl rfl rfl (fun w hw=>C_take (row_Cs (hw.get ZP)) 4) (by rw [List.length_take];omega) (hbx.take 4) ?_
 refine oSNe J J (Zp J (Zn (Za (wC (fun h21=>?_) (fun h21=>?_)))))
 refine Zh (Zi (oBuild Parts.nil J J Built.nil (Zsa ?_)))
 refine Zp J (Zzl ?_)
 have he:getF l=.error 3:=by rw [hgx,inn_eq,if_neg h4,if_pos (fun k=>h21 ((magic_iff hbx ZO).2 k))]
 rw [he]
 exact ⟨((none,0),(none,0),(none,0),(fun _=>False)),trivial,rfl,Leads.trans (hold_nil (W:=W0) (fun w _=>nil_K w)) Lh⟩
 have hmg:x.take 4=magicL:=(magic_iff hbx ZO).1 (Decidable.not_not.1 h21)
 have hinn:innX x=finO (objS (x.drop 4)):=by rw [inn_eq,if_neg h4,if_neg (by simpa using hmg)]
 have hxd:(x.drop 4).length=x.length-4:=List.length_drop
 refine Zj (Zd (Za (Zh (Zi (oAlloc J ZP (fun b5=>?_))))))
 refine Zn (Za (Zh (Zi (Zo J (oSliceV (m:=4) J J ZO hc9 J ?_)))))
 rw [← hxd]
 (refine ZD J (fun w B' hB hR hS'=>rd_New hS' _ (c9-4) (x.drop 4) (C_from (row_Cs (hR _ _ ZP)) 4 hc9 rfl) ZO W0) ?_;rintro ⟨br,A29,c29⟩ hc29)
 refine Zp J (Zn (Za (Zh (Zi (Zo J (Zz (n:=0) (m:=0) J J J (Zo J ?_)))))))
 (refine ZC0 rfl ZK (fun w hS=>frame hS ZQ (fun B' hB hS'=>keep0 hS' ⟨b5,0,none⟩ br)) ?_;rintro ⟨x3,x4,x5⟩ -)
 (refine ZC0 rfl ZK (fun w hS=>frame hS ZQ (fun B' hB hS'=>file_part hS' br _ _)) ?_;rintro ⟨p0,p1⟩ -)
 refine Zo J (Zz (n:=1) (m:=1) J J J (Zo J ?_))
 (refine ZC0 rfl ZK (fun w hS=>frame hS ZQ (fun B' hB hS'=>keep1 hS' ⟨b5,1,none⟩ br)) ?_;rintro ⟨y3,y4,y5⟩ -)
 (refine ZC0 rfl ZK (fun w hS=>frame hS ZQ (fun B' hB hS'=>file_part hS' br _ _)) ?_;rintro ⟨q0,q1⟩ -)
 refine Zo J (Zz (n:=2) (m:=2) J J J (Zo J ?_))
 (refine ZC0 rfl ZK (fun w hS=>frame hS ZQ (fun B' hB hS'=>keep2 hS' ⟨b5,2,none⟩ br)) ?_;rintro ⟨z3,z4,z5⟩ -)
 (refine ZC0 rfl ZK (fun w hS=>frame hS ZQ (fun B' hB hS'=>file_part hS' br _ _)) ?_;rintro ⟨r0,r1⟩ -)
 refine oBuildSliceF (Parts.cons J (Parts.cons J (Parts.cons J Parts.nil))) J J J J J (Fulls.cons ZP J (Fulls.cons ZP J (Fulls.cons ZP J Fulls.nil ap) ap) ap) (fun b45=>?_)
 obtain ⟨k0,hk0⟩:∃ k0:KO,k0=(⟨[],none,0,[],[],none,0,(fun _=>False),[],[],none,0,(fun _=>False)⟩:KO):=⟨_,rfl⟩
 refine oConv (koS_start (W0:=W0) hk0 ZP) ?_
 refine oConv (pk_of (Ψ:=[blk br 96 [.slice A29 (x.drop 4).length c29,.int .i64 ((0:Nat):Int),.bool true,.bool false],bun (koS W0 b5 k0)]) ZQ) ?_
 (refine ZC0 rfl ZK (fun w hS=>frame' hS ZQ (fun B' hB hR hS'=>file_all b45 3 (fun i=>if i=0 then p0 else if i=1 then q0 else r0) (fun i=>if i=0 then p1 else if i=1 then q1 else r1) B'.e (Grow.refl _) (three_of (t:=62) (hR _ _ ZP)) (fun k:Rs×KO=>bun [blk br 96 [.slice A29 (x.drop 4).length c29,.int .i64 ((k.1.1:Nat):Int),.bool true,.bool k.1.2],bun (koS W0 b5 k.2)]) (ChO (x.drop 4)) (fun e=>objS (x.drop 4)=.error e) (three3 (fun B2 w k hW hc hS=>file_do0 br b5 p0 p1 x3 x4 x5 A29 c29 (x.drop 4) ZO (hbx.drop 4) hc29 W0 B'.e (row_Cs (hR _ _ ZP)) (cell1 (hR _ _ ZP)) (cell1 (hR _ _ ZP)) (cell1 (hR _ _ ZP)) (cell1 (hR _ _ ZP)) (cell1 (hR _ _ ZP)) k hW hc hS) (fun B2 w k hW hc hS=>file_do1 br b5 q0 q1 y3 y4 y5 A29 c29 (x.drop 4) ZO (hbx.drop 4) hc29 W0 B'.e (row_Cs (hR _ _ ZP)) (cell1 (hR _ _ ZP)) (cell1 (hR _ _ ZP)) (cell1 (hR _ _ ZP)) (cell1 (hR _ _ ZP)) (cell1 (hR _ _ ZP)) k hW hc hS) (fun B2 w k hW hc hS=>file_do2 br b5 r0 r1 z3 z4 z5 A29 c29 (x.drop 4) ZO (hbx.drop 4) hc29 W0 B'.e (row_Cs (hR _ _ ZP)) (cell1 (hR _ _ ZP)) (cell1 (hR _ _ ZP)) (cell1 (hR _ _ ZP)) (cell1 (hR _ _ ZP)) (cell1 (hR _ _ ZP)) k hW hc hS)) ((0,false),k0) (by rw [hk0];exact ⟨got_ok rfl rfl (Nat.zero_le _),rfl,rfl,rfl,rfl,rfl⟩) hS')) ?_;rintro ⟨⟨⟨a,d⟩,k⟩,e⟩ hz)
 dsimp only at hz
 refine oConv (un_of (Ψ:=[blk br 96 [.slice A29 (x.drop 4).length c29,.int .i64 ((a:Nat):Int),.bool true,.bool d],bun (koS W0 b5 k)]) ZP) ?_
 refine oConv (un_of (Ψ:=[blk b5 26 [.slice k.sA k.ss.length k.sc,.slice k.fA k.rf.length k.fc,.slice k.dA k.rd.length k.dc],row kApiSymbol W0 44 (.slice k.sA (k.ss).length k.sc) (k.ss),row (kRaw 9) W0 51 (.slice k.fA (k.rf).length k.fc) (k.rf),hold W0 k.fS (fun w=>Raws kApiFunc w (k.fs) (k.rf)),row (kRaw 3) W0 55 (.slice k.dA (k.rd).length k.dc) (k.rd),hold W0 k.dS (fun w=>Raws kApiData w (k.ds) (k.rd))]) ZP) ?_
 refine Zp J (Zn (Za (Zh (Zh (Zi (Zo J (Zy J J (Zo J (ZS (ZT 49) (fun h49=>?_) (fun h49=>?_))))))))))
 refine Zq J J (Zo J (Zq J J ?_))
 (refine ZC0 rfl ZK (fun w hS=>frame hS ZQ (fun B' hB hS'=>rd_Left br A29 c29 (x.drop 4) a d hS' ((got_inv (hz.1 h49).1).1 rfl).2.2 (by have:maxLen=9223372036854775807:=rfl;omega))) ?_;rintro ⟨⟩ -)
 refine Zq J J (Z1 J J (Zt J J (Zn (Za (wC (fun h53=>?_) (fun h53=>?_))))))
 refine Zi (Zp J (Zn (Za (Zh (Zh (Zi (Zo J (Z0 J J (ZS0 (t:=55) (v':=.bool true) J (by rfl) ?_)))))))))
 refine Zn (Za (wCondT J (Zh (Zi (oBuild Parts.nil J J Built.nil (Zo J (Zsa ?_)))))))
 refine Zp J (Zzp ?_)
 have hch:=hz.1 h49
 obtain ⟨g1,g2,g3⟩:=(got_inv hch.1).1 rfl
 have he:getF l=.error 6:=by rw [hgx,hinn,g1,List.drop_eq_getElem_cons (show a<(x.drop 4).length by omega)];rfl
 rw [he]
 exact ⟨((none,0),(none,0),(none,0),(fun _=>False)),trivial,rfl,Leads.trans (hold_nil (W:=W0) (fun w _=>nil_K w)) Lh⟩
 refine Zj (Za (Zh (Zh (Zi (Zo J (Z0 J J ?_))))))
 refine ZS0 (t:=55) (v':=.bool false) rfl (by rw [h49];rfl) ?_
 refine Zn (Za (wCondF J (Zj (Zzk ?_))))
 refine Zsa ?_
 refine Zp J (Zn (Za (Zl (Zw (ZI2 ?_)))))
 have hch:=hz.1 h49
 obtain ⟨g1,g2,g3⟩:=(got_inv hch.1).1 rfl
 have hok:=hch.2
 have he:getF l=.ok ⟨k.ss,k.fs,k.ds⟩:=by rw [hgx,hinn,g1,List.drop_eq_nil_of_le (show (x.drop 4).length≤a by omega)];rfl
 rw [he]
 exact ⟨((k.sA,k.sc),(k.fA,k.fc),(k.dA,k.dc),_),trivial,by show resVal _=Value.tuple _;rw [show k.rf.length=k.fs.length from hok.1,show k.rd.length=k.ds.length from hok.2];rfl,Leads.trans (obj_hold (W0:=W0) (ss:=k.ss) (fs:=k.fs) (ds:=k.ds) (rf:=k.rf) (rd:=k.rd) (h0:=(k.sA,k.sc)) (h1:=(k.fA,k.fc)) (h2:=(k.dA,k.dc)) (S1:=k.fS) (S2:=k.dS) ZQ hok.1 hok.2) Lh⟩
 refine Zr rfl rfl rfl rfl (Zr rfl rfl rfl rfl (Zr rfl rfl rfl rfl (Zu rfl rfl (Zn (Za (wCondF rfl (Zj (Za (Zh (Zh (Zi (Zo rfl (Z0 rfl rfl (ZS0 (t:=55) (v':=.bool true) rfl (by rw [decide_eq_true h49]) ?_))))))))))))))
 refine Zn (Za (wCondT J (Zh (Zi (oBuild Parts.nil J J Built.nil (Zo J (Zsa ?_)))))))
 refine Zp J (Zzp ?_)
 have he:getF l=.error e:=by rw [hgx,hinn,hz.2 h49];rfl
 rw [he]
 exact ⟨((none,0),(none,0),(none,0),(fun _=>False)),trivial,rfl,Leads.trans (hold_nil (W:=W0) (fun w _=>nil_K w)) Lh⟩
theorem file_Read {B:Base}{w:World}(hS:St B [] w) (A:Option Addr) (cp:Nat) (l:List Int) (hl:l.length≤900000) (hb:Byts l) (hcp:l.length≤cp) (hC:(Kd.int .u8).C B.e A l) (W0:World) (hW:Grow W0 B.e) :
 CW 10 #[.slice A l.length cp] w (Ret B (fun z:(Option Addr×Nat)×(Option Addr×Nat)×(Option Addr×Nat)×(Nat→Prop)=>True) (fun z=>.tuple #[.agg #[.slice z.1.1 (rdV l).fSymbols.length z.1.2,.slice z.2.1.1 (rdV l).fFuncs.length z.2.1.2,.slice z.2.2.1.1 (rdV l).fDatas.length z.2.2.1.2],.int .i64 (rdE l),.int .i64 (rdI l)]) (fun z=>[hold W0 z.2.2.2 (fun w=>kApiObject.K w (rdV l) [.slice z.1.1 (rdV l).fSymbols.length z.1.2,.slice z.2.1.1 (rdV l).fFuncs.length z.2.1.2,.slice z.2.2.1.1 (rdV l).fDatas.length z.2.2.1.2])])):=by
 refine ZX Tryz.func10 hS ?_
 refine Zh (Zi (oAlloc J ZP (fun b2=>?_)))
 refine Zp J (Zp J (Zn (Za (Zzi ?_))))
 (refine ZC0 rfl ZK (fun w hS=>frame hS ZQ (fun B' hB hS'=>file_Get hS' A cp l hl hb hcp (Kd.C_grow hB hC) W0)) ?_;rintro ⟨hA,hB1,hC1,S⟩ -)
 refine Zo J (oExt J ZP ?_)
 refine oExt J ZP ?_
 refine oAlloc J ZP (fun b5=>?_)
 refine Zsa ?_
 refine Zp J (Zn (Za (Zh (Zi (Zp J (Zn (Za (Zh (Zh (Zi (Zo J (Zy J J (Zn (Za (wC (fun h14=>?_) (fun h14=>?_))))))))))))))))
 obtain ⟨o,ho⟩:∃ o,getF l=.ok o:=by cases ho:getF l with | ok o=>exact ⟨o,rfl⟩ | error e=>rw [ho] at h14;exact absurd h14 (get_err ho)
 rw [ho]
 have hgo:=get_good hb ho
 refine Zi (Zla ?_)
 (refine ZD J (fun w B' hB hR hS'=>obj_Check hS' o _ (hold_at (hR _ _ ZP) (hW.trans hB)) hgo) ?_;rintro ⟨⟩ -)
 refine Zo J (oExt J ZP ?_)
 refine oExt J ZP ?_
 refine Zp J (Zp J (Zn (Za (Zh (Zh (Zi (Zo J (Z0 J J (Zn (Za (wC (fun h21=>?_) (fun h21=>?_))))))))))))
 refine Zh (Zi (oBuild Parts.nil J J Built.nil (Zo J (Zo J (Zsa ?_)))))
 refine Zp J (Zp J (Zn (Za (Zl (Zc (Zw ?_))))))
 refine ⟨rfl,_,(ResL.cons (by first | exact ResR.cell rfl ZP rfl | exact ResR.agg rfl ZP rfl rfl) (ResL.cons (ResR.tmp rfl) (ResL.cons (ResR.tmp rfl) ResL.nil))),?_⟩
 have e1:rdV l=nilO:=by unfold rdV;rw [ho];exact if_neg h21
 have e2:rdE l=objE o:=by unfold rdE;rw [ho]
 have e3:rdI l=objI o:=by unfold rdI;rw [ho];exact if_neg h21
 rw [e1,e2,e3]
 exact ⟨((none,0),(none,0),(none,0),(fun _=>False)),trivial,rfl,Leads.trans (hold_nil (W:=W0) (fun w _=>nil_K w)) Lh⟩
 refine Zj (Zzk ?_)
 refine Zsa ?_
 refine Zp J (Zp J (Zn (Za (Zl (Zw ?_)))))
 refine ⟨rfl,_,(ResL.cons (by first | exact ResR.cell rfl ZP rfl | exact ResR.agg rfl ZP rfl rfl) (ResL.cons (ResR.tmp rfl) (ResL.cons (ResR.tmp rfl) ResL.nil))),?_⟩
 have h21:=Decidable.not_not.1 h21
 have e1:rdV l=o:=by unfold rdV;rw [ho];exact if_pos h21
 have e2:rdE l=0:=by unfold rdE;rw [ho];exact h21
 have e3:rdI l = -1:=by unfold rdI;rw [ho];exact if_pos h21
 rw [e1,e2,e3]
 exact ⟨(hA,hB1,hC1,S),trivial,rfl,Lh⟩
 refine Zj (Za (Zh (Zh (Zi (Zo J (Z0 J J (Zn (Za (wC (fun h21=>?_) (fun h21=>?_))))))))))
 refine Zh (Zi (oBuild Parts.nil J J Built.nil (Zo J (Zo J (Zsa ?_)))))
 refine Zp J (Zp J (Zn (Za (Zl (Zc (Zw ?_))))))
 refine ⟨rfl,_,(ResL.cons (by first | exact ResR.cell rfl ZP rfl | exact ResR.agg rfl ZP rfl rfl) (ResL.cons (ResR.tmp rfl) (ResL.cons (ResR.tmp rfl) ResL.nil))),?_⟩
 have he:getF l=.error (errO (getF l)):=by cases ho:getF l with | ok x=>rw [ho] at h14;exact absurd rfl h14 | error e=>rfl
 have e1:rdV l=nilO:=by unfold rdV;rw [he]
 have e2:rdE l=errO (getF l):=by unfold rdE;rw [he];rfl
 have e3:rdI l = -1:=by unfold rdI;rw [he]
 rw [e1,e2,e3]
 exact ⟨((none,0),(none,0),(none,0),(fun _=>False)),trivial,rfl,Leads.trans (hold_nil (W:=W0) (fun w _=>nil_K w)) Lh⟩
 exact absurd (Decidable.not_not.1 h21) h14
theorem file_Write {B:Base}{w:World}(hS:St B [] w) (o:ApiObject) (oc:List Value) (ho:kApiObject.K B.e o oc) (hg:GoodO o) (W0:World) :
 CW 13 #[.agg oc.toArray] w (Ret B (fun z:Option Addr×Nat=>True) (fun z=>.tuple #[.slice z.1 (wrV o).length z.2,.int .i64 (objE o),.int .i64 (wrI o)]) (fun z=>[row (Kd.int .u8) W0 5 (.slice z.1 (wrV o).length z.2) (wrV o)])):=by
 obtain ⟨A0,c0,A1,c1,A2,c2,rfl,m0,q0,m1,q1,m2,q2⟩:=kApiObject_open ho
 refine ZX Tryz.func13 hS ?_
 refine Zh (Zi (oBox J ZP (fun b1=>?_)))
 refine Zp J (Zp J (Zp J (Zn (Za (Zh (Zh (Zi (Zla ?_))))))))
 (refine ZC0 rfl ZK (fun w hS=>frame hS ZQ (fun B' hB hS'=>obj_Check hS' o _ (kApiObject.K_grow hB ho) hg)) ?_;rintro ⟨⟩ -)
 refine Zo J (oExt J ZP ?_)
 refine oExt J ZP ?_
 refine Zp J (Zp J (Zn (Za (Zh (Zi (Zo J (Z0 J J (Zn (Za (wC (fun h13=>?_) (fun h13=>?_)))))))))))
 refine Zh (Zi (Zo J (Zo J (Zp J (Zp J (Zp J (Zn (Za (Zl (Zc (Zw ?_)))))))))))
 refine ⟨rfl,_,(ResL.cons (ResR.tmp rfl) (ResL.cons (ResR.tmp rfl) (ResL.cons (ResR.tmp rfl) ResL.nil))),?_⟩
 have e1:wrV o=[]:=if_neg h13
 have e3:wrI o=objI o:=if_neg h13
 rw [e1,e3]
 exact ⟨(none,0),trivial,rfl,Leads.trans (Leads.nilrow (kd:=Kd.int .u8) (W:=W0) (e:=5)) Lh⟩
 have h13:=Decidable.not_not.1 h13
 refine Zj (Zzk ?_)
 (refine ZC0 rfl ZK (fun w hS=>frame hS ZQ (fun B' hB hS'=>file_Put hS' o _ (kApiObject.K_grow hB ho) (sml_of hg h13) hg.v W0)) ?_;rintro ⟨A17,c17⟩ -)
 refine Zp J (Zp J (Zp J (Zn (Za (Zl (Zw ?_))))))
 refine ⟨rfl,_,(ResL.cons (ResR.tmp rfl) (ResL.cons (ResR.tmp rfl) (ResL.cons (ResR.tmp rfl) ResL.nil))),?_⟩
 have e1:wrV o=objP o:=if_pos h13
 have e3:wrI o = -1:=if_pos h13
 rw [e1,e3,h13]
 exact ⟨(A17,c17),trivial,rfl,Lh⟩
section
variable {c : Cx} {M : Md c} {d : Nat} {ty : TypeId} {pos : String} {af : Array Edge} {rest : List Oper} {E : Env} {D : List Deferred} {H : List Res} {x y : Operand} {t t' : TypeId}
theorem oBinV {op:BinOp}{u v r:Value}(hx:E.op x=some u) (hy:E.op y=some v) (hg:∀ w,(eqGuard op t x y u v).run c.P w=.ok () w) (hr:∀ w,(binOp op t u v).run c.P w=.ok r w) (h:O M rest ((d,r) :: E) D H) (hN:Nat.blt d c.N=true:=by rfl) :
 O M (⟨some d,.binOp op t x y t',ty,pos,af,none⟩ :: rest) E D H:=
 oC _ rfl hN (fun a w ha hw=>by simp only [execOp,ha.op hx,ha.op hy,Sem.run_bind,hg,Result.andThen_ok,hr,Sem.run_pure]) h
end
theorem same_rel (x:ApiReloc) (w:World):(binOp .neq 92 (.agg #[.int .i64 x.fAt,.int .i64 x.fSym,.bool x.fWide]) (.agg #[.int .i64 x.fAt,.int .i64 x.fSym,.bool x.fWide])).run Tryz.prog w=.ok (.bool false) w:=by
 simp [go_sem,binOp,Op.equal,Op.maxDepth]
theorem same_lin (x:ApiLine) (w:World):(binOp .neq 107 (.agg #[.int .i64 x.fAt,.int .i64 x.fLine]) (.agg #[.int .i64 x.fAt,.int .i64 x.fLine])).run Tryz.prog w=.ok (.bool false) w:=by
 simp [go_sem,binOp,Op.equal,Op.maxDepth]
theorem same_ins (x:ApiInstr) (w:World):(binOp .neq 90 (.agg #[.int .i64 x.fOp,.int .i64 x.fA,.int .i64 x.fB,.int .i64 x.fC,.int .i64 x.fN]) (.agg #[.int .i64 x.fOp,.int .i64 x.fA,.int .i64 x.fB,.int .i64 x.fC,.int .i64 x.fN])).run Tryz.prog w=.ok (.bool false) w:=by
 simp [go_sem,binOp,Op.equal,Op.maxDepth]
theorem ref15_SameRelocs {B:Base}{w:World}(hS:St B [] w) (l:List ApiReloc) (A:Option Addr) (cp:Nat) (hC:kApiReloc.C B.e A l) (A1:Option Addr) (cp1:Nat) (hC1:kApiReloc.C B.e A1 l) :
 CW 80 #[.slice A l.length cp,.slice A1 l.length cp1] w (Ret B (fun _:Unit=>True) (fun _=>.bool true) (fun _=>[])):=by
 have hl:=hC.1
 refine ZX Tryz.func80 hS ?_
 refine Zh (Zi (Zp J (Zn (Za (Zh (Zh (Zi (Zo J (Zv J J (Zo J (Zv J J (Z0 J J (ZS0 (t:=10) (v':=.bool false) J (by simp) ?_)))))))))))))
 refine Zn (Za (wCondF J (Zj (Za (Zh (Zh (Zi (Zp J (Zn (Za (Zk (wLoop (ι:=Nat) (fun i=>[(0,.slice A l.length cp),(1,.slice A1 l.length cp1),(5,.int .i64 (i:Int))]) (fun i=>[]) (fun i=>i≤l.length) (fun i=>l.length-i) 0 ?_ cv (Leads.has ZQ) ?_))))))))))))
 exact Nat.zero_le _
 rintro i hi
 try dsimp only
 refine Zh (Zh (Zi (Zo J (Zo J (Zv J J (Zx J J (Zn (Za (wC (fun h14=>?_) (fun h14=>?_))))))))))
 obtain ⟨x,hx⟩:∃ x,l[i]?=some x:=⟨_,List.getElem?_eq_getElem ZO⟩
 obtain ⟨e1,cs1,hE⟩:=hC.elm hx
 obtain rfl:=kApiReloc_open hE.K
 obtain ⟨e2,cs2,hE2⟩:=hC1.elm hx
 obtain rfl:=kApiReloc_open hE2.K
 have hil:i<l.length:=by omega
 refine Zj (Za (Zh (Zk (Zh (wDrawG J [0,1,2,3,4,5,6,7,8] [] [] 24 ZK J J (fun w0=>?_))))))
 refine Zo J (Zo J (oIdxE J J (hE) ZO J J ?_))
 have hc19:=(hE).cell
 refine Zlx hc19 ?_
 refine Zo J (Zo J (oIdxE J J (hE2) ZO J J ?_))
 have hc23:=(hE2).cell
 refine Zlx hc23 ?_
 refine oBinV (r:=.bool false) J J (fun w=>run_eqGuard_agg w .neq _ _ _ _ _ Tryz.eqGuardType92) (fun w=>same_rel _ w) ?_
 refine Z6 (Zn (Za (wCondF J (Zj (Zd (Za (Zi (Zo J (Zsu ?_)))))))))
 refine Zp J (Zn (Za ?_))
 exact ⟨rfl,i+1,by omega,by omega,cv,Lh⟩
 refine Zm (Zzf ?_)
 exact ⟨(),trivial,rfl,Lh⟩
theorem ref15_Same {B:Base}{w:World}(hS:St B [] w) (d:ApiData) (dc ec:List Value) (hd:kApiData.K B.e d dc) (he:kApiData.K B.e d ec) :
 CW 36 #[.agg dc.toArray,.agg ec.toArray] w (Ret B (fun _:Unit=>True) (fun _=>.bool true) (fun _=>[])):=by
 obtain ⟨A0,a0,A1,a1,rfl,l0,g0,l1,g1⟩:=kApiData_open hd
 obtain ⟨D0,d0,D1,d1,rfl,m0,q0,m1,q1⟩:=kApiData_open he
 have hl:=g0.1
 refine ZX Tryz.func36 hS ?_
 refine Zh (Zi (oBox J ZP (fun b2=>?_)))
 refine oBox J ZP (fun b3=>?_)
 refine Zp J (Zn (Za (Zh (Zh (Zi (Zz (n:=0) (m:=0) J J J (Zld ?_)))))))
 refine Zz (n:=0) (m:=0) J J J (Zld ?_)
 refine Z0 J J (ZS0 (t:=10) (v':=.bool false) J (by simp) ?_)
 refine Zo J (Zq J J (Zz (n:=1) (m:=1) J J J (Zzg ?_)))
 refine Zq J J (Zv J J (Zq J J (Zz (n:=1) (m:=1) J J J (Zzg ?_))))
 refine Zq J J (Zv J J (Zq J J (Z0 J J (ZS0 (t:=18) (v':=.bool false) J (by simp) ?_))))
 refine Zu J J (Zo J (Zq J J (Zz (n:=2) (m:=2) J J J (Zzg ?_))))
 refine Zq J J (Zz (n:=2) (m:=2) J J J (Zzg ?_))
 refine Zq J J ?_
 (refine ZC0 rfl ZK (fun w hS=>frame hS ZQ (fun B' hB hS'=>ref15_SameRelocs hS' d.fRelocs A1 a1 (Kd.C_grow hB g1) D1 d1 (Kd.C_grow hB q1))) ?_;rintro ⟨⟩ -)
 refine Zq J J (Zno ?_)
 refine ZS0 (t:=26) (v':=.bool false) J (by simp) ?_
 refine Zu J J (Zn (Za (wCondF J (Zj (Za (Zh (Zh (Zi (Zp J (Zn (Za (Zk (wLoop (ι:=Nat) (fun i=>[(2,.pointer (some ⟨b2,0,none⟩)),(3,.pointer (some ⟨b3,0,none⟩)),(5,.int .i64 (i:Int))]) (fun i=>[blk b2 55 [.int .i64 d.fKind,.slice A0 d.fWords.length a0,.slice A1 d.fRelocs.length a1],blk b3 55 [.int .i64 d.fKind,.slice D0 d.fWords.length d0,.slice D1 d.fRelocs.length d1]]) (fun i=>i≤d.fWords.length) (fun i=>d.fWords.length-i) 0 ?_ cv (Leads.has ZQ) ?_)))))))))))))
 exact Nat.zero_le _
 rintro i hi
 try dsimp only
 refine Zh (Zh (Zi (Zo J (Zz (n:=1) (m:=1) J J J (Zld ?_)))))
 refine Zv J J (Zx J J (Zn (Za (wC (fun h32=>?_) (fun h32=>?_)))))
 obtain ⟨x,hx⟩:∃ x,d.fWords[i]?=some x:=⟨_,List.getElem?_eq_getElem ZO⟩
 obtain ⟨e1,cs1,hE⟩:=g0.elm hx
 obtain rfl:=(show cs1=[Value.int .i64 x] from hE.K)
 obtain ⟨e2,cs2,hE2⟩:=q0.elm hx
 obtain rfl:=(show cs2=[Value.int .i64 x] from hE2.K)
 have hil:i<d.fWords.length:=by omega
 refine Zj (Za (Zh (Zk (Zh (wDrawG J [0,1,2,3,4,5,6,7,8,9,10] [] [] 24 ZK J J (fun w0=>?_))))))
 refine Zz (n:=1) (m:=1) J J J (Zld ?_)
 refine Zo J (oIdxE J J (hE) ZO J J ?_)
 have hc38:=(hE).cell
 refine Zlx hc38 ?_
 refine Zz (n:=1) (m:=1) J J J (Zld ?_)
 refine Zo J (oIdxE J J (hE2) ZO J J ?_)
 have hc43:=(hE2).cell
 refine Zlx hc43 ?_
 refine Z0 J J (ZS0 (t:=45) (v':=.bool false) J (by simp) ?_)
 refine Z6 (Zn (Za (wCondF J (Zj (Zd (Za (Zi (Zo J (Zsu ?_)))))))))
 refine Zp J (Zn (Za ?_))
 exact ⟨rfl,i+1,by omega,by omega,cv,Lh⟩
 refine Zm (Zzf ?_)
 exact ⟨(),trivial,rfl,Lh⟩
theorem ref16_Same {B:Base}{w:World}(hS:St B [] w) (f:ApiFunc) (fc gc:List Value) (hf:kApiFunc.K B.e f fc) (hg:kApiFunc.K B.e f gc) :
 CW 35 #[.agg fc.toArray,.agg gc.toArray] w (Ret B (fun _:Unit=>True) (fun _=>.bool true) (fun _=>[])):=by
 obtain ⟨A0,a0,A1,a1,A2,a2,A3,a3,rfl,l0,g0,l1,g1,l2,g2,l3,g3⟩:=kApiFunc_open hf
 obtain ⟨D0,d0,D1,d1,D2,d2,D3,d3,rfl,m0,q0,m1,q1,m2,q2,m3,q3⟩:=kApiFunc_open hg
 have hl1:=g1.1
 have hl2:=g2.1
 refine ZX Tryz.func35 hS ?_
 refine Zh (Zi (oBox J ZP (fun b2=>?_)))
 refine oBox J ZP (fun b3=>?_)
 refine Zp J (Zn (Za (Zh (Zh (Zi ?_)))))
 simp only [List.append_eq,List.cons_append,List.nil_append]
 refine Zz (n:=0) (m:=0) J J J (Zld ?_)
 refine Zz (n:=0) (m:=0) J J J (Zld ?_)
 refine Z0 J J (ZS0 (t:=11) (v':=.bool false) J (by simp) ?_)
 refine Zo J (Zq J J (Zz (n:=1) (m:=1) J J J (Zzg ?_)))
 refine Zq J J (Zz (n:=1) (m:=1) J J J (Zzg ?_))
 refine Zq J J ?_
 (refine ZC0 rfl ZK (fun w hS=>frame hS ZQ (fun B' hB hS'=>Go.Proofs.YtpmdhkjbhjgoaaaGreatG.ints_any hS' A0 a0 f.fKinds (Kd.C_grow hB g0) D0 d0 f.fKinds (Kd.C_grow hB q0))) ?_;rintro ⟨⟩ -)
 refine Zq J J (Zno ?_)
 refine ZS0 (t:=18) (v':=.bool false) J (by simp) ?_
 refine Zu J J (Zo J (Zq J J (Zz (n:=2) (m:=2) J J J (Zzg ?_))))
 refine Zq J J (Zz (n:=2) (m:=2) J J J (Zzg ?_))
 refine Zq J J (Z0 J J (ZS0 (t:=25) (v':=.bool false) J (by simp) ?_))
 refine Zu J J (Zo J (Zq J J (Zz (n:=3) (m:=3) J J J (Zzg ?_))))
 refine Zq J J (Zz (n:=3) (m:=3) J J J (Zzg ?_))
 refine Zq J J (oNeqBool J J J (ZS0 (t:=32) (v':=.bool false) J (by simp) ?_))
 refine Zu J J (Zo J (Zq J J (Zz (n:=4) (m:=4) J J J (Zzg ?_))))
 refine Zq J J (Zz (n:=4) (m:=4) J J J (Zzg ?_))
 refine Zq J J (Z0 J J (ZS0 (t:=39) (v':=.bool false) J (by simp) ?_))
 refine Zu J J (Zo J (Zq J J (Zz (n:=5) (m:=5) J J J (Zzg ?_))))
 refine Zq J J (Zz (n:=5) (m:=5) J J J (Zzg ?_))
 refine Zq J J (Z0 J J (ZS0 (t:=46) (v':=.bool false) J (by simp) ?_))
 refine Zu J J (Zo J (Zq J J (Zz (n:=6) (m:=6) J J J (Zzg ?_))))
 refine Zq J J (Zv J J (Zq J J (Zz (n:=6) (m:=6) J J J (Zzg ?_))))
 refine Zq J J (Zv J J (Zq J J (Z0 J J (ZS0 (t:=55) (v':=.bool false) J (by simp) ?_))))
 refine Zu J J (Zo J (Zq J J (Zz (n:=7) (m:=7) J J J (Zzg ?_))))
 refine Zq J J (Zv J J (Zq J J (Zz (n:=7) (m:=7) J J J (Zzg ?_))))
 refine Zq J J (Zv J J (Zq J J (Z0 J J (ZS0 (t:=64) (v':=.bool false) J (by simp) ?_))))
 refine Zu J J (Zo J (Zq J J (Zz (n:=8) (m:=8) J J J (Zzg ?_))))
 refine Zq J J (Zz (n:=8) (m:=8) J J J (Zzg ?_))
 refine Zq J J ?_
 (refine ZC0 rfl ZK (fun w hS=>frame hS ZQ (fun B' hB hS'=>ref15_SameRelocs hS' f.fRelocs A3 a3 (Kd.C_grow hB g3) D3 d3 (Kd.C_grow hB q3))) ?_;rintro ⟨⟩ -)
 refine Zq J J (Zno ?_)
 refine ZS0 (t:=72) (v':=.bool false) J (by simp) ?_
 refine Zu J J (Zn (Za (wCondF J (Zj (Za (Zh (Zh (Zi (Zp J (Zn (Za (Zk (wLoop (ι:=Nat) (fun i=>[(2,.pointer (some ⟨b2,0,none⟩)),(3,.pointer (some ⟨b3,0,none⟩)),(5,.int .i64 (i:Int))]) (fun i=>[blk b2 51 [.int .i64 f.fClass,.slice A0 f.fKinds.length a0,.int .i64 f.fPad,.bool f.fNosplit,.int .i64 f.fFrom,.int .i64 f.fTo,.slice A1 f.fLines.length a1,.slice A2 f.fCode.length a2,.slice A3 f.fRelocs.length a3],blk b3 51 [.int .i64 f.fClass,.slice D0 f.fKinds.length d0,.int .i64 f.fPad,.bool f.fNosplit,.int .i64 f.fFrom,.int .i64 f.fTo,.slice D1 f.fLines.length d1,.slice D2 f.fCode.length d2,.slice D3 f.fRelocs.length d3]]) (fun i=>i≤f.fLines.length) (fun i=>f.fLines.length-i) 0 ?_ cv (Leads.has ZQ) ?_)))))))))))))
 exact Nat.zero_le _
 rintro i hi
 try dsimp only
 refine Zh (Zh (Zi (Zo J (Zz (n:=6) (m:=6) J J J (Zld ?_)))))
 refine Zv J J (Zx J J (Zn (Za (wC (fun h78=>?_) (fun h78=>?_)))))
 obtain ⟨x,hx⟩:∃ x,f.fLines[i]?=some x:=⟨_,List.getElem?_eq_getElem ZO⟩
 obtain ⟨e1,cs1,hE⟩:=g1.elm hx
 obtain rfl:=kApiLine_open hE.K
 obtain ⟨e2,cs2,hE2⟩:=q1.elm hx
 obtain rfl:=kApiLine_open hE2.K
 have hil:i<f.fLines.length:=by omega
 refine Zj (Za (Zh (Zk (Zh (wDrawG J [0,1,2,3,4,5,6,7,8,9,10] [] [] 24 ZK J J (fun w0=>?_))))))
 refine Zz (n:=6) (m:=6) J J J (Zld ?_)
 refine Zo J (oIdxE J J (hE) ZO J J ?_)
 have hc84:=(hE).cell
 refine Zlx hc84 ?_
 refine Zz (n:=6) (m:=6) J J J (Zld ?_)
 refine Zo J (oIdxE J J (hE2) ZO J J ?_)
 have hc89:=(hE2).cell
 refine Zlx hc89 ?_
 refine oBinV (r:=.bool false) J J (fun w=>run_eqGuard_agg w .neq _ _ _ _ _ Tryz.eqGuardType107) (fun w=>same_lin _ w) ?_
 refine Z6 (Zn (Za (wCondF J (Zj (Zd (Za (Zi (Zo J (Zsu ?_)))))))))
 refine Zp J (Zn (Za ?_))
 exact ⟨rfl,i+1,by omega,by omega,cv,Lh⟩
 refine Zm (Zb (Zb (Ze (Za (Zh (Zh (Zi (Zp J (Zn (Za (Zk (wLoop (ι:=Nat) (fun i=>[(2,.pointer (some ⟨b2,0,none⟩)),(3,.pointer (some ⟨b3,0,none⟩)),(6,.int .i64 (i:Int))]) (fun i=>[blk b2 51 [.int .i64 f.fClass,.slice A0 f.fKinds.length a0,.int .i64 f.fPad,.bool f.fNosplit,.int .i64 f.fFrom,.int .i64 f.fTo,.slice A1 f.fLines.length a1,.slice A2 f.fCode.length a2,.slice A3 f.fRelocs.length a3],blk b3 51 [.int .i64 f.fClass,.slice D0 f.fKinds.length d0,.int .i64 f.fPad,.bool f.fNosplit,.int .i64 f.fFrom,.int .i64 f.fTo,.slice D1 f.fLines.length d1,.slice D2 f.fCode.length d2,.slice D3 f.fRelocs.length d3]]) (fun i=>i≤f.fCode.length) (fun i=>f.fCode.length-i) 0 ?_ cv (Leads.has ZQ) ?_))))))))))))
 exact Nat.zero_le _
 rintro i hi
 try dsimp only
 refine Zh (Zh (Zi (Zo J (Zz (n:=7) (m:=7) J J J (Zld ?_)))))
 refine Zv J J (Zx J J (Zn (Za (wC (fun h96=>?_) (fun h96=>?_)))))
 obtain ⟨x,hx⟩:∃ x,f.fCode[i]?=some x:=⟨_,List.getElem?_eq_getElem ZO⟩
 obtain ⟨e1,cs1,hE⟩:=g2.elm hx
 obtain rfl:=kApiInstr_open hE.K
 obtain ⟨e2,cs2,hE2⟩:=q2.elm hx
 obtain rfl:=kApiInstr_open hE2.K
 have hil:i<f.fCode.length:=by omega
 refine Zj (Za (Zh (Zk (Zh (wDrawG J [0,1,2,3,4,5,6,7,8,9,10] [] [] 24 ZK J J (fun w0=>?_))))))
 refine Zz (n:=7) (m:=7) J J J (Zld ?_)
 refine Zo J (oIdxE J J (hE) ZO J J ?_)
 have hc102:=(hE).cell
 refine Zlx hc102 ?_
 refine Zz (n:=7) (m:=7) J J J (Zld ?_)
 refine Zo J (oIdxE J J (hE2) ZO J J ?_)
 have hc107:=(hE2).cell
 refine Zlx hc107 ?_
 refine oBinV (r:=.bool false) J J (fun w=>run_eqGuard_agg w .neq _ _ _ _ _ Tryz.eqGuardType90) (fun w=>same_ins _ w) ?_
 refine Z6 (Zn (Za (wCondF J (Zj (Zd (Za (Zi (Zo J (Zsu ?_)))))))))
 refine Zp J (Zn (Za ?_))
 exact ⟨rfl,i+1,by omega,by omega,cv,Lh⟩
 refine Zm (Zzf ?_)
 exact ⟨(),trivial,rfl,Lh⟩
theorem same_sym (x:ApiSymbol) (w:World):(binOp .neq 44 (.agg #[.string x.fName,.bool x.fLocal,.int .i64 x.fSort,.int .i64 x.fKind,.int .i64 x.fDef]) (.agg #[.string x.fName,.bool x.fLocal,.int .i64 x.fSort,.int .i64 x.fKind,.int .i64 x.fDef])).run Tryz.prog w=.ok (.bool false) w:=by
 simp [go_sem,binOp,Op.equal,Op.maxDepth]
theorem ref19_Same {B:Base}{w:World}(hS:St B [] w) (o:ApiObject) (oc ec:List Value) (hd:kApiObject.K B.e o oc) (he:kApiObject.K B.e o ec) :
 CW 12 #[.agg oc.toArray,.agg ec.toArray] w (Ret B (fun _:Unit=>True) (fun _=>.bool true) (fun _=>[])):=by
 obtain ⟨A0,a0,A1,a1,A2,a2,rfl,l0,g0,l1,g1,l2,g2⟩:=kApiObject_open hd
 obtain ⟨D0,d0,D1,d1,D2,d2,rfl,m0,q0,m1,q1,m2,q2⟩:=kApiObject_open he
 have hl0:=g0.1
 have hl1:=g1.1
 have hl2:=g2.1
 refine ZX Tryz.func12 hS ?_
 refine Zh (Zi (oBox J ZP (fun b2=>?_)))
 refine oBox J ZP (fun b3=>?_)
 refine Zp J (Zn (Za (Zh (Zh (Zi (Zz (n:=0) (m:=0) J J J (Zld ?_)))))))
 refine Zv J J (Zz (n:=0) (m:=0) J J J (Zld ?_))
 refine Zv J J (Z0 J J (ZS0 (t:=14) (v':=.bool false) J (by simp) ?_))
 refine Zo J (Zq J J (Zz (n:=1) (m:=1) J J J (Zzg ?_)))
 refine Zq J J (Zv J J (Zq J J (Zz (n:=1) (m:=1) J J J (Zzg ?_))))
 refine Zq J J (Zv J J (Zq J J (Z0 J J (ZS0 (t:=22) (v':=.bool false) J (by simp) ?_))))
 refine Zu J J (Zo J (Zq J J (Zz (n:=2) (m:=2) J J J (Zzg ?_))))
 refine Zq J J (Zv J J (Zq J J (Zz (n:=2) (m:=2) J J J (Zzg ?_))))
 refine Zq J J (Zv J J (Zq J J (Z0 J J (ZS0 (t:=31) (v':=.bool false) J (by simp) ?_))))
 refine Zu J J (Zn (Za (wCondF J (Zj (Za (Zh (Zh (Zi (Zp J (Zn (Za (Zk (wLoop (ι:=Nat) (fun i=>[(2,.pointer (some ⟨b2,0,none⟩)),(3,.pointer (some ⟨b3,0,none⟩)),(5,.int .i64 (i:Int))]) (fun i=>[blk b2 26 [.slice A0 o.fSymbols.length a0,.slice A1 o.fFuncs.length a1,.slice A2 o.fDatas.length a2],blk b3 26 [.slice D0 o.fSymbols.length d0,.slice D1 o.fFuncs.length d1,.slice D2 o.fDatas.length d2]]) (fun i=>i≤o.fSymbols.length) (fun i=>o.fSymbols.length-i) 0 ?_ cv (Leads.has ZQ) ?_)))))))))))))
 exact Nat.zero_le _
 rintro i hi
 try dsimp only
 refine Zh (Zh (Zi (Zo J (Zz (n:=0) (m:=0) J J J (Zld ?_)))))
 refine Zv J J (Zx J J (Zn (Za (wC (fun h37=>?_) (fun h37=>?_)))))
 obtain ⟨x,hx⟩:∃ x,o.fSymbols[i]?=some x:=⟨_,List.getElem?_eq_getElem ZO⟩
 obtain ⟨e1,cs1,hE⟩:=g0.elm hx
 obtain rfl:=kApiSymbol_open hE.K
 obtain ⟨e2,cs2,hE2⟩:=q0.elm hx
 obtain rfl:=kApiSymbol_open hE2.K
 have hil:i<o.fSymbols.length:=by omega
 refine Zj (Za (Zh (Zk (Zh (wDrawG J [0,1,2,3,4,5,6,7,8,9,10] [] [] 24 ZK J J (fun w0=>?_))))))
 refine Zz (n:=0) (m:=0) J J J (Zld ?_)
 refine Zo J (oIdxE J J (hE) ZO J J ?_)
 have hc43:=(hE).cell
 refine Zlx hc43 ?_
 refine Zz (n:=0) (m:=0) J J J (Zld ?_)
 refine Zo J (oIdxE J J (hE2) ZO J J ?_)
 have hc48:=(hE2).cell
 refine Zlx hc48 ?_
 refine oBinV (r:=.bool false) J J (fun w=>run_eqGuard_agg w .neq _ _ _ _ _ Tryz.eqGuardType44) (fun w=>same_sym _ w) ?_
 refine Z6 (Zn (Za (wCondF J (Zj (Zd (Za (Zi (Zo J (Zsu ?_)))))))))
 refine Zp J (Zn (Za ?_))
 exact ⟨rfl,i+1,by omega,by omega,cv,Lh⟩
 refine Zm (Zb (Zb (Ze (Za (Zh (Zh (Zi (Zp J (Zn (Za (Zk (wLoop (ι:=Nat) (fun i=>[(2,.pointer (some ⟨b2,0,none⟩)),(3,.pointer (some ⟨b3,0,none⟩)),(6,.int .i64 (i:Int))]) (fun i=>[blk b2 26 [.slice A0 o.fSymbols.length a0,.slice A1 o.fFuncs.length a1,.slice A2 o.fDatas.length a2],blk b3 26 [.slice D0 o.fSymbols.length d0,.slice D1 o.fFuncs.length d1,.slice D2 o.fDatas.length d2]]) (fun i=>i≤o.fFuncs.length) (fun i=>o.fFuncs.length-i) 0 ?_ cv (Leads.has ZQ) ?_))))))))))))
 exact Nat.zero_le _
 rintro i hi
 try dsimp only
 refine Zh (Zh (Zi (Zo J (Zz (n:=1) (m:=1) J J J (Zld ?_)))))
 refine Zv J J (Zx J J (Zn (Za (wC (fun h55=>?_) (fun h55=>?_)))))
 obtain ⟨x,hx⟩:∃ x,o.fFuncs[i]?=some x:=⟨_,List.getElem?_eq_getElem ZO⟩
 obtain ⟨e1,cs1,hE⟩:=g1.elm hx
 obtain ⟨X0p,x0p,X1p,x1p,X2p,x2p,X3p,x3p,rfl,-,-,-,-,-,-,-,-⟩:=kApiFunc_open hE.K
 obtain ⟨e2,cs2,hE2⟩:=q1.elm hx
 obtain ⟨X0q,x0q,X1q,x1q,X2q,x2q,X3q,x3q,rfl,-,-,-,-,-,-,-,-⟩:=kApiFunc_open hE2.K
 have hil:i<o.fFuncs.length:=by omega
 refine Zj (Za (Zh (Zk (Zh (wDrawG J [0,1,2,3,4,5,6,7,8,9] [(10,[],[11])] [] 24 ZK J J (fun w0=>?_))))))
 refine Zz (n:=1) (m:=1) J J J (Zld ?_)
 refine Zo J (oIdxE J J (hE) ZO J J ?_)
 have hc61:=(hE).cell
 refine Zlx hc61 ?_
 refine Zz (n:=1) (m:=1) J J J (Zld ?_)
 refine Zo J (oIdxE J J (hE2) ZO J J ?_)
 have hc66:=(hE2).cell
 refine Zlx hc66 ?_
 refine Z4 (Z5 J ?_)
 (refine ZC0 rfl ZK (fun w hS=>frame hS ZQ (fun B' hB hS'=>ref16_Same hS' x _ _ (kApiFunc.K_grow hB hE.K) (kApiFunc.K_grow hB hE2.K))) ?_;rintro ⟨⟩ -)
 refine ZG ?_ J (fun w0=>?_)
 exact AgainG.nil
 refine Zno ?_
 refine Z6 (Zn (Za (wCondF J (Zj (Zd (Za (Zi (Zo J (Zsu ?_)))))))))
 refine Zp J (Zn (Za ?_))
 exact ⟨rfl,i+1,by omega,by omega,cv,Lh⟩
 refine Zm (Zb (Zb (Ze (Za (Zh (Zh (Zi (Zp J (Zn (Za (Zk (wLoop (ι:=Nat) (fun i=>[(2,.pointer (some ⟨b2,0,none⟩)),(3,.pointer (some ⟨b3,0,none⟩)),(7,.int .i64 (i:Int))]) (fun i=>[blk b2 26 [.slice A0 o.fSymbols.length a0,.slice A1 o.fFuncs.length a1,.slice A2 o.fDatas.length a2],blk b3 26 [.slice D0 o.fSymbols.length d0,.slice D1 o.fFuncs.length d1,.slice D2 o.fDatas.length d2]]) (fun i=>i≤o.fDatas.length) (fun i=>o.fDatas.length-i) 0 ?_ cv (Leads.has ZQ) ?_))))))))))))
 exact Nat.zero_le _
 rintro i hi
 try dsimp only
 refine Zh (Zh (Zi (Zo J (Zz (n:=2) (m:=2) J J J (Zld ?_)))))
 refine Zv J J (Zx J J (Zn (Za (wC (fun h74=>?_) (fun h74=>?_)))))
 obtain ⟨x,hx⟩:∃ x,o.fDatas[i]?=some x:=⟨_,List.getElem?_eq_getElem ZO⟩
 obtain ⟨e1,cs1,hE⟩:=g2.elm hx
 obtain ⟨X0p,x0p,X1p,x1p,rfl,-,-,-,-⟩:=kApiData_open hE.K
 obtain ⟨e2,cs2,hE2⟩:=q2.elm hx
 obtain ⟨X0q,x0q,X1q,x1q,rfl,-,-,-,-⟩:=kApiData_open hE2.K
 have hil:i<o.fDatas.length:=by omega
 refine Zj (Za (Zh (Zk (Zh (wDrawG J [0,1,2,3,4,5,6,7,8,9] [(10,[],[11])] [] 24 ZK J J (fun w0=>?_))))))
 refine Zz (n:=2) (m:=2) J J J (Zld ?_)
 refine Zo J (oIdxE J J (hE) ZO J J ?_)
 have hc80:=(hE).cell
 refine Zlx hc80 ?_
 refine Zz (n:=2) (m:=2) J J J (Zld ?_)
 refine Zo J (oIdxE J J (hE2) ZO J J ?_)
 have hc85:=(hE2).cell
 refine Zlx hc85 ?_
 refine Z4 (Z5 J ?_)
 (refine ZC0 rfl ZK (fun w hS=>frame hS ZQ (fun B' hB hS'=>ref15_Same hS' x _ _ (kApiData.K_grow hB hE.K) (kApiData.K_grow hB hE2.K))) ?_;rintro ⟨⟩ -)
 refine ZG ?_ J (fun w0=>?_)
 exact AgainG.nil
 refine Zno ?_
 refine Z6 (Zn (Za (wCondF J (Zj (Zd (Za (Zi (Zo J (Zsu ?_)))))))))
 refine Zp J (Zn (Za ?_))
 exact ⟨rfl,i+1,by omega,by omega,cv,Lh⟩
 refine Zm (Zzf ?_)
 exact ⟨(),trivial,rfl,Lh⟩
open Go.Proofs.YtpmdhkjbhjgoaaaGreatW (GoodO objE objI FewB)
open Go.Proofs.YtpmdhkjbhjgoaaaGreatO (nilO nil_K nil_good oneO oneS oneF oneD one_K one_good one_E law_One few_good)
theorem few_sml {o:ApiObject}(h:FewB o):SmlO o:=
 ⟨h.syms,h.funcs,h.datas,fun f hf=>by have:=h.fun_ f hf;exact ⟨by omega,by omega,by omega,by omega⟩,fun d hd=>by have:=h.data d hd;exact ⟨by omega,by omega⟩⟩
theorem wr_ok {o:ApiObject}(h:objE o=0):wrV o=objP o∧wrI o = -1:=⟨if_pos h,if_pos h⟩
theorem rd_of {l:List Int}{o:ApiObject}(hg:getF l=.ok o) (h:objE o=0):rdV l=o∧rdE l=0∧rdI l = -1:=by
 refine ⟨?_,?_,?_⟩
 · unfold rdV;rw [hg];exact if_pos h
 · unfold rdE;rw [hg];exact h
 · unfold rdI;rw [hg];exact if_pos h
theorem one_few:FewB (oneO 0):=⟨by decide,by decide,by decide,fun f hf=>by obtain rfl:=List.mem_singleton.1 hf;decide,fun d hd=>by obtain rfl:=List.mem_singleton.1 hd;decide⟩
theorem in0:in64 0:=by unfold in64;omega
theorem one_D:ObjD (oneO 0):=obj_room one_few (one_good in0).v one_E.1
theorem one_rd:rdV (objP (oneO 0))=oneO 0∧rdE (objP (oneO 0))=0∧rdI (objP (oneO 0)) = -1:=rd_of (put_get one_D) one_E.1
theorem abc_byts:Byts [97,98,99]:=fun v hv=>by simp only [List.mem_cons,List.not_mem_nil,or_false] at hv;omega
theorem get_abc:getF [97,98,99]=.error 5:=rfl
theorem nil_len:(objP nilO).length=11:=by
 unfold objP sealP innP lstP magicL
 simp only [List.length_append,putL_len,List.length_cons,List.length_nil,nilO,List.flatMap_nil]
theorem known20 {B:Base}{w:World}(hS:St B [] w) :
 CW 7 #[] w (Ret B (fun _:Unit=>True) (fun _=>.bool true) (fun _=>[])):=by
 refine ZX Tryz.func7 hS ?_
 refine Zh (Zi (Zp J (Zn (Za (Zh (Zi ?_))))))
 (refine ZC0 rfl ZK (fun w hS=>frame hS ZQ (fun B' hB hS'=>law_One hS')) ?_;rintro ⟨x1,x2,x3,x4,x5,x6,x7⟩ -)
 try dsimp only
 (refine ZD J (fun w B' hB hR hS'=>file_Write hS' (oneO 0) _ (one_K (x:=0) (s:=x1) (k:=x2) (c:=x3) (r:=x4) (f:=x5) (w':=x6) (d:=x7) (hR _ _ ZP) (hR _ _ ZP) (hR _ _ ZP) (hR _ _ ZP) (hR _ _ ZP) (hR _ _ ZP) (hR _ _ ZP)) (one_good in0) B.e) ?_;rintro ⟨A11,c11⟩ -)
 rw [(wr_ok one_E.1).1,(wr_ok one_E.1).2,one_E.1];try dsimp only
 refine Zo J (oExt J ZP ?_)
 refine oExt J ZP ?_
 refine oExt J ZP ?_
 refine Zp J (Zp J (Zp J (Zn (Za (Zzi ?_)))))
 (refine ZD J (fun w B' hB hR hS'=>file_Read hS' A11 c11 (objP (oneO 0)) (Nat.le_trans (objP_len (few_sml one_few)) (by decide)) (objP_byts _) (row_both (hR _ _ ZP) hB rfl).1 (row_both (hR _ _ ZP) hB rfl).2 B.e hB) ?_;rintro ⟨hA,hB1,hC1,S⟩ -)
 rw [one_rd.1,one_rd.2.1,one_rd.2.2];try dsimp only
 refine Zo J (oExt J ZP ?_)
 refine oExt J ZP ?_
 refine oExt J ZP ?_
 refine oAlloc J ZP (fun b4=>?_)
 refine Zsa ?_
 refine Zp J (Zp J (Zn (Za (Zh (Zi ?_)))))
 refine oBuildSliceF (Parts.cons J (Parts.cons J (Parts.cons J Parts.nil))) J J J J J (Fulls.cons ZP J (Fulls.cons ZP J (Fulls.cons ZP J Fulls.nil ap) ap) ap) (fun b22=>?_)
 refine oMark (xs:=[97,98,99]) J J J ZP J (by decide) ?_
 (refine ZD J (fun w B' hB hR hS'=>file_Get hS' _ 3 [97,98,99] (by decide) abc_byts (by decide) (rdr_C (hR _ _ ZP) hB) B.e) ?_;rintro ⟨gA,gB,gC,S2⟩ -)
 rw [get_abc];try dsimp only
 refine Zo J (oExt J ZP ?_)
 refine oExt J ZP ?_
 refine oAlloc J ZP (fun b7=>?_)
 refine Zsa ?_
 refine Zp J (Zn (Za (Zh (wDrawG J [0,1,2,3,4,5,6,7] [(8,[7],[]),(9,[],[10,11,12,13,14,15,16,17,18,19,20,21,22,23,24]),(25,[],[26,27,28])] [29] 24 ZK J J (fun w0=>?_)))))
 refine Zo J (Zy J J (Zo J (ZS (ZT 29) (fun h29=>?_) (fun h29=>?_))))
 refine Zq J J (Zo J (Zq J J (Zy J J (Zt J J (Zo J (ZS (ZT 33) (fun h33=>?_) (fun h33=>?_)))))))
 refine Zq J J (Zla ?_)
 refine Z4 (Z5 J (Zq J J ?_))
 (refine ZC0 rfl ZK (fun w hS=>frame hS ZQ (fun B' hB hS'=>law_One hS')) ?_;rintro ⟨y1,y2,y3,y4,y5,y6,y7⟩ -)
 try dsimp only
 refine ZG ?_ J (fun w0=>?_)
 refine Z8 J J J J (fun w0=>?_) ?_
 refine Zq J J (Zla ?_)
 exact Z9 rfl
 exact AgainG.nil
 refine Z4 (Z5 J (Zq J J ?_))
 (refine ZD J (fun w B' hB hR hS'=>ref19_Same hS' (oneO 0) _ _ (hold_at (S:=S) (hR _ _ ZP) hB) (one_K (x:=0) (s:=y1) (k:=y2) (c:=y3) (r:=y4) (f:=y5) (w':=y6) (d:=y7) (hR _ _ ZP) (hR _ _ ZP) (hR _ _ ZP) (hR _ _ ZP) (hR _ _ ZP) (hR _ _ ZP) (hR _ _ ZP))) ?_;rintro ⟨⟩ -)
 refine ZG ?_ J (fun w0=>?_)
 exact AgainG.nil
 refine Zt J J (Zo J (ZS (ZT 38) (fun h38=>?_) (fun h38=>?_)))
 refine Zq J J (Zo J (Zq J J (Zy J J (Zt J J (Zo J (ZS (ZT 42) (fun h42=>?_) (fun h42=>?_)))))))
 refine Zq J J (Zo J (Zq J J (Zy J J (Zt J J (Zo J (ZS (ZT 46) (fun h46=>?_) (fun h46=>?_)))))))
 refine Zq J J (Zo J (Zq J J (Zy J J (Zt J J (Zo J (ZS (ZT 50) (fun h50=>?_) (fun h50=>?_)))))))
 refine Zq J J (oBuild Parts.nil J J Built.nil (Z4 (Z5 J (Zq J J ?_))))
 (refine ZD J (fun w B' hB hR hS'=>file_Put hS' nilO _ (nil_K _) (few_sml (by exact ⟨by decide,by decide,by decide,fun f hf=>(by cases hf),fun d hd=>(by cases hd)⟩)) nil_good.v B.e) ?_;rintro ⟨A52,c52⟩ -)
 rw [nil_len];try dsimp only
 refine ZG ?_ J (fun w0=>?_)
 exact AgainG.nil
 refine Zq J J (Zv J J (Zq J J (Zy J J (Zt J J (Z6 (Zzh ?_))))))
 exact ⟨(),trivial,rfl,Lh⟩
 first | exact absurd rfl h50 | cases h50
 first | exact absurd rfl h46 | cases h46
 first | exact absurd rfl h42 | cases h42
 first | exact absurd rfl h38 | cases h38
 first | exact absurd rfl h33 | cases h33
 first | exact absurd rfl h29 | cases h29
open Go.Proofs.YtpmdhkjbhjgoaaaGreatW (GoodO objE objI FewB ref19_Few)
open Go.Proofs.YtpmdhkjbhjgoaaaGreatO (nilO nil_K nil_good few_good obj_Check)
theorem wf_byts {l:List Int}(h:∀ x ∈ l,(Lit.int .u8 x).wf=true):Byts l:=fun x hx=>by
 have:=h x hx
 simp only [Lit.wf,Bool.and_eq_true,decide_eq_true_eq] at this
 exact ⟨this.1,Int.lt_add_one_of_le (show x≤255 from this.2)⟩
theorem wf_byt {x:Int}(h:(Lit.int .u8 x).wf=true):0≤x∧x<256:=wf_byts (l:=[x]) (fun y hy=>by obtain rfl:=List.mem_singleton.1 hy;exact h) x (List.mem_singleton.2 rfl)
theorem byts_set {l:List Int}(hb:Byts l) {i:Nat}{y:Int}(hy:0≤y∧y<256):Byts (l.set i y):=fun v hv=>by
 rcases List.mem_or_eq_of_mem_set hv with h | rfl
 · exact hb v h
 · exact hy
theorem add_ne {u y:Int}(hu:0≤u∧u<256) (hy:0≤y∧y<256) (h0:y≠0):(0≤IntKind.u8.wrap (u+y)∧IntKind.u8.wrap (u+y)<256)∧IntKind.u8.wrap (u+y)≠u:=by
 have h:IntKind.u8.wrap (u+y)=(u+y) % 256:=wrap8 _
 rw [h]
 omega
theorem fileTold {B:Base}{w:World}(hS:St B [] w) (o:ApiObject) (oc:List Value) (ho:kApiObject.K B.e o oc) (hv:vApiObject o) (i y:Int) (hy:0≤y∧y<256) :
 CW 5 #[.agg oc.toArray,.int .i64 i,.int .u8 y] w (Ret B (fun _:Unit=>True) (fun _=>.bool true) (fun _=>[])):=by
 obtain ⟨A0,c0,A1,c1,A2,c2,rfl,m0,q0,m1,q1,m2,q2⟩:=kApiObject_open ho
 refine ZX Tryz.func5 hS ?_
 refine Zh (Zi (oBox J ZP (fun b3=>?_)))
 refine Zp J (Zn (Za (Zh (Zh (Zi (Zla ?_))))))
 (refine ZC0 rfl ZK (fun w hS=>frame hS ZQ (fun B' hB hS'=>ref19_Few hS' o _ (kApiObject.K_grow hB ho))) ?_;rintro r11 hr11)
 refine Zno ?_
 refine Zn (Za (wC (fun h12=>?_) (fun h12=>?_)))
 refine Zh (Zi ?_)
 (refine ZC0 rfl ZK (fun w hS=>frame hS ZQ (fun B' hB hS'=>known20 hS')) ?_;rintro ⟨⟩ -)
 refine Zp J (Zn (Za (Zl (Zc (Zw (fi1 J ?_))))))
 exact ⟨(),trivial,rfl,Lh⟩
 have hf:FewB o:=hr11 (by simpa using h12)
 have hg:GoodO o:=few_good hv hf
 have hs:SmlO o:=few_sml hf
 have hpl:=objP_len hs
 refine Zj (Za (Zh (Zi (Zp J (Zn (Za (Zh (Zi (Zo J (oConv (Leads.nilrow (kd:=Kd.int .u8) (W:=B.e) (e:=5)) (Zla ?_)))))))))))
 (refine ZC0 rfl ZK (fun w hS=>frame hS ZQ (fun B' hB hS'=>file_Put hS' o _ (kApiObject.K_grow hB ho) hs hv B.e)) ?_;rintro ⟨A16,c16⟩ -)
 refine oAppA (kd:=Kd.int .u8) (W:=B.e) (e:=5) (xs:=[]) (ys:=objP o) J J J J ZP J (fun w hw=>src_row (e:=5) (n:=(objP o).length) (cp:=c16) (hw.get ZP)) (by simp only [List.length_nil];omega) J (fun A17 c17 hc17=>?_)
 rw [show ([]:List Int).length+(objP o).length=(objP o).length by simp] at hc17 ⊢
 rw [show ([]++objP o:List Int)=objP o from rfl]
 refine Zp J (Zn (Za (Zh (Zh (Zi (Zo J (Zx J J (Zo J (ZS (ZT 20) (fun h20=>?_) (fun h20=>?_))))))))))
 refine Zr J J J J (Zr J J J J (Zr J J J J (Zr J J J J (Zt J J (Zo J (Zr J J J J (Zr J J J J (Zt J J (Zn (Za (wCondT J (Zh (Zi ?_)))))))))))))
 (refine ZC0 rfl ZK (fun w hS=>frame hS ZQ (fun B' hB hS'=>known20 hS')) ?_;rintro ⟨⟩ -)
 refine Zp J (Zn (Za (Zl (Zc (Zw (fi1 J ?_))))))
 exact ⟨(),trivial,rfl,Lh⟩
 refine Zq J J (Zo J (Zq J J (Zo J (Zq J J (Zv J J (Zq J J (Z2 J J (Zu J J (Zo J (ZS (ZT 26) (fun h26=>?_) (fun h26=>?_)))))))))))
 refine Zr J J J J (Zr J J J J (Zt J J (Zn (Za (wCondT J (Zh (Zi ?_)))))))
 (refine ZC0 rfl ZK (fun w hS=>frame hS ZQ (fun B' hB hS'=>known20 hS')) ?_;rintro ⟨⟩ -)
 refine Zp J (Zn (Za (Zl (Zc (Zw (fi1 J ?_))))))
 exact ⟨(),trivial,rfl,Lh⟩
 refine Zq J J (Zo J (Zq J J (Zy J J (Zu J J (Zn (Za (wC (fun h29=>?_) (fun h29=>?_))))))))
 refine Zh (Zi ?_)
 (refine ZC0 rfl ZK (fun w hS=>frame hS ZQ (fun B' hB hS'=>known20 hS')) ?_;rintro ⟨⟩ -)
 refine Zp J (Zn (Za (Zl (Zc (Zw (fi1 J ?_))))))
 exact ⟨(),trivial,rfl,Lh⟩
 obtain ⟨j,rfl⟩:∃ j:Nat,i=(j:Int):=⟨i.toNat,by omega⟩
 have hj:j<(objP o).length:=by omega
 refine Zj (Za (Zh (Zi (Zo J (Zo J (Zo J (Zo J (ZR J J ZP ZO J J (fun g35 hg35=>?_)))))))))
 first | subst hg35 | (injection hg35 with hg35;injection hg35 with hg35;subst hg35)
 refine ZR1 J ZP ZO J (fun u36 hu36=>?_)
 refine Zo J (oAddW J J (ZR J J ZP ZO J J (fun g39 hg39=>?_)))
 first | subst hg39 | (injection hg39 with hg39;injection hg39 with hg39;subst hg39)
 refine oStR _ J J J J ZP (by first | omega | (simp only [List.length_set];omega)) ?_
 refine Zn (Za (Zh (Zi ?_)))
 have hne:=add_ne (objP_byts o _ (List.mem_of_getElem? hu36)) hy ZO
 have hl':((objP o).set j (IntKind.u8.wrap (u36+y))).length=(objP o).length:=List.length_set ..
 have ht:=get_told (objP_byts o) (show opnF (objP o)=.ok (innP o) from opn_seal) hu36 hne.1 hne.2
 rw [← hl'] at hpl hc17 ⊢
 refine Zo J ?_
 (refine ZD J (fun w B' hB hR hS'=>file_Get hS' _ c17 ((objP o).set j (IntKind.u8.wrap (u36+y))) ZO (byts_set (objP_byts o) hne.1) hc17 (row_Cs (hR _ _ ZP)) B.e) ?_;rintro ⟨hA,hB1,hC1,S1⟩ -)
 rw [ht];try dsimp only
 refine Zo J (oExt J ZP ?_)
 refine oExt J ZP ?_
 refine oAlloc J ZP (fun b8=>?_)
 refine Zsa ?_
 refine Zp J (Zn (Za (Zh (Zi (Zo J (Zy J J (ZS0 (t:=46) (v':=.bool true) J (by simp [errO]) ?_)))))))
 refine Zo J (Zq J J (Zla ?_))
 refine Zq J J (oBuild Parts.nil J J Built.nil (Zq J J ?_))
 (refine ZD J (fun w B' hB hR hS'=>ref19_Same hS' nilO _ _ (hold_at (S:=S1) (hR _ _ ZP) hB) (nil_K _)) ?_;rintro ⟨⟩ -)
 refine Zt J J (Zo J (Zq J J ?_))
 (refine ZC0 rfl ZK (fun w hS=>frame hS ZQ (fun B' hB hS'=>known20 hS')) ?_;rintro ⟨⟩ -)
 refine Zt J J (Zzh ?_)
 exact ⟨(),trivial,rfl,Lh⟩
end Go.Proofs.YtpmdhkjbhjgoaaaGreatD
