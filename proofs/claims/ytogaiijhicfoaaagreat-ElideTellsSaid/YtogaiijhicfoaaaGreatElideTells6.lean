/-
  Part 6 of the proof of ElideTells: contracts of functions, and what follows from them; without conditions.
-/
import Derived.Test.YtogaiijhicfoaaaGreatElideTells5
set_option linter.unusedVariables false
set_option linter.unusedSimpArgs false
set_option linter.defProp false
namespace Go.Proofs.YtogaiijhicfoaaaGreatY
set_option maxRecDepth 100000
set_option maxHeartbeats 4000000
open Go.RowKit Go.Proofs.YtogaiijhicfoaaaGreatK Go.Proofs.YtogaiijhicfoaaaGreatT Go.Proofs.YtogaiijhicfoaaaGreatL Go.Proofs.YtogaiijhicfoaaaGreatV Go.Proofs.YtogaiijhicfoaaaGreatG Go.Proofs.YtogaiijhicfoaaaGreatW Go.Proofs.YtogaiijhicfoaaaGreatU

theorem two_frm:frmL twoP=[2,10,70,1]:=by decide
theorem two_nos:nosL twoP=[false,true,false,false]:=by decide
theorem two_mem (free:List Bool):memF twoP free=[free.getD 0 false,free.getD 1 false,free.getD 2 false,false]:=by
 unfold memF
 rw [two_called]
 show (List.range 4).map _=_
 rw [show List.range 4=[0,1,2,3] by decide]
 simp
theorem two_dN (free:List Bool):dN twoP free=DLo [[1,2],[],[],[]] [free.getD 0 false,free.getD 1 false,free.getD 2 false,false] [2,10,70,1] 1 1:=by
 unfold dN;rw [two_graph,two_mem,two_frm]
theorem two_okN (free:List Bool):okN twoP free=okO [[1,2],[],[],[]] [free.getD 0 false,free.getD 1 false,free.getD 2 false,false]:=by
 unfold okN;rw [two_graph,two_mem]
theorem ok_fff:okN twoP [false,true,false,false]=true:=by rw [two_okN];decide
theorem dN_fff:dN twoP [false,true,false,false]=[1,10,1,1]:=by rw [two_dN];decide
theorem ok_ttf:okN twoP [true,true,false,false]=true:=by rw [two_okN];decide
theorem dN_ttf:dN twoP [true,true,false,false]=[13,10,1,1]:=by rw [two_dN];decide
theorem ok_ttt:okN twoP [true,true,true,false]=true:=by rw [two_okN];decide
theorem dN_ttt:dN twoP [true,true,true,false]=[73,10,70,1]:=by rw [two_dN];decide
theorem find_none {P:Nat→Bool}{n:Nat}(h:∀ i,i<n→P i=false):(List.range n).find? P=none:=List.find?_eq_none.2 (fun i hi=>by rw [h i (List.mem_range.1 hi)];simp)
theorem chk_two {free:List Bool}{D:List Int}(h1:okN twoP free=true) (h2:dN twoP free=D) (h3:D.getD 0 0≤55) (h4:free.getD 0 false=true∨(D.getD 1 0≤55∧D.getD 2 0≤55)):checkN twoP free=(0,0,0):=by
  unfold checkN
  rw [if_pos (by decide),if_pos h1,if_neg (by unfold deepF;rw [h2];simp only [decide_eq_true_eq];show ¬ 56<1+D.getD (Int.toNat 0) 0;rw [Int.toNat_zero];omega)]
  rw [find_none (P:=badF twoP free) (n:=twoP.fFuns.length) (fun i hi=>?_)]
  unfold badF deepF
  rw [two_graph,two_mem,two_called,h2]
  match i,hi with
  | 0,_=>
    rcases h4 with h4 | h4
    · rw [h4];rfl
    · cases free.getD 0 false
      · show ([1,2].any fun x=>decide (56<1+D.getD (Int.toNat x) 0))=false
        rw [List.any_eq_false]
        intro x hx
        rcases List.mem_cons.1 hx with rfl | hx
        · show ¬ decide (56<1+D.getD 1 0)=true;rw [decide_eq_true_eq];omega
        · obtain rfl:=List.mem_singleton.1 hx
          show ¬ decide (56<1+D.getD 2 0)=true;rw [decide_eq_true_eq];omega
      · rfl
  | 1,_=>simp
  | 2,_=>simp
  | 3,_=>simp
theorem chk_fff:checkN twoP [false,true,false,false]=(0,0,0):=chk_two ok_fff dN_fff (by decide) (.inr (by decide))
theorem chk_ttf:checkN twoP [true,true,false,false]=(0,0,0):=chk_two ok_ttf dN_ttf (by decide) (.inl rfl)
theorem chk_deep {free:List Bool}{D:List Int}(h1:okN twoP free=true) (h2:dN twoP free=D) (h3:56≤D.getD 0 0):checkN twoP free=(18,-1,-1):=by
 unfold checkN
 rw [if_pos (by decide),if_pos h1,if_pos (by unfold deepF;rw [h2];simp only [decide_eq_true_eq];show 56<1+D.getD (Int.toNat 0) 0;rw [Int.toNat_zero];omega)]
theorem chk_ttt:checkN twoP [true,true,true,false]=(18,-1,-1):=chk_deep ok_ttt dN_ttt (by decide)
theorem two_cand:candF twoP 0=true∧candF twoP 1=false∧candF twoP 2=true∧candF twoP 3=false:=by
 unfold candF;rw [two_called];decide
theorem two_wait:waitTo twoP 4=[(0,2),(2,70)]:=by
 obtain ⟨h0,h1,h2,h3⟩:=two_cand
 simp only [waitTo,h0,h1,h2,h3,if_true,if_false]
 decide
theorem two_ord:ordN twoP=[0,2]:=by
 unfold ordN
 rw [show twoP.fFuns.length=4 from rfl,two_wait];rfl
theorem two_ch:chN twoP=([true,true,false,false],1):=by
 have f0:fineB twoP [false,true,false,false]=true:=by unfold fineB;rw [chk_fff];rfl
 have f1:fineB twoP [true,true,false,false]=true:=by unfold fineB;rw [chk_ttf];rfl
 have f2:fineB twoP [true,true,true,false]=false:=by unfold fineB;rw [chk_ttt];rfl
 unfold chN
 rw [two_nos,if_pos f0,two_ord]
 unfold chTo
 rw [two_ord,two_nos]
 show chStep twoP (chStep twoP ([false,true,false,false],0) 0) 2=_
 rw [show chStep twoP ([false,true,false,false],0) 0=([true,true,false,false],1) by unfold chStep;exact if_pos f1]
 unfold chStep
 exact if_neg (by show ¬ fineB twoP [true,true,true,false]=true;rw [f2];simp)
theorem two_keep:keptL twoP.fFuns.length (liveL twoP)=[true,true,true,false]:=by rw [two_live];decide
theorem two_chk:chkL twoP (chN twoP).1=[0,0,3,1]:=by rw [two_ch];decide
open Go.Proofs.YtogaiijhicfoaaaGreatQ (qins lt2 qins_perm qins_sorted lt2_tr Pile queueR QOk qhas hd1 hd2 hd3 queue_New queue_Put queue_Take ptrV)
theorem hd_none {W:List (Int×Int)}{k:Nat}(h:hd3 (W.drop k)=false):W.length≤k:=by
 rcases Nat.lt_or_ge k W.length with hk | hk
 · rw [← List.getElem_cons_drop (h:=hk)] at h;cases h
 · exact hk
theorem hd_some {W:List (Int×Int)}{k:Nat}(h:hd3 (W.drop k)=true):k<W.length∧(W.map (·.1)).take k++[hd1 (W.drop k)]=(W.map (·.1)).take (k+1):=by
 have hk:k<W.length:=by
  rcases Nat.lt_or_ge k W.length with hk | hk
  · exact hk
  · rw [List.drop_of_length_le hk] at h;cases h
 refine ⟨hk,?_⟩
 rw [← List.getElem_cons_drop (h:=hk),List.take_add_one,List.getElem?_map,List.getElem?_eq_getElem hk]
 rfl
theorem elide_drain {B:Base}{w:World}{q pp:Nat}{s:Pile}{W:List (Int×Int)}(hS:St B (queueR q pp s) w) (hq:QOk s W) (hl:W.length≤1000) (W0:World) :
 CW 113 #[.func (.func 114) #[ptrV q] #[]] w (Ret B (fun _:(Option Addr×Nat)×Pile=>True) (fun z=>.slice z.1.1 W.length z.1.2) (fun z=>row (Kd.int .i64) W0 3 (.slice z.1.1 W.length z.1.2) (W.map (·.1)) :: queueR q pp z.2)):=by
 refine ZX Tryz.func113 hS ?_
 refine Zh (Zi (Zp J (Zn (Za (Zh (Zi (Zp J (Zn (Za (Zh (Zh (Zi (Zo J ?_)))))))))))))
 (refine oCallV rfl rfl rfl ZK (fun w hS=>frame hS ZQ (fun B' hB hS'=>queue_Take (p:=pp) (s:=s) hS' hq)) ?_;rintro s1 hq1)
 refine Zo J (oExt J ZP ?_)
 refine oExt J ZP ?_
 refine oExt J ZP ?_
 refine Zp J (Zp J (Zp J (Zn (Za (Zk (wLoop (ι:=Nat×(Option Addr×Nat)×Pile) (fun z=>[(0,.func (.func 114) #[ptrV q] #[]),(3,.slice z.2.1.1 z.1 z.2.1.2),(4,.int .i64 (hd1 (W.drop z.1))),(6,.bool (hd3 (W.drop z.1)))]) (fun z=>row (Kd.int .i64) W0 3 (.slice z.2.1.1 z.1 z.2.1.2) ((W.map (·.1)).take z.1) :: queueR q pp z.2.2) (fun z=>z.1≤W.length∧QOk z.2.2 (W.drop (z.1+1))) (fun z=>W.length-z.1) (0,(none,0),s1) ?_ cv (Leads.nilrow.trans Lh) ?_))))))
 exact ⟨Nat.zero_le _,by show QOk s1 (W.drop 1);rw [List.drop_one];exact hq1⟩
 rintro ⟨k,⟨A3,c3⟩,s2⟩ ⟨hk,hq2⟩
 dsimp only at hk hq2
 have hxl:((W.map (·.1)).take k).length=k:=by rw [List.length_take,List.length_map];omega
 try dsimp only
 refine Zh (Zh (Zi (Zo J (Zn (Za (wC (fun h13=>?_) (fun h13=>?_)))))))
 obtain ⟨hkl,htk⟩:=hd_some h13
 refine Zj (Za (Zh (Zk (Zi (Zo J (Zo J (oBuildSlice1 J J J J J ZP J (fun b22=>?_))))))))
 refine oApp1 (hd1 (W.drop k)) J J J J ZP ZP J ZO J (fun g23 cp23=>?_)
 rw [htk,hxl]
 refine Zp J (Zn (Zd (Za (Zi (Zo J ?_)))))
 (refine oCallV rfl rfl rfl ZK (fun w hS=>frame hS ZQ (fun B' hB hS'=>queue_Take (p:=pp) (s:=s2) hS' hq2)) ?_;rintro s3 hq3)
 refine Zo J (oExt J ZP ?_)
 refine oExt J ZP ?_
 refine oExt J ZP ?_
 refine Zp J (Zp J (Zn (Za ?_)))
 exact ⟨rfl,(k+1,(some ⟨g23,0,none⟩,cp23),s3),⟨by show k+1≤_;omega,by show QOk s3 (W.drop (k+1+1));rw [← List.tail_drop];exact hq3⟩,by show W.length-(k+1)<W.length-k;omega,cv,Lh⟩
 obtain rfl:k=W.length:=by have:=hd_none h13;omega
 rw [show (W.map (·.1)).take W.length=W.map (·.1) from List.take_of_length_le (by simp)]
 refine Zm (Zzf ?_)
 exact ⟨((A3,c3),s2),trivial,rfl,Lh⟩
theorem cand_at {p:ApiProgram}{i:Nat}{uc:Bool}{f:ApiFun}(h1:(calledL p)[i]?=some uc) (h2:p.fFuns[i]?=some f):candF p i=(uc && !f.fF.fNosplit):=by
 unfold candF
 rw [getD_at h1,List.getD_eq_getElem?_getD,h2];rfl
theorem frm_f {p:ApiProgram}{i:Nat}{f:ApiFun}(h:p.fFuns[i]?=some f):frmF p i=frameN f.fF:=by unfold frmF;rw [List.getD_eq_getElem?_getD,h];rfl
theorem wait_T {p:ApiProgram}{i:Nat}(h:candF p i=true):waitTo p (i+1)=qins ((i:Int),frmF p i) (waitTo p i):=by show (if candF p i=true then _ else _)=_;rw [if_pos h]
theorem wait_F {p:ApiProgram}{i:Nat}(h:candF p i=false):waitTo p (i+1)=waitTo p i:=by show (if candF p i=true then _ else _)=_;rw [if_neg (by rw [h];simp)]
theorem elide_Order {B:Base}{w:World}(hS:St B [] w) (p:ApiProgram) (pc:List Value) (hp:kApiProgram.K B.e p pc) (hsm:SmallP p) (W0:World) :
 CW 51 #[.agg pc.toArray] w (Ret B (fun _:Option Addr×Nat=>True) (fun z=>.slice z.1 (ordN p).length z.2) (fun z=>[row (Kd.int .i64) W0 3 (.slice z.1 (ordN p).length z.2) (ordN p)])):=by
 obtain ⟨A0,c0,A1,c1,rfl,l0,g0,l1,g1⟩:=kApiProgram_open hp
 have hn:=hsm.funs
 have hcl:=calledL_len p
 refine ZX Tryz.func51 hS ?_
 refine Zh (Zi (oBox J ZP (fun b1=>?_)))
 refine Zp J (Zn (Za (Zh (Zi ?_))))
 (refine ZC0 rfl ZK (fun w hS=>frame hS ZQ (fun B' hB hS'=>queue_New hS')) ?_;rintro ⟨q,pp,s0⟩ hq0)
 dsimp only at hq0
 refine Zp J (Zn (Za (Zh (Zh (Zi (Zla ?_))))))
 (refine ZC0 rfl ZK (fun w hS=>frame hS ZQ (fun B' hB hS'=>prog_Called hS' p _ (gPg hB hp) hsm B.e)) ?_;rintro ⟨C8,d8⟩ -)
 refine Zv J J (Zo J (Zn (Za (wFreeze [row Kd.bool B.e 4 (.slice C8 p.fFuns.length d8) (calledL p)] ZQ (fun B1 hB1 hq1=>?_)))))
 have hCl:=row_Cs (W:=B.e) (e:=4) (n:=p.fFuns.length) (cp:=d8) (xs:=calledL p) (hq1 _ _ ZP)
 have g0:=Kd.C_grow hB1 g0
 refine Zk (wLoop (ι:=Nat×Pile) (fun z=>[(1,.pointer (some ⟨b1,0,none⟩)),(3,ptrV q),(8,.slice C8 p.fFuns.length d8),(9,.int .i64 (p.fFuns.length:Int)),(10,.int .i64 (z.1:Int))]) (fun z=>blk b1 29 (pcL p A0 c0 A1 c1) :: queueR q pp z.2) (fun z=>z.1≤p.fFuns.length∧QOk z.2 (waitTo p z.1)) (fun z=>p.fFuns.length-z.1) (0,s0) ?_ cv Lh ?_)
 exact ⟨Nat.zero_le _,hq0⟩
 rintro ⟨i,s1⟩ ⟨hi,hqi⟩
 dsimp only at hi hqi
 try dsimp only
 refine Zh (Zi (Zx J J (Zn (Za (Zh (wC (fun h11=>?_) (fun h11=>?_)))))))
 obtain ⟨f,hf⟩:∃ f,p.fFuns[i]?=some f:=⟨_,List.getElem?_eq_getElem ZO⟩
 obtain ⟨e1,cs1,hE⟩:=g0.elm hf
 obtain ⟨D0,d0,D1,d1,D2,d2,D3,d3,D4,d4,rfl,m0,q0,m1,q1,m2,q2,m3,q3,m4,q4⟩:=kApiFun_open hE.K
 obtain ⟨uc,huc⟩:∃ u,(calledL p)[i]?=some u:=⟨_,List.getElem?_eq_getElem ZO⟩
 obtain ⟨e3,cs3,hEc⟩:=hCl.elm huc
 obtain rfl:=(show cs3=[Value.bool uc] from hEc.K)
 refine Zj (Za (Zh (Zk (Zh (Zi (Zo J (oIdxE J J (hEc) ZO J J ?_)))))))
 have hc13:=(hEc).cell
 refine Zlx hc13 ?_
 refine Zp J (Zp J (Zn (Za (Zh (Zi (Zo J (Zo J (ZS (ZT 16) (fun h16=>?_) (fun h16=>?_)))))))))
 refine Zq J J (Zz (n:=0) (m:=0) J J J (Zzg ?_))
 refine Zq J J (Zo J (Zq J J (oIdxE J J (hE) ZO J J ?_)))
 have hc20:=(hE).cell
 refine Zq J J (ZF (ZT 3) (ZT 3) ?_)
 refine Zq J J (ZF (ZT 3) (ZT 6) ?_)
 refine Zq J J (Zlx hc20 ?_)
 refine Zq J J (Zno ?_)
 refine Zt J J (Zn (Za (wC (fun h25=>?_) (fun h25=>?_))))
 refine Zi (Zo J (Zo J (Zz (n:=0) (m:=0) J J J (Zld ?_))))
 refine Zo J (oIdxE J J (hE) ZO J J ?_)
 have hc31:=(hE).cell
 refine ZF (ZT 3) (ZT 3) ?_
 refine Zlx hc31 ?_
 (refine ZC0 rfl ZK (fun w hS=>frame hS ZQ (fun B' hB hS'=>fun_Frame hS' f.fF _ (kApiFunc_mk _ f.fF m0 (Kd.C_grow hB q0) m1 (Kd.C_grow hB q1) m2 (Kd.C_grow hB q2) m3 (Kd.C_grow hB q3)) (by have:=(hsm.fn f (List.mem_of_getElem? hf)).2.2.1;omega))) ?_;rintro ⟨⟩ -)
 (refine ZC0 rfl ZK (fun w hS=>frame hS ZQ (fun B' hB hS'=>queue_Put (p:=pp) (s:=s1) hS' hqi _ _ (by have:=wait_len p i;omega))) ?_;rintro s2 hq2)
 rw [wait_new,if_neg (by simp)] at hq2
 refine Zn (Zzi ?_)
 refine Zo J (Zn (Za ?_))
 exact ⟨rfl,(i+1,s2),⟨by show i+1≤_;omega,by show QOk s2 (waitTo p (i+1));rw [wait_T (by rw [cand_at huc hf,show uc=true from h16,Bool.true_and];simpa using h25),frm_f hf];exact hq2⟩,by show p.fFuns.length-(i+1)<p.fFuns.length-i;omega,cv,Lh⟩
 refine Zj (Zzi ?_)
 refine Zo J (Zn (Za ?_))
 exact ⟨rfl,(i+1,s1),⟨by show i+1≤_;omega,by show QOk s1 (waitTo p (i+1));rw [wait_F (by rw [cand_at huc hf,show uc=true from h16,Bool.true_and];simpa using h25)];exact hqi⟩,by show p.fFuns.length-(i+1)<p.fFuns.length-i;omega,cv,Lh⟩
 refine Zr J J J J (Zr J J J J (Zr J J J J (Zr J J J J (Zr J J J J (Zr J J J J (Zr J J J J (Zr J J J J (Zu J J (Zn (Za (wCondF J (Zj (Zzi ?_)))))))))))))
 refine Zo J (Zn (Za ?_))
 exact ⟨rfl,(i+1,s1),⟨by show i+1≤_;omega,by show QOk s1 (waitTo p (i+1));rw [wait_F (by rw [cand_at huc hf,show uc=false from h16];rfl)];exact hqi⟩,by show p.fFuns.length-(i+1)<p.fFuns.length-i;omega,cv,Lh⟩
 obtain rfl:i=p.fFuns.length:=by omega
 refine Zm (Zb (Zb (Ze (Za (Zh (Zi (Zo J (oMakeFuncB J J ?_))))))))
 (refine ZC0 rfl ZK (fun w hS=>frame hS ZQ (fun B' hB hS'=>elide_drain hS' hqi (by have:=wait_len p p.fFuns.length;omega) W0)) ?_;rintro ⟨⟨A39,c39⟩,s9⟩ -)
 have hol:(ordN p).length=(waitTo p p.fFuns.length).length:=by unfold ordN;rw [List.length_map]
 refine Zp J (Zzx ?_)
 exact ⟨(A39,c39),trivial,by rw [hol];rfl,by rw [hol];exact (Leads.has ZQ)⟩
theorem not_lt_take {W:List (Int×Int)}{x y:Int×Int}{k:Nat}(hs:SrtQ W) (hy:W[k]?=some y) (h:¬ lt2 x y):∀ z ∈ W.take (k+1),¬ lt2 x z:=by
 intro z hz hlt
 obtain ⟨hk,rfl⟩:=List.getElem?_eq_some_iff.1 hy
 rw [List.take_add_one,hy] at hz
 rcases List.mem_append.1 hz with hz | hz
 · have h2:(W.take k++W.drop k).Pairwise lt2:=by rw [List.take_append_drop];exact hs
   have h3:=(List.pairwise_append.1 h2).2.2 z hz W[k] (by rw [← List.getElem_cons_drop (h:=hk)];exact List.mem_cons_self)
   exact h (lt2_tr hlt h3)
 · have:z=W[k]:=by simpa using hz
   rw [this] at hlt;exact h hlt
theorem wait_bub {p:ApiProgram}{i k:Nat}(hc:candF p i=true) (hk:k≤(waitTo p i).length) (h1:∀ y ∈ (waitTo p i).drop k,lt2 ((i:Int),frmF p i) y) (h2:∀ y ∈ (waitTo p i).take k,¬ lt2 ((i:Int),frmF p i) y):(waitTo p (i+1)).map (·.1)=bubL ((waitTo p i).map (·.1)) (i:Int) k∧(waitTo p (i+1)).length=(waitTo p i).length+1:=by
 rw [wait_T hc]
 refine ⟨?_,(qins_perm _ _).length_eq⟩
 rw [qins_at (wait_sorted p i) hk h1 h2]
 unfold bubL
 rw [List.map_append,List.map_cons,List.map_take,List.map_drop]
theorem ref31_Order {B:Base}{w:World}(hS:St B [] w) (p:ApiProgram) (pc:List Value) (hp:kApiProgram.K B.e p pc) (hsm:SmallP p) (W0:World) :
 CW 52 #[.agg pc.toArray] w (Ret B (fun _:Option Addr×Nat=>True) (fun z=>.slice z.1 (ordN p).length z.2) (fun z=>[row (Kd.int .i64) W0 3 (.slice z.1 (ordN p).length z.2) (ordN p)])):=by
 obtain ⟨A0,c0,A1,c1,rfl,l0,g0,l1,g1⟩:=kApiProgram_open hp
 have hn:=hsm.funs
 have hcl:=calledL_len p
 refine ZX Tryz.func52 hS ?_
 refine Zh (Zi (oBox J ZP (fun b1=>?_)))
 refine Zp J (Zn (Zzk ?_))
 (refine ZC0 rfl ZK (fun w hS=>frame hS ZQ (fun B' hB hS'=>ref26_Called hS' p _ (gPg hB hp) hsm B.e)) ?_;rintro ⟨C8,d8⟩ -)
 refine Zp J (Zn (Za (wFreeze [row Kd.bool B.e 4 (.slice C8 p.fFuns.length d8) (calledL p)] ZQ (fun B1 hB1 hq1=>?_))))
 have hCl:=row_Cs (W:=B.e) (e:=4) (n:=p.fFuns.length) (cp:=d8) (xs:=calledL p) (hq1 _ _ ZP)
 have g0:=Kd.C_grow hB1 g0
 refine Zh (Zi (Zp J (Zn (Za (Zh (Zh (Zi (Zp J (Zn (Za (Zk (wLoop (ι:=Nat×Option Addr×Nat) (fun z=>[(1,.pointer (some ⟨b1,0,none⟩)),(3,.slice C8 p.fFuns.length d8),(4,.slice z.2.1 (waitTo p z.1).length z.2.2),(5,.int .i64 (z.1:Int))]) (fun z=>[blk b1 29 (pcL p A0 c0 A1 c1),row (Kd.int .i64) W0 3 (.slice z.2.1 (waitTo p z.1).length z.2.2) ((waitTo p z.1).map (·.1))]) (fun z=>z.1≤p.fFuns.length) (fun z=>p.fFuns.length-z.1) (0,none,0) ?_ cv (Leads.nilrow.trans Lh) ?_))))))))))))
 exact Nat.zero_le _
 rintro ⟨i,A4,c4⟩ hi
 dsimp only at hi
 have hwl:=wait_len p i
 have hml:((waitTo p i).map (·.1)).length=(waitTo p i).length:=List.length_map ..
 try dsimp only
 refine Zh (Zh (Zi (Zo J (Zz (n:=0) (m:=0) J J J (Zld ?_)))))
 refine Zv J J (Zx J J (Zn (Za (wC (fun h14=>?_) (fun h14=>?_)))))
 obtain ⟨f,hf⟩:∃ f,p.fFuns[i]?=some f:=⟨_,List.getElem?_eq_getElem ZO⟩
 obtain ⟨e1,cs1,hE⟩:=g0.elm hf
 obtain ⟨D0,d0,D1,d1,D2,d2,D3,d3,D4,d4,rfl,m0,q0,m1,q1,m2,q2,m3,q3,m4,q4⟩:=kApiFun_open hE.K
 obtain ⟨uc,huc⟩:∃ u,(calledL p)[i]?=some u:=⟨_,List.getElem?_eq_getElem ZO⟩
 obtain ⟨e3,cs3,hEc⟩:=hCl.elm huc
 obtain rfl:=(show cs3=[Value.bool uc] from hEc.K)
 refine Zj (Za (Zh (Zk (Zh (Zh (Zi (Zo J (Zo J (oIdxE J J (hEc) ZO J J ?_)))))))))
 have hc19:=(hEc).cell
 refine Zlx hc19 ?_
 refine Zno ?_
 refine Zo J (ZS (ZT 22) (fun h22=>?_) (fun h22=>?_))
 have hcd:candF p i=false:=by rw [cand_at huc hf,show uc=false by simpa using h22];rfl
 refine Zr J J J J (Zr J J J J (Zr J J J J (Zr J J J J (Zr J J J J (Zr J J J J (Zr J J J J (Zt J J (Zn (Za (wCondT J (Zm (Zb (Ze (Za (Zi (Zo J (Zsu ?_)))))))))))))))))
 refine Zp J (Zn (Za ?_))
 exact ⟨rfl,(i+1,A4,c4),by show i+1≤_;omega,by show p.fFuns.length-(i+1)<p.fFuns.length-i;omega,by dsimp only;rw [wait_F hcd];exact cv,by dsimp only;rw [wait_F hcd];exact (Leads.has ZQ)⟩
 refine Zq J J (Zz (n:=0) (m:=0) J J J (Zzg ?_))
 refine Zq J J (Zo J (Zq J J (oIdxE J J (hE) ZO J J ?_)))
 have hc26:=(hE).cell
 refine Zq J J (ZF (ZT 3) (ZT 3) ?_)
 refine Zq J J (ZF (ZT 3) (ZT 6) ?_)
 refine Zq J J (Zlx hc26 ?_)
 refine Zu J J (Zn (Za (wC (fun h30=>?_) (fun h30=>?_))))
 have hcd:candF p i=false:=by rw [cand_at huc hf,show f.fF.fNosplit=true from h30];simp
 refine Zm (Zb (Ze (Za (Zi (Zo J (Zsu ?_))))))
 refine Zp J (Zn (Za ?_))
 exact ⟨rfl,(i+1,A4,c4),by show i+1≤_;omega,by show p.fFuns.length-(i+1)<p.fFuns.length-i;omega,by dsimp only;rw [wait_F hcd];exact cv,by dsimp only;rw [wait_F hcd];exact (Leads.has ZQ)⟩
 have hcd:candF p i=true:=by rw [cand_at huc hf,show f.fF.fNosplit=false from h30,show uc=true by simpa using h22];rfl
 refine Zj (Za (Zh (Zi (Zo J (Zo J (oBuildSlice1 J J J J J ZP J (fun b33=>?_)))))))
 refine oApp1 (i:Int) J J J J ZP ZP J ZO J (fun g34 cp34=>?_)
 rw [show (waitTo p i).map (·.1)++[(i:Int)]=bubL ((waitTo p i).map (·.1)) (i:Int) (waitTo p i).length by rw [← hml,bubL_last],hml]
 refine Zp J (Zn (Za (Zh (Zi (Zo J (Zv J J ?_))))))
 first | refine oSub rfl rfl ZO ?_ | refine oSubW rfl rfl ?_
 refine ZS0 (t:=37) (v':=.int .i64 ((waitTo p i).length:Int)) J (by congr 1;omega) ?_
 refine Zp J (Zn (Za (Zk (wLoop (ι:=Nat) (fun k=>[(1,.pointer (some ⟨b1,0,none⟩)),(3,.slice C8 p.fFuns.length d8),(4,.slice (some ⟨g34,0,none⟩) ((waitTo p i).length+1) cp34),(5,.int .i64 (i:Int)),(6,.int .i64 (k:Int))]) (fun k=>[blk b1 29 (pcL p A0 c0 A1 c1),row (Kd.int .i64) W0 3 (.slice (some ⟨g34,0,none⟩) ((waitTo p i).length+1) cp34) (bubL ((waitTo p i).map (·.1)) (i:Int) k)]) (fun k=>k≤(waitTo p i).length∧∀ y ∈ (waitTo p i).drop k,lt2 ((i:Int),frmF p i) y) (fun k=>k) (waitTo p i).length ?_ cv Lh ?_))))
 exact ⟨Nat.le_refl _,by simp⟩
 rintro k ⟨hk,hdr⟩
 have hbl:=bubL_len (l:=(waitTo p i).map (·.1)) (x:=(i:Int)) (k:=k) ZO
 try dsimp only
 refine Zh (Zh (wDrawG J [0,1,2,3,4,5,6,7,8,9,10,11,13,14,15,16,17,18,19,20,21,22] [(12,[13,14,15,16,17,18,19,20,21,22],[]),(23,[],[24,25])] [] 24 ZK J J (fun w0=>?_)))
 refine Zo J (Z1 J J (Zo J (ZS (ZT 40) (fun h40=>?_) (fun h40=>?_))))
 obtain ⟨k',rfl⟩:∃ k',k=k'+1:=⟨k-1,by omega⟩
 have hkl':k'<(waitTo p i).length:=by omega
 obtain ⟨y,hy⟩:∃ y,(waitTo p i)[k']?=some y:=⟨_,List.getElem?_eq_getElem hkl'⟩
 obtain ⟨m,hmi,rfl,hcm⟩:=wait_mem.1 (List.mem_of_getElem? hy)
 have hmy:((waitTo p i).map (·.1))[k']?=some (m:Int):=by rw [List.getElem?_map,hy];rfl
 obtain ⟨f2,hf2⟩:∃ f,p.fFuns[m]?=some f:=⟨_,List.getElem?_eq_getElem ZO⟩
 obtain ⟨e12,cs12,hE2⟩:=g0.elm hf2
 obtain ⟨D20,d20,D21,d21,D22,d22,D23,d23,D24,d24,rfl,n0,r0,n1,r1,n2,r2,n3,r3,n4,r4⟩:=kApiFun_open hE2.K
 refine Zq J J (Zz (n:=0) (m:=0) J J J (Zzg ?_))
 refine Zq J J (Zo J (Zq J J (Zo J (Zq J J (ZR J J ZP ZO J J (fun g45 hg45=>?_))))))
 first | subst hg45 | (injection hg45 with hg45;injection hg45 with hg45;subst hg45)
 refine Zq J J (ZR1 J ZP ZO J (fun u46 hu46=>?_))
 obtain rfl:u46=(i:Int):=Option.some.inj (hu46.symm.trans (bubL_k ZO))
 refine Zq J J (oIdxE J J (hE) ZO J J ?_)
 have hc47:=(hE).cell
 refine Zq J J (ZF (ZT 3) (ZT 3) ?_)
 refine Zq J J (Zlx hc47 ?_)
 refine Zq J J (Zz (n:=0) (m:=0) J J J (Zzg ?_))
 refine Zq J J (Zo J (Zq J J (Zo J (Zq J J ?_))))
 first | refine oSub rfl rfl ZO ?_ | refine oSubW rfl rfl ?_
 refine ZS0 (t:=55) (v':=.int .i64 (k':Int)) J (by congr 1;omega) ?_
 refine Zq J J (ZR J J ZP ZO J J (fun g56 hg56=>?_))
 first | subst hg56 | (injection hg56 with hg56;injection hg56 with hg56;subst hg56)
 refine Zq J J (ZR1 J ZP ZO J (fun u57 hu57=>?_))
 obtain rfl:u57=(m:Int):=Option.some.inj (hu57.symm.trans ((bubL_p ZO).trans hmy))
 refine Zq J J (oIdxE J J (hE2) ZO J J ?_)
 have hc58:=(hE2).cell
 refine Zq J J (ZF (ZT 3) (ZT 3) ?_)
 refine Zq J J (Zlx hc58 ?_)
 refine Z4 (Z5 J (Zq J J ?_))
 (refine ZC0 rfl ZK (fun w hS=>frame hS ZQ (fun B' hB hS'=>ref16_Frame hS' f.fF _ (kApiFunc_mk _ f.fF m0 (Kd.C_grow hB q0) m1 (Kd.C_grow hB q1) m2 (Kd.C_grow hB q2) m3 (Kd.C_grow hB q3)) (by have:=(hsm.fn f (List.mem_of_getElem? hf)).2.2.1;omega))) ?_;rintro ⟨⟩ -)
 refine ZG ?_ J (fun w0=>?_)
 refine Z8 J J J J (fun w0=>?_) ?_
 refine Zq J J (Zz (n:=0) (m:=0) J J J ?_)
 exact Z9 rfl
 refine Z8 J J J J (fun w0=>?_) ?_
 refine Zq J J (Zld ?_)
 exact Z9 rfl
 refine Z8 J J J J (fun w0=>?_) ?_
 refine Zq J J (Zo J ?_)
 exact Z9 rfl
 refine Z8 J J J J (fun w0=>?_) ?_
 refine Zq J J (Zo J ?_)
 exact Z9 rfl
 refine Z8 J J J J (fun w0=>?_) ?_
 refine Zq J J ?_
 first | refine oSub rfl rfl ZO ?_ | refine oSubW rfl rfl ?_
 refine ZS0 (t:=55) (v':=.int .i64 (k':Int)) J (by congr 1;omega) ?_
 exact Z9 rfl
 refine Z8 J J J J (fun w0=>?_) ?_
 refine Zq J J (ZR J J ZP ZO J J (fun g56 hg56=>?_))
 first | subst hg56 | (injection hg56 with hg56;injection hg56 with hg56;subst hg56)
 exact Z9 rfl
 refine Z8 J J J J (fun w0=>?_) ?_
 refine Zq J J (ZR1 J ZP ZO J (fun u57 hu57=>?_))
 obtain rfl:u57=(m:Int):=Option.some.inj (hu57.symm.trans ((bubL_p ZO).trans hmy))
 exact Z9 rfl
 refine Z8 J J J J (fun w0=>?_) ?_
 refine Zq J J (oIdxE J J (hE2) ZO J J ?_)
 have hc58:=(hE2).cell
 exact Z9 rfl
 refine Z8 J J J J (fun w0=>?_) ?_
 refine Zq J J (ZF (ZT 3) (ZT 3) ?_)
 exact Z9 rfl
 refine Z8 J J J J (fun w0=>?_) ?_
 refine Zq J J (Zlx hc58 ?_)
 exact Z9 rfl
 exact AgainG.nil
 refine Z4 (Z5 J (Zq J J ?_))
 (refine ZC0 rfl ZK (fun w hS=>frame hS ZQ (fun B' hB hS'=>ref16_Frame hS' f2.fF _ (kApiFunc_mk _ f2.fF n0 (Kd.C_grow hB r0) n1 (Kd.C_grow hB r1) n2 (Kd.C_grow hB r2) n3 (Kd.C_grow hB r3)) (by have:=(hsm.fn f2 (List.mem_of_getElem? hf2)).2.2.1;omega))) ?_;rintro ⟨⟩ -)
 refine ZG ?_ J (fun w0=>?_)
 exact AgainG.nil
 refine Zq J J (Zx J J (Zt J J (Z6 (Zn (Za (wC (fun h63=>?_) (fun h63=>?_)))))))
 have hlt:lt2 ((i:Int),frmF p i) (waitTo p i)[k']:=by
  rw [(List.getElem?_eq_some_iff.1 hy).2,frm_f hf,frm_f hf2]
  exact .inl (by first | exact h63 | omega)
 refine Zj (Za (Zh (Zk (Zh (Zi (Zo J (Zo J (ZR J J ZP ZO J J (fun g68 hg68=>?_)))))))))
 first | subst hg68 | (injection hg68 with hg68;injection hg68 with hg68;subst hg68)
 refine ZR1 J ZP ZO J (fun u69 hu69=>?_)
 obtain rfl:u69=(i:Int):=Option.some.inj (hu69.symm.trans (bubL_k ZO))
 refine Zp J (Zn (Za (Zh (Zi (Zo J (Zo J (Zo J (Zo J ?_))))))))
 first | refine oSub rfl rfl ZO ?_ | refine oSubW rfl rfl ?_
 refine ZS0 (t:=74) (v':=.int .i64 (k':Int)) J (by congr 1;omega) ?_
 refine ZR J J ZP ZO J J (fun g75 hg75=>?_)
 first | subst hg75 | (injection hg75 with hg75;injection hg75 with hg75;subst hg75)
 refine ZR1 J ZP ZO J (fun u76 hu76=>?_)
 obtain rfl:u76=(m:Int):=Option.some.inj (hu76.symm.trans ((bubL_p ZO).trans hmy))
 refine ZR J J ZP ZO J J (fun g77 hg77=>?_)
 first | subst hg77 | (injection hg77 with hg77;injection hg77 with hg77;subst hg77)
 refine oStR _ J J J J ZP (by first | omega | (simp only [List.length_set];omega)) ?_
 refine Zn (Za (Zi (Zo J (Zo J ?_))))
 first | refine oSub rfl rfl ZO ?_ | refine oSubW rfl rfl ?_
 refine ZS0 (t:=80) (v':=.int .i64 (k':Int)) J (by congr 1;omega) ?_
 refine Zo J (ZR J J ZP ZO J J (fun g82 hg82=>?_))
 first | subst hg82 | (injection hg82 with hg82;injection hg82 with hg82;subst hg82)
 refine oStR _ J J J J ZP (by first | omega | (simp only [List.length_set];omega)) ?_
 refine Zn (Zd (Za (Zi (Zo J ?_))))
 rw [bubL_swap hmy]
 first | refine oSub rfl rfl ZO ?_ | refine oSubW rfl rfl ?_
 refine ZS0 (t:=65) (v':=.int .i64 (k':Int)) J (by congr 1;omega) ?_
 refine Zp J (Zn (Za ?_))
 exact ⟨rfl,k',⟨by omega,fun z hz=>by rw [← List.getElem_cons_drop (h:=hkl')] at hz;rcases List.mem_cons.1 hz with rfl | hz;exact hlt;exact hdr z hz⟩,by omega,cv,Lh⟩
 have hwn:=wait_bub hcd hk hdr (not_lt_take (wait_sorted p i) hy (by rw [frm_f hf];rintro (h | h);exact absurd h (by dsimp only;rw [frm_f hf2];first | exact h63 | omega);have:=h.2;dsimp only at this;omega))
 refine Zm (Zb (Zb (Ze (Zzd ?_))))
 refine Zp J (Zn (Za ?_))
 exact ⟨rfl,(i+1,some ⟨g34,0,none⟩,cp34),by show i+1≤_;omega,by show p.fFuns.length-(i+1)<p.fFuns.length-i;omega,by dsimp only;rw [hwn.2];exact cv,by dsimp only;rw [hwn.1,hwn.2];exact (Leads.has ZQ)⟩
 obtain rfl:k=0:=by omega
 have hwn:=wait_bub hcd hk hdr (by simp)
 refine Zr J J J J (Zr J J J J (Zr J J J J (Zr J J J J (Zr J J J J (Zr J J J J (Zr J J J J (Zr J J J J (Zr J J J J (Zr J J J J (Zr J J J J (Zr J J J J (Zr J J J J (Zr J J J J (Zr J J J J (Zr J J J J (Zr J J J J (Zr J J J J (Zr J J J J (Z4 (Z5 J (Zr J J J J (ZG ?_ J (fun w0=>?_)))))))))))))))))))))))
 refine Z8 J J J J (fun w0=>?_) ?_
 refine Zr J J J J ?_
 exact Z9 rfl
 refine Z8 J J J J (fun w0=>?_) ?_
 refine Zr J J J J ?_
 exact Z9 rfl
 refine Z8 J J J J (fun w0=>?_) ?_
 refine Zr J J J J ?_
 exact Z9 rfl
 refine Z8 J J J J (fun w0=>?_) ?_
 refine Zr J J J J ?_
 exact Z9 rfl
 refine Z8 J J J J (fun w0=>?_) ?_
 refine Zr J J J J ?_
 exact Z9 rfl
 refine Z8 J J J J (fun w0=>?_) ?_
 refine Zr J J J J ?_
 exact Z9 rfl
 refine Z8 J J J J (fun w0=>?_) ?_
 refine Zr J J J J ?_
 exact Z9 rfl
 refine Z8 J J J J (fun w0=>?_) ?_
 refine Zr J J J J ?_
 exact Z9 rfl
 refine Z8 J J J J (fun w0=>?_) ?_
 refine Zr J J J J ?_
 exact Z9 rfl
 refine Z8 J J J J (fun w0=>?_) ?_
 refine Zr J J J J ?_
 exact Z9 rfl
 exact AgainG.nil
 refine Z4 (Z5 J (Zr J J J J (ZG ?_ J (fun w0=>?_))))
 exact AgainG.nil
 refine Zr J J J J (Zu J J (Z6 (Zn (Za (wCondF J (Zm (Zb (Zb (Ze (Zzd ?_))))))))))
 refine Zp J (Zn (Za ?_))
 exact ⟨rfl,(i+1,some ⟨g34,0,none⟩,cp34),by show i+1≤_;omega,by show p.fFuns.length-(i+1)<p.fFuns.length-i;omega,by dsimp only;rw [hwn.2];exact cv,by dsimp only;rw [hwn.1,hwn.2];exact (Leads.has ZQ)⟩
 obtain rfl:i=p.fFuns.length:=by omega
 have hol:(ordN p).length=(waitTo p p.fFuns.length).length:=by unfold ordN;rw [List.length_map]
 refine Zm (Zzf ?_)
 exact ⟨(A4,c4),trivial,by rw [hol];rfl,by rw [hol];exact (Leads.has ZQ)⟩
theorem chain_CheckN {B:Base}{w:World}(hS:St B [] w) (p:ApiProgram) (pc:List Value) (hp:kApiProgram.K B.e p pc) (hsm:SmallP p) (free:List Bool) (A':Option Addr) (c':Nat) (hF:Kd.bool.C B.e A' free) {n:Nat}(hn:free.length=n) :
 CW 44 #[.agg pc.toArray,.slice A' n c'] w (Ret B (fun _:Unit=>True) (fun _=>.agg (rejL (checkN p free)).toArray) (fun _=>[])):=by subst hn;exact chain_Check hS p pc hp hsm free A' c' hF
theorem ref27_CheckN {B:Base}{w:World}(hS:St B [] w) (p:ApiProgram) (pc:List Value) (hp:kApiProgram.K B.e p pc) (hsm:SmallP p) (free:List Bool) (A':Option Addr) (c':Nat) (hF:Kd.bool.C B.e A' free) {n:Nat}(hn:free.length=n) :
 CW 45 #[.agg pc.toArray,.slice A' n c'] w (Ret B (fun _:Unit=>True) (fun _=>.agg (rejL (checkN p free)).toArray) (fun _=>[])):=by subst hn;exact ref27_Check hS p pc hp hsm free A' c' hF
theorem elide_fine {B:Base}{w:World}(hS:St B [] w) (p:ApiProgram) (pc:List Value) (hp:kApiProgram.K B.e p pc) (hsm:SmallP p) (free:List Bool) (A':Option Addr) (c':Nat) (hF:Kd.bool.C B.e A' free) {n:Nat}(hn:free.length=n) :
 CW 170 #[.agg pc.toArray,.slice A' n c'] w (Ret B (fun _:Unit=>True) (fun _=>.bool (fineB p free)) (fun _=>[])):=by
 obtain ⟨A0,c0,A1,c1,rfl,l0,g0,l1,g1⟩:=kApiProgram_open hp
 refine ZX Tryz.func170 hS ?_
 refine Zh (Zi (oBox J ZP (fun b2=>?_)))
 refine Zp J (Zn (Zzk ?_))
 refine Zo J ?_
 (refine ZC0 rfl ZK (fun w hS=>frame hS ZQ (fun B' hB hS'=>chain_CheckN hS' p _ (gPg hB hp) hsm free A' c' (Kd.C_grow hB hF) hn)) ?_;rintro ⟨⟩ -)
 refine Zfi ?_
 refine Zy J J (Zza ?_)
 exact ⟨(),trivial,rfl,Lh⟩
theorem ch_1 {p:ApiProgram}{i k:Nat}(h:(ordN p)[i]?=some (k:Int)):((chTo p i).1.set k true).set k (fineB p ((chTo p i).1.set k true))=(chTo p (i+1)).1:=by
 rw [ch_succ h,List.set_set]
 unfold chStep
 rw [Int.toNat_natCast]
 cases hf:fineB p ((chTo p i).1.set k true) with
 | true=>rw [if_pos rfl]
 | false=>rw [if_neg (by simp)]
theorem ch_2T {p:ApiProgram}{i k:Nat}(h:(ordN p)[i]?=some (k:Int)) (hf:fineB p ((chTo p i).1.set k true)=true):(chTo p (i+1)).2=(chTo p i).2+1:=by
 rw [ch_succ h]
 unfold chStep
 rw [Int.toNat_natCast,if_pos hf]
theorem ch_2F {p:ApiProgram}{i k:Nat}(h:(ordN p)[i]?=some (k:Int)) (hf:fineB p ((chTo p i).1.set k true)=false):(chTo p (i+1)).2=(chTo p i).2:=by
 rw [ch_succ h]
 unfold chStep
 rw [Int.toNat_natCast,if_neg (by rw [hf];simp)]
theorem ch_at {p:ApiProgram}{i k:Nat}(hk:k<p.fFuns.length) (h:(ordN p)[i]?=some (k:Int)):(chTo p (i+1)).1[k]?=some (fineB p ((chTo p i).1.set k true)):=by
 rw [← ch_1 h,List.getElem?_set,if_pos rfl,if_pos (by rw [List.length_set,ch_len];exact hk)]
theorem chN_yes {p:ApiProgram}(h:fineB p (nosL p)=true):chN p=chTo p (ordN p).length:=by unfold chN;rw [if_pos h]
theorem chN_no {p:ApiProgram}(h:fineB p (nosL p)=false):chN p=(nosL p,0):=by unfold chN;rw [if_neg (by rw [h];simp)]
theorem elide_choose {B:Base}{w:World}(hS:St B [] w) (p:ApiProgram) (pc:List Value) (hp:kApiProgram.K B.e p pc) (hsm:SmallP p) (W0:World) :
 CW 116 #[.agg pc.toArray] w (Ret B (fun _:Option Addr×Nat=>True) (fun z=>.tuple #[.slice z.1 p.fFuns.length z.2,.int .i64 (chN p).2]) (fun z=>[row Kd.bool W0 4 (.slice z.1 p.fFuns.length z.2) (chN p).1])):=by
 obtain ⟨A0,c0,A1,c1,rfl,l0,g0,l1,g1⟩:=kApiProgram_open hp
 have hn:=hsm.funs
 have hnl:=nosL_len p
 have hol:=ord_len p
 refine ZX Tryz.func116 hS ?_
 refine Zh (Zi (oBox J ZP (fun b1=>?_)))
 refine Zp J (Zp J (Zn (Zzk ?_)))
 (refine ZC0 rfl ZK (fun w hS=>frame hS ZQ (fun B' hB hS'=>chain_Nosplit hS' p _ (gPg hB hp) hsm W0)) ?_;rintro ⟨A9,c9⟩ -)
 refine Zp J (Zn (Za (Zh (Zh (Zi (Zla ?_))))))
 refine Zo J ?_
 (refine ZD J (fun w B' hB hR hS'=>elide_fine hS' p _ (gPg hB hp) hsm (nosL p) A9 c9 (row_Cs (W:=W0) (e:=4) (A:=A9) (n:=p.fFuns.length) (cp:=c9) (xs:=nosL p) (hR _ _ ZP)) hnl) ?_;rintro ⟨⟩ -)
 refine Zno ?_
 refine Zn (Za (wC (fun h13=>?_) (fun h13=>?_)))
 refine Zh (Zi (Zo J (Zzo ?_)))
 refine ⟨rfl,_,(ResL.cons (ResR.tmp rfl) (ResL.cons (ResR.tmp rfl) ResL.nil)),?_⟩
 exact ⟨(A9,c9),trivial,by rw [chN_no (by first | simpa using h13 | (have:=h13;unfold fineB;first | exact decide_eq_false this | simpa using this))];rfl,by rw [chN_no (by first | simpa using h13 | (have:=h13;unfold fineB;first | exact decide_eq_false this | simpa using this))];exact (Leads.has ZQ)⟩
 have hfn:fineB p (nosL p)=true:=by first | simpa using h13 | (have:=h13;unfold fineB;first | exact decide_eq_true (Classical.not_not.1 this) | simpa using this)
 refine Zj (Za (Zh (Zi (Zp J (Zn (Za (Zh (Zh (Zi (Zla ?_))))))))))
 (refine ZC0 rfl ZK (fun w hS=>frame hS ZQ (fun B' hB hS'=>elide_Order hS' p _ (gPg hB hp) hsm W0)) ?_;rintro ⟨A16,c16⟩ -)
 refine Zv J J (Zo J (Zn (Za (Zk ?_))))
 refine wLoop (ι:=Nat×Option Addr) (fun z=>[(1,.pointer (some ⟨b1,0,none⟩)),(4,.slice z.2 p.fFuns.length c9),(5,.int .i64 (chTo p z.1).2),(16,.slice A16 (ordN p).length c16),(17,.int .i64 ((ordN p).length:Int)),(18,.int .i64 (z.1:Int))]) (fun z=>[blk b1 29 (pcL p A0 c0 A1 c1),row Kd.bool W0 4 (.slice z.2 p.fFuns.length c9) (chTo p z.1).1,row (Kd.int .i64) W0 3 (.slice A16 (ordN p).length c16) (ordN p)]) (fun z=>z.1≤(ordN p).length) (fun z=>(ordN p).length-z.1) (0,A9) ?_ cv (by dsimp only;rw [ch_zero];exact (Leads.has ZQ)) ?_
 exact Nat.zero_le _
 rintro ⟨i,A4⟩ hi
 dsimp only at hi
 have hcc:=ch_cnt p i
 have hcl:=ch_len p i
 try dsimp only
 refine Zh (Zi (Zx J J (Zn (Za (Zh (wC (fun h19=>?_) (fun h19=>?_)))))))
 obtain ⟨x,hx⟩:∃ x,(ordN p)[i]?=some x:=⟨_,List.getElem?_eq_getElem ZO⟩
 obtain ⟨k,rfl,hkl,hkc⟩:=ord_mem.1 (List.mem_of_getElem? hx)
 refine Zj (Za (Zh (Zk (Zh (Zi (ZR J J ZP ZO J J (fun g20 hg20=>?_)))))))
 first | subst hg20 | (injection hg20 with hg20;injection hg20 with hg20;subst hg20)
 refine ZR1 J ZP ZO J (fun u21 hu21=>?_)
 obtain rfl:u21=(k:Int):=Option.some.inj (hu21.symm.trans hx)
 refine Zp J (Zn (Za (Zh (Zi (Zo J (Zo J (ZR J J ZP ZO J J (fun g24 hg24=>?_))))))))
 first | subst hg24 | (injection hg24 with hg24;injection hg24 with hg24;subst hg24)
 refine oStR _ J J J J ZP (by first | omega | (simp only [List.length_set];omega)) ?_
 refine Zn (Za (Zh (Zi (Zo J (Zo J (Zla ?_))))))
 refine Zo J ?_
 (refine ZD J (fun w B' hB hR hS'=>elide_fine hS' p _ (gPg hB hp) hsm ((chTo p i).1.set k true) _ c9 (row_Cs (W:=W0) (e:=4) (A:=_) (n:=p.fFuns.length) (cp:=c9) (xs:=(chTo p i).1.set k true) (hR _ _ ZP)) (by rw [List.length_set];exact hcl)) ?_;rintro ⟨⟩ -)
 refine ZR J J ZP ZO J J (fun g30 hg30=>?_)
 first | subst hg30 | (injection hg30 with hg30;injection hg30 with hg30;subst hg30)
 refine oStR _ J J J J ZP (by first | omega | (simp only [List.length_set];omega)) ?_
 refine Zn (Zzn ?_)
 rw [ch_1 hx]
 have hcl2:=ch_len p (i+1)
 refine Zo J (ZR J J ZP ZO J J (fun g33 hg33=>?_))
 first | subst hg33 | (injection hg33 with hg33;injection hg33 with hg33;subst hg33)
 refine ZR1 J ZP ZO J (fun u34 hu34=>?_)
 obtain rfl:u34=fineB p ((chTo p i).1.set k true):=Option.some.inj (hu34.symm.trans (ch_at hkl hx))
 refine Zn (Za (wC (fun h34=>?_) (fun h34=>?_)))
 have hff:fineB p ((chTo p i).1.set k true)=true:=by first | exact h34 | (unfold fineB;exact decide_eq_true h34)
 refine Zi (Zo J ?_)
 first | refine oAdd rfl rfl ZO ?_ | refine oAddW rfl rfl ?_
 refine Zp J (Zn (Zzi ?_))
 refine Zo J (Zn (Za ?_))
 exact ⟨rfl,(i+1,_),by show i+1≤_;omega,by show (ordN p).length-(i+1)<(ordN p).length-i;omega,by dsimp only;rw [ch_2T hx hff];exact cv,Lh⟩
 have hff:fineB p ((chTo p i).1.set k true)=false:=by first | exact h34 | (unfold fineB;exact decide_eq_false h34)
 refine Zj (Zzi ?_)
 refine Zo J (Zn (Za ?_))
 exact ⟨rfl,(i+1,_),by show i+1≤_;omega,by show (ordN p).length-(i+1)<(ordN p).length-i;omega,by dsimp only;rw [ch_2F hx hff];exact cv,Lh⟩
 obtain rfl:i=(ordN p).length:=by omega
 refine Zm (Zb (Zb (Ze (Za (Zh (Zi (Zo J (Zo J (Zp J (Zp J (Zn (Za (Zl (Zw ?_))))))))))))))
 refine ⟨rfl,_,(ResL.cons (ResR.tmp rfl) (ResL.cons (ResR.tmp rfl) ResL.nil)),?_⟩
 exact ⟨(A4,c9),trivial,by rw [chN_yes hfn];rfl,by rw [chN_yes hfn];exact (Leads.has ZQ)⟩
theorem elide_Free {B:Base}{w:World}(hS:St B [] w) (p:ApiProgram) (pc:List Value) (hp:kApiProgram.K B.e p pc) (hsm:SmallP p) (W0:World) :
 CW 53 #[.agg pc.toArray] w (Ret B (fun _:Option Addr×Nat=>True) (fun z=>.slice z.1 p.fFuns.length z.2) (fun z=>[row Kd.bool W0 4 (.slice z.1 p.fFuns.length z.2) (chN p).1])):=by
 obtain ⟨A0,c0,A1,c1,rfl,l0,g0,l1,g1⟩:=kApiProgram_open hp
 refine ZX Tryz.func53 hS ?_
 refine Zh (Zi (oBox J ZP (fun b1=>?_)))
 refine Zp J (Zn (Zzk ?_))
 (refine ZC0 rfl ZK (fun w hS=>frame hS ZQ (fun B' hB hS'=>elide_choose hS' p _ (gPg hB hp) hsm W0)) ?_;rintro ⟨A7,c7⟩ -)
 refine Zo J (oExt J ZP ?_)
 refine oExt J ZP ?_
 refine Zp J (Zp J (Zn (Za (Zh (Zi (Zo J (Zza ?_)))))))
 exact ⟨(A7,c7),trivial,rfl,Lh⟩
theorem elide_Saved {B:Base}{w:World}(hS:St B [] w) (p:ApiProgram) (pc:List Value) (hp:kApiProgram.K B.e p pc) (hsm:SmallP p) (W0:World) :
 CW 58 #[.agg pc.toArray] w (Ret B (fun _:Unit=>True) (fun _=>.int .i64 (chN p).2) (fun _=>[])):=by
 obtain ⟨A0,c0,A1,c1,rfl,l0,g0,l1,g1⟩:=kApiProgram_open hp
 refine ZX Tryz.func58 hS ?_
 refine Zh (Zi (oBox J ZP (fun b1=>?_)))
 refine Zp J (Zn (Zzk ?_))
 (refine ZC0 rfl ZK (fun w hS=>frame hS ZQ (fun B' hB hS'=>elide_choose hS' p _ (gPg hB hp) hsm W0)) ?_;rintro ⟨A7,c7⟩ -)
 refine Zo J (oExt J ZP ?_)
 refine oExt J ZP ?_
 refine Zp J (Zp J (Zn (Za (Zh (Zi (Zo J (Zza ?_)))))))
 exact ⟨(),trivial,rfl,Lh⟩
theorem ref31_Free {B:Base}{w:World}(hS:St B [] w) (p:ApiProgram) (pc:List Value) (hp:kApiProgram.K B.e p pc) (hsm:SmallP p) (W0:World) :
 CW 54 #[.agg pc.toArray] w (Ret B (fun _:Option Addr×Nat=>True) (fun z=>.slice z.1 p.fFuns.length z.2) (fun z=>[row Kd.bool W0 4 (.slice z.1 p.fFuns.length z.2) (chN p).1])):=by
 obtain ⟨A0,c0,A1,c1,rfl,l0,g0,l1,g1⟩:=kApiProgram_open hp
 have hn:=hsm.funs
 have hnl:=nosL_len p
 have hol:=ord_len p
 refine ZX Tryz.func54 hS ?_
 refine Zh (Zi (oBox J ZP (fun b1=>?_)))
 refine Zp J (Zn (Zzk ?_))
 (refine ZC0 rfl ZK (fun w hS=>frame hS ZQ (fun B' hB hS'=>ref27_Nosplit hS' p _ (gPg hB hp) hsm W0)) ?_;rintro ⟨A7,c7⟩ -)
 refine Zp J (Zn (Za (Zh (Zh (Zi (Zla ?_))))))
 refine Zo J ?_
 (refine ZD J (fun w B' hB hR hS'=>ref27_CheckN hS' p _ (gPg hB hp) hsm (nosL p) A7 c7 (row_Cs (W:=W0) (e:=4) (A:=A7) (n:=p.fFuns.length) (cp:=c7) (xs:=nosL p) (hR _ _ ZP)) hnl) ?_;rintro ⟨⟩ -)
 refine Zfi ?_
 refine Z0 J J (Zn (Za (wC (fun h12=>?_) (fun h12=>?_))))
 refine Zh (Zi (Zo J (Zze ?_)))
 exact ⟨(A7,c7),trivial,by rfl,by rw [chN_no (by unfold fineB;exact decide_eq_false (by first | exact h12 | simpa using h12))];exact (Leads.has ZQ)⟩
 have hfn:fineB p (nosL p)=true:=by unfold fineB;exact decide_eq_true (by first | exact h12 | simpa using h12)
 refine Zj (Zzk ?_)
 (refine ZC0 rfl ZK (fun w hS=>frame hS ZQ (fun B' hB hS'=>ref31_Order hS' p _ (gPg hB hp) hsm W0)) ?_;rintro ⟨A15,c15⟩ -)
 refine Zp J (Zn (Za (Zh (Zh (Zi (Zp J (Zn (Za (Zk ?_)))))))))
 refine wLoop (ι:=Nat×Option Addr) (fun z=>[(1,.pointer (some ⟨b1,0,none⟩)),(3,.slice z.2 p.fFuns.length c7),(4,.slice A15 (ordN p).length c15),(5,.int .i64 (z.1:Int))]) (fun z=>[blk b1 29 (pcL p A0 c0 A1 c1),row Kd.bool W0 4 (.slice z.2 p.fFuns.length c7) (chTo p z.1).1,row (Kd.int .i64) W0 3 (.slice A15 (ordN p).length c15) (ordN p)]) (fun z=>z.1≤(ordN p).length) (fun z=>(ordN p).length-z.1) (0,A7) ?_ cv (by dsimp only;rw [ch_zero];exact (Leads.has ZQ)) ?_
 exact Nat.zero_le _
 rintro ⟨i,A3⟩ hi
 dsimp only at hi
 have hcl:=ch_len p i
 try dsimp only
 refine Zh (Zh (Zi (Zo J (Zo J (Zv J J (Zx J J (Zn (Za (wC (fun h19=>?_) (fun h19=>?_))))))))))
 obtain ⟨x,hx⟩:∃ x,(ordN p)[i]?=some x:=⟨_,List.getElem?_eq_getElem ZO⟩
 obtain ⟨k,rfl,hkl,hkc⟩:=ord_mem.1 (List.mem_of_getElem? hx)
 refine Zj (Za (Zh (Zk (Zh (Zi (Zo J (Zo J (Zo J (ZR J J ZP ZO J J (fun g25 hg25=>?_))))))))))
 first | subst hg25 | (injection hg25 with hg25;injection hg25 with hg25;subst hg25)
 refine ZR1 J ZP ZO J (fun u26 hu26=>?_)
 obtain rfl:u26=(k:Int):=Option.some.inj (hu26.symm.trans hx)
 refine ZR J J ZP ZO J J (fun g27 hg27=>?_)
 first | subst hg27 | (injection hg27 with hg27;injection hg27 with hg27;subst hg27)
 refine oStR _ J J J J ZP (by first | omega | (simp only [List.length_set];omega)) ?_
 refine Zn (Zzk ?_)
 refine Zo J ?_
 (refine ZD J (fun w B' hB hR hS'=>ref27_CheckN hS' p _ (gPg hB hp) hsm ((chTo p i).1.set k true) _ c7 (row_Cs (W:=W0) (e:=4) (A:=_) (n:=p.fFuns.length) (cp:=c7) (xs:=(chTo p i).1.set k true) (hR _ _ ZP)) (by rw [List.length_set];exact hcl)) ?_;rintro ⟨⟩ -)
 refine Zfi ?_
 refine Z0 J J (Zn (Za (wC (fun h32=>?_) (fun h32=>?_))))
 have hff:fineB p ((chTo p i).1.set k true)=false:=by unfold fineB;exact decide_eq_false (by first | exact h32 | simpa using h32)
 refine Zi (Zo J (Zo J (Zo J (ZR J J ZP ZO J J (fun g36 hg36=>?_)))))
 first | subst hg36 | (injection hg36 with hg36;injection hg36 with hg36;subst hg36)
 refine ZR1 J ZP ZO J (fun u37 hu37=>?_)
 obtain rfl:u37=(k:Int):=Option.some.inj (hu37.symm.trans hx)
 refine ZR J J ZP ZO J J (fun g38 hg38=>?_)
 first | subst hg38 | (injection hg38 with hg38;injection hg38 with hg38;subst hg38)
 refine oStR _ J J J J ZP (by first | omega | (simp only [List.length_set];omega)) ?_
 refine Zn (Zzd ?_)
 refine Zp J (Zn (Za ?_))
 exact ⟨rfl,(i+1,_),by show i+1≤_;omega,by show (ordN p).length-(i+1)<(ordN p).length-i;omega,cv,by dsimp only;rw [← ch_1 hx,hff];exact (Leads.has ZQ)⟩
 have hff:fineB p ((chTo p i).1.set k true)=true:=by unfold fineB;exact decide_eq_true (by first | exact h32 | simpa using h32)
 refine Zj (Zzd ?_)
 refine Zp J (Zn (Za ?_))
 exact ⟨rfl,(i+1,_),by show i+1≤_;omega,by show (ordN p).length-(i+1)<(ordN p).length-i;omega,cv,by dsimp only;rw [← ch_1 hx,hff,List.set_set];exact (Leads.has ZQ)⟩
 obtain rfl:i=(ordN p).length:=by omega
 refine Zm (Zzf ?_)
 exact ⟨(A3,c7),trivial,rfl,by rw [chN_yes hfn];exact (Leads.has ZQ)⟩
theorem ref31_Saved {B:Base}{w:World}(hS:St B [] w) (p:ApiProgram) (pc:List Value) (hp:kApiProgram.K B.e p pc) (hsm:SmallP p) (W0:World) :
 CW 59 #[.agg pc.toArray] w (Ret B (fun _:Unit=>True) (fun _=>.int .i64 (chN p).2) (fun _=>[])):=by
 obtain ⟨A0,c0,A1,c1,rfl,l0,g0,l1,g1⟩:=kApiProgram_open hp
 have hn:=hsm.funs
 have hcl:=chN_len p
 have hol:=ord_len p
 refine ZX Tryz.func59 hS ?_
 refine Zh (Zi (oBox J ZP (fun b1=>?_)))
 refine Zp J (Zn (Zzk ?_))
 (refine ZC0 rfl ZK (fun w hS=>frame hS ZQ (fun B' hB hS'=>ref31_Free hS' p _ (gPg hB hp) hsm W0)) ?_;rintro ⟨A8,c8⟩ -)
 refine Zp J (Zn (Zzk ?_))
 (refine ZC0 rfl ZK (fun w hS=>frame hS ZQ (fun B' hB hS'=>ref31_Order hS' p _ (gPg hB hp) hsm W0)) ?_;rintro ⟨A10,c10⟩ -)
 refine Zp J (Zn (Za (Zh (Zi (Zp J ?_)))))
 refine ZS0 (t:=5) (v':=.int .i64 (savTo p 0)) J (by unfold savTo;rfl) ?_
 refine Zn (Za (Zh (Zh (Zi (Zp J (Zn (Za (Zk (wLoop (ι:=Nat) (fun i=>[(1,.pointer (some ⟨b1,0,none⟩)),(3,.slice A8 p.fFuns.length c8),(4,.slice A10 (ordN p).length c10),(5,.int .i64 (savTo p i)),(6,.int .i64 (i:Int))]) (fun i=>[row Kd.bool W0 4 (.slice A8 p.fFuns.length c8) (chN p).1,row (Kd.int .i64) W0 3 (.slice A10 (ordN p).length c10) (ordN p)]) (fun i=>i≤(ordN p).length) (fun i=>(ordN p).length-i) 0 ?_ cv Lh ?_)))))))))
 exact Nat.zero_le _
 rintro i hi
 have hsv:=sav_le p i
 try dsimp only
 refine Zh (Zh (Zi (Zo J (Zo J (Zv J J (Zx J J (Zn (Za (wC (fun h14=>?_) (fun h14=>?_))))))))))
 obtain ⟨x,hx⟩:∃ x,(ordN p)[i]?=some x:=⟨_,List.getElem?_eq_getElem ZO⟩
 obtain ⟨k,rfl,hkl,hkc⟩:=ord_mem.1 (List.mem_of_getElem? hx)
 refine Zj (Za (Zh (Zk (Zh (Zi (Zo J (Zo J (Zo J (ZR J J ZP ZO J J (fun g20 hg20=>?_))))))))))
 first | subst hg20 | (injection hg20 with hg20;injection hg20 with hg20;subst hg20)
 refine ZR1 J ZP ZO J (fun u21 hu21=>?_)
 obtain rfl:u21=(k:Int):=Option.some.inj (hu21.symm.trans hx)
 refine ZR J J ZP ZO J J (fun g22 hg22=>?_)
 first | subst hg22 | (injection hg22 with hg22;injection hg22 with hg22;subst hg22)
 refine ZR1 J ZP ZO J (fun u23 hu23=>?_)
 refine Zn (Za (wC (fun h23=>?_) (fun h23=>?_)))
 refine Zi (Zo J ?_)
 first | refine oAdd rfl rfl ZO ?_ | refine oAddW rfl rfl ?_
 refine Zp J ?_
 skip
 refine Zn (Zzd ?_)
 refine Zp J (Zn (Za ?_))
 exact ⟨rfl,i+1,by omega,by omega,by rw [sav_succ hx,Int.toNat_natCast,getD_at hu23,if_pos h23];exact cv,Lh⟩
 refine Zj (Zzd ?_)
 refine Zp J (Zn (Za ?_))
 exact ⟨rfl,i+1,by omega,by omega,by rw [sav_succ hx,Int.toNat_natCast,getD_at hu23,if_neg (by rw [h23];simp),Int.add_zero];exact cv,Lh⟩
 obtain rfl:i=(ordN p).length:=by omega
 rw [sav_all]
 refine Zm (Zzf ?_)
 exact ⟨(),trivial,rfl,Lh⟩
theorem kept_len {n:Nat}{kept:List Bool} : (keptL n kept).length=n:=by unfold keptL;simp
theorem chk_len {p:ApiProgram}{free:List Bool} : (chkL p free).length=p.fFuns.length:=by unfold chkL;simp
theorem range_take {α:Type}(F:Nat→α) {n i:Nat}(h:i<n):((List.range n).map F).take i++[F i]=((List.range n).map F).take (i+1):=by
 rw [List.take_add_one,List.getElem?_map,List.getElem?_range h];rfl
theorem kept_succ {n i:Nat}{kept:List Bool}(h:i<n):(keptL n kept).take i++[kept.getD i false]=(keptL n kept).take (i+1):=range_take (fun i=>kept.getD i false) h
theorem chk_T {p:ApiProgram}{free:List Bool}{i:Nat}(h:i<p.fFuns.length) (hf:free.getD i false=true):(chkL p free).take i++[0]=(chkL p free).take (i+1):=by
 have:=range_take (chkF p free) h
 rwa [show chkF p free i=0 by unfold chkF;rw [if_pos hf]] at this
theorem chk_F {p:ApiProgram}{free:List Bool}{i:Nat}{f:ApiFun}(h:i<p.fFuns.length) (hf:free.getD i false=false) (hfn:p.fFuns[i]?=some f):(chkL p free).take i++[leastF (frameN f.fF)]=(chkL p free).take (i+1):=by
 have:=range_take (chkF p free) h
 rwa [show chkF p free i=leastF (frameN f.fF) by unfold chkF;rw [if_neg (by rw [hf];simp),frm_f hfn]] at this
theorem prog_Least {B:Base}{w:World}(hS:St B [] w) (n:Int) :
 CW 171 #[.int .i64 n] w (Ret B (fun _:Unit=>True) (fun _=>.int .i64 (leastF n)) (fun _=>[])):=by
 refine ZX Tryz.func171 hS ?_
 refine Zh (Zi (Zp J (Zn (Za (Zh (Zk (Zh (Zi (Zo J (oLeq J J (Zp J (Zn (Za (wC (fun h3=>?_) (fun h3=>?_)))))))))))))))
 refine Zh (Zi (Zzs ?_))
 exact ⟨(),trivial,by unfold leastF;rw [if_pos (by first | exact h3 | omega)];rfl,Lh⟩
 refine Zh (Zi (Zo J (oLeq J J (Zp J (Zn (Za (wC (fun h6=>?_) (fun h6=>?_))))))))
 refine Zh (Zi (Zzs ?_))
 exact ⟨(),trivial,by unfold leastF;rw [if_neg (by first | exact h3 | omega),if_pos (by first | exact h6 | omega)];rfl,Lh⟩
 refine Zj (Zd (Za (Zh (Zi (Zza ?_)))))
 exact ⟨(),trivial,by unfold leastF;rw [if_neg (by first | exact h3 | omega),if_neg (by first | exact h6 | omega)];rfl,Lh⟩
theorem ref28_Least {B:Base}{w:World}(hS:St B [] w) (n:Int) :
 CW 173 #[.int .i64 n] w (Ret B (fun _:Unit=>True) (fun _=>.int .i64 (leastF n)) (fun _=>[])):=by
 refine ZX Tryz.func173 hS ?_
 refine Zh (Zi (Zp J (Zn (Za (Zh (Zh (Zi (Zo J (oLeq J J (Zn (Za (wC (fun h4=>?_) (fun h4=>?_)))))))))))))
 refine Zh (Zi (Zze ?_))
 exact ⟨(),trivial,by unfold leastF;rw [if_pos (by first | exact h4 | omega)];rfl,Lh⟩
 refine Zj (Za (Zh (Zh (Zi (Zo J (oLeq J J (Zn (Za (wC (fun h6=>?_) (fun h6=>?_))))))))))
 refine Zh (Zi (Zze ?_))
 exact ⟨(),trivial,by unfold leastF;rw [if_neg (by first | exact h4 | omega),if_pos (by first | exact h6 | omega)];rfl,Lh⟩
 refine Zj (Za (Zh (Zi (Zza ?_))))
 exact ⟨(),trivial,by unfold leastF;rw [if_neg (by first | exact h4 | omega),if_neg (by first | exact h6 | omega)];rfl,Lh⟩
theorem prog_has {B:Base}{w:World}(hS:St B [] w) (l:List Bool) (A:Option Addr) (n cp:Nat) (hn:l.length=n) (hC:Kd.bool.C B.e A l) (i:Nat) :
 CW 172 #[.slice A n cp,.int .i64 (i:Int)] w (Ret B (fun _:Unit=>True) (fun _=>.bool (l.getD i false)) (fun _=>[])):=by
 subst hn
 refine ZX Tryz.func172 hS ?_
 refine Zh (Zi (Zp J (Zn (Za (Zh (Zi (Zo J (Z2 J J (Zo J (ZS (ZT 7) (fun h7=>?_) (fun h7=>?_)))))))))))
 refine Zq J J (Zo J (Zq J J (Zo J (Zq J J (Zv J J (Zq J J (Zx J J (Zt J J (Zo J (ZS (ZT 13) (fun h13=>?_) (fun h13=>?_)))))))))))
 obtain ⟨u,hu⟩:∃ u,l[i]?=some u:=⟨_,List.getElem?_eq_getElem ZO⟩
 obtain ⟨e1,cs1,hE⟩:=hC.elm hu
 obtain rfl:=(show cs1=[Value.bool u] from hE.K)
 refine Zq J J (Zo J (Zq J J (Zo J (Zq J J (oIdxE J J (hE) ZO J J ?_)))))
 have hc16:=(hE).cell
 refine Zq J J (Zlx hc16 ?_)
 refine Zt J J (Zza ?_)
 exact ⟨(),trivial,by rw [getD_at hu];rfl,Lh⟩
 refine Zr J J J J (Zzp ?_)
 exact ⟨(),trivial,by rw [List.getD_eq_getElem?_getD,List.getElem?_eq_none ZO];rfl,Lh⟩
 omega
theorem prog_Lean {B:Base}{w:World}(hS:St B [] w) (p:ApiProgram) (pc:List Value) (hp:kApiProgram.K B.e p pc) (hsm:SmallP p) (kept:List Bool) (Ak:Option Addr) (nk ck:Nat) (hnk:kept.length=nk) (hK:Kd.bool.C B.e Ak kept) (free:List Bool) (Af:Option Addr) (nf cf:Nat) (hnf:free.length=nf) (hF:Kd.bool.C B.e Af free) (W0:World) :
 CW 117 #[.agg pc.toArray,.slice Ak nk ck,.slice Af nf cf] w (Ret B (fun _:(Option Addr×Nat)×(Option Addr×Nat)=>True) (fun z=>.agg #[.slice z.1.1 p.fFuns.length z.1.2,.slice z.2.1 p.fFuns.length z.2.2]) (fun z=>[row Kd.bool W0 4 (.slice z.1.1 p.fFuns.length z.1.2) (keptL p.fFuns.length kept),row (Kd.int .i64) W0 3 (.slice z.2.1 p.fFuns.length z.2.2) (chkL p free)])):=by
 obtain ⟨A0,c0,A1,c1,rfl,l0,g0,l1,g1⟩:=kApiProgram_open hp
 have hn:=hsm.funs
 refine ZX Tryz.func117 hS ?_
 refine Zh (Zi (oBox J ZP (fun b3=>?_)))
 refine oAlloc J ZP (fun b6=>?_)
 refine Zn (Za (Zh (Zi (oAlloc J ZP (fun b7=>?_)))))
 refine Zn (Za (Zh (Zh (Zi (Zz (n:=0) (m:=0) J J J (Zld ?_))))))
 refine Zv J J (Zo J (Zn (Za (Zk (wLoop (ι:=Nat×(Option Addr×Nat)×(Option Addr×Nat)) (fun z=>[(1,.slice Ak nk ck),(2,.slice Af nf cf),(3,.pointer (some ⟨b3,0,none⟩)),(6,.pointer (some ⟨b6,0,none⟩)),(7,.pointer (some ⟨b7,0,none⟩)),(12,.slice A0 p.fFuns.length c0),(13,.int .i64 (p.fFuns.length:Int)),(14,.int .i64 (z.1:Int))]) (fun z=>[blk b3 29 (pcL p A0 c0 A1 c1),blk b6 71 [.slice none 0 0,.slice none 0 0],blk b7 71 [.slice z.2.1.1 z.1 z.2.1.2,.slice z.2.2.1 z.1 z.2.2.2],row Kd.bool W0 4 (.slice z.2.1.1 z.1 z.2.1.2) ((keptL p.fFuns.length kept).take z.1),row (Kd.int .i64) W0 3 (.slice z.2.2.1 z.1 z.2.2.2) ((chkL p free).take z.1)]) (fun z=>z.1≤p.fFuns.length) (fun z=>p.fFuns.length-z.1) (0,(none,0),(none,0)) ?_ cv (Leads.nilrow.trans (Leads.nilrow.trans Lh)) ?_)))))
 exact Nat.zero_le _
 rintro ⟨i,⟨K1,k1⟩,⟨K2,k2⟩⟩ hi
 dsimp only at hi
 have hl1:((keptL p.fFuns.length kept).take i).length=i:=by rw [List.length_take,kept_len];omega
 have hl2:((chkL p free).take i).length=i:=by rw [List.length_take,chk_len];omega
 try dsimp only
 refine Zh (Zi (Zx J J (Zn (Za (Zh (wC (fun h15=>?_) (fun h15=>?_)))))))
 have hil:i<p.fFuns.length:=by omega
 obtain ⟨f,hf⟩:∃ f,p.fFuns[i]?=some f:=⟨_,List.getElem?_eq_getElem ZO⟩
 obtain ⟨e1,cs1,hE⟩:=g0.elm hf
 obtain ⟨D0,d0,D1,d1,D2,d2,D3,d3,D4,d4,rfl,m0,q0,m1,q1,m2,q2,m3,q3,m4,q4⟩:=kApiFun_open hE.K
 refine Zj (Za (Zh (Zk (Zh (Zi (Zo J (oIdxE J J (hE) ZO J J ?_)))))))
 have hc17:=(hE).cell
 refine Zlx hc17 ?_
 refine oAlloc J ZP (fun b9=>?_)
 refine Zp J (Zsa ?_)
 refine Zn (Za (Zh (Zi (Zz (n:=3) (m:=3) J J J (Zla ?_)))))
 (refine ZC0 rfl ZK (fun w hS=>frame hS ZQ (fun B' hB hS'=>fun_Frame hS' f.fF _ (kApiFunc_mk _ f.fF m0 (Kd.C_grow hB q0) m1 (Kd.C_grow hB q1) m2 (Kd.C_grow hB q2) m3 (Kd.C_grow hB q3)) (by have:=(hsm.fn f (List.mem_of_getElem? hf)).2.2.1;omega))) ?_;rintro ⟨⟩ -)
 (refine ZC0 rfl ZK (fun w hS=>frame hS ZQ (fun B' hB hS'=>prog_Least hS' (frameN f.fF))) ?_;rintro ⟨⟩ -)
 refine Zp J (Zn (Za (Zh (Zzu ?_))))
 (refine ZC0 rfl ZK (fun w hS=>frame hS ZQ (fun B' hB hS'=>prog_has hS' free Af nf cf hnf (Kd.C_grow hB hF) i)) ?_;rintro ⟨⟩ -)
 refine Zn (Za (wC (fun h25=>?_) (fun h25=>?_)))
 refine Zi (Zp J (Zn (Za (Zh (wDrawG J [0,1,2,3] [(4,[0,1],[]),(5,[0,1],[]),(6,[],[])] [7,8] 24 ZK J J (fun w0=>?_))))))
 refine Zz (n:=0) (m:=0) J J J (Zld ?_)
 refine Zo J (Zo J (Z4 (Z5 J ?_)))
 (refine ZC0 rfl ZK (fun w hS=>frame hS ZQ (fun B' hB hS'=>prog_has hS' kept Ak nk ck hnk (Kd.C_grow hB hK) i)) ?_;rintro ⟨⟩ -)
 refine ZG ?_ J (fun w0=>?_)
 refine Z8 J J J J (fun w0=>?_) ?_
 refine Zz (n:=0) (m:=0) J J J ?_
 exact Z9 rfl
 refine Z8 J J J J (fun w0=>?_) ?_
 refine Zld ?_
 exact Z9 rfl
 exact AgainG.nil
 refine Z4 (Z5 J (oBuildSlice1 J J J J J ZP J (fun b31=>?_)))
 refine ZG ?_ J (fun w0=>?_)
 refine Z8 J J J J (fun w0=>?_) ?_
 refine Zz (n:=0) (m:=0) J J J ?_
 exact Z9 rfl
 refine Z8 J J J J (fun w0=>?_) ?_
 refine Zld ?_
 exact Z9 rfl
 exact AgainG.nil
 refine Z4 (Z5 J (oApp1 (kept.getD i false) J J J J ZP ZP J ZO J (fun g32 cp32=>?_)))
 rw [kept_succ hil,hl1]
 refine ZG ?_ J (fun w0=>?_)
 exact AgainG.nil
 refine Z6 (Zz (n:=0) (m:=0) J J J (Zst ?_))
 refine Zn (Za (Zi (Zz (n:=1) (m:=1) J J J (Zld ?_))))
 refine Zo J (oBuildSlice1 J J J J J ZP J (fun b37=>?_))
 refine oApp1 (0:Int) J J J J ZP ZP J ZO J (fun g38 cp38=>?_)
 rw [chk_T hil h25,hl2]
 refine Zz (n:=1) (m:=1) J J J (Zst ?_)
 refine Zn (Zzi ?_)
 refine Zo J (Zn (Za ?_))
 exact ⟨rfl,(i+1,(some ⟨g32,0,none⟩,cp32),(some ⟨g38,0,none⟩,cp38)),by show i+1≤_;omega,by show p.fFuns.length-(i+1)<p.fFuns.length-i;omega,cv,Lh⟩
 refine Zj (Za (Zh (wDrawG J [0,1,2,3] [(4,[0,1],[]),(5,[0,1],[]),(6,[],[])] [7,8] 24 ZK J J (fun w0=>?_))))
 refine Zz (n:=0) (m:=0) J J J (Zld ?_)
 refine Zo J (Zo J (Z4 (Z5 J ?_)))
 (refine ZC0 rfl ZK (fun w hS=>frame hS ZQ (fun B' hB hS'=>prog_has hS' kept Ak nk ck hnk (Kd.C_grow hB hK) i)) ?_;rintro ⟨⟩ -)
 refine ZG ?_ J (fun w0=>?_)
 refine Z8 J J J J (fun w0=>?_) ?_
 refine Zz (n:=0) (m:=0) J J J ?_
 exact Z9 rfl
 refine Z8 J J J J (fun w0=>?_) ?_
 refine Zld ?_
 exact Z9 rfl
 exact AgainG.nil
 refine Z4 (Z5 J (oBuildSlice1 J J J J J ZP J (fun b31=>?_)))
 refine ZG ?_ J (fun w0=>?_)
 refine Z8 J J J J (fun w0=>?_) ?_
 refine Zz (n:=0) (m:=0) J J J ?_
 exact Z9 rfl
 refine Z8 J J J J (fun w0=>?_) ?_
 refine Zld ?_
 exact Z9 rfl
 exact AgainG.nil
 refine Z4 (Z5 J (oApp1 (kept.getD i false) J J J J ZP ZP J ZO J (fun g32 cp32=>?_)))
 rw [kept_succ hil,hl1]
 refine ZG ?_ J (fun w0=>?_)
 exact AgainG.nil
 refine Z6 (Zz (n:=0) (m:=0) J J J (Zst ?_))
 refine Zn (Za (Zi (Zz (n:=1) (m:=1) J J J (Zld ?_))))
 refine Zo J (oBuildSlice1 J J J J J ZP J (fun b37=>?_))
 refine oApp1 (leastF (frameN f.fF)) J J J J ZP ZP J ZO J (fun g38 cp38=>?_)
 rw [chk_F hil h25 hf,hl2]
 refine Zz (n:=1) (m:=1) J J J (Zst ?_)
 refine Zn (Zzi ?_)
 refine Zo J (Zn (Za ?_))
 exact ⟨rfl,(i+1,(some ⟨g32,0,none⟩,cp32),(some ⟨g38,0,none⟩,cp38)),by show i+1≤_;omega,by show p.fFuns.length-(i+1)<p.fFuns.length-i;omega,cv,Lh⟩
 obtain rfl:i=p.fFuns.length:=by omega
 rw [show (keptL p.fFuns.length kept).take p.fFuns.length=keptL p.fFuns.length kept from List.take_of_length_le (by rw [kept_len];exact Nat.le_refl _),show (chkL p free).take p.fFuns.length=chkL p free from List.take_of_length_le (by rw [chk_len];exact Nat.le_refl _)]
 refine Zm (Zb (Zb (Ze (Zzk ?_))))
 refine Zsa ?_
 refine Zn (Za (Zl (Zw (ZI ?_))))
 exact ⟨((K1,k1),(K2,k2)),trivial,rfl,Lh⟩
theorem ref28_Lean {B:Base}{w:World}(hS:St B [] w) (p:ApiProgram) (pc:List Value) (hp:kApiProgram.K B.e p pc) (hsm:SmallP p) (kept:List Bool) (Ak:Option Addr) (nk ck:Nat) (hnk:kept.length=nk) (hK:Kd.bool.C B.e Ak kept) (free:List Bool) (Af:Option Addr) (nf cf:Nat) (hnf:free.length=nf) (hF:Kd.bool.C B.e Af free) (W0:World) :
 CW 118 #[.agg pc.toArray,.slice Ak nk ck,.slice Af nf cf] w (Ret B (fun _:(Option Addr×Nat)×(Option Addr×Nat)=>True) (fun z=>.agg #[.slice z.1.1 p.fFuns.length z.1.2,.slice z.2.1 p.fFuns.length z.2.2]) (fun z=>[row Kd.bool W0 4 (.slice z.1.1 p.fFuns.length z.1.2) (keptL p.fFuns.length kept),row (Kd.int .i64) W0 3 (.slice z.2.1 p.fFuns.length z.2.2) (chkL p free)])):=by
 subst hnk
 subst hnf
 obtain ⟨A0,c0,A1,c1,rfl,l0,g0,l1,g1⟩:=kApiProgram_open hp
 have hn:=hsm.funs
 refine ZX Tryz.func118 hS ?_
 refine Zh (Zi (oBox J ZP (fun b3=>?_)))
 refine oAlloc J ZP (fun b6=>?_)
 refine Zn (Za (Zh (Zi (oAlloc J ZP (fun b7=>?_)))))
 refine Zn (Za (Zh (Zh (Zi (Zp J (Zn (Za (Zk (wLoop (ι:=Nat×(Option Addr×Nat)×(Option Addr×Nat)) (fun z=>[(1,.slice Ak kept.length ck),(2,.slice Af free.length cf),(3,.pointer (some ⟨b3,0,none⟩)),(6,.pointer (some ⟨b6,0,none⟩)),(7,.pointer (some ⟨b7,0,none⟩)),(8,.int .i64 (z.1:Int))]) (fun z=>[blk b3 29 (pcL p A0 c0 A1 c1),blk b6 71 [.slice none 0 0,.slice none 0 0],blk b7 71 [.slice z.2.1.1 z.1 z.2.1.2,.slice z.2.2.1 z.1 z.2.2.2],row Kd.bool W0 4 (.slice z.2.1.1 z.1 z.2.1.2) ((keptL p.fFuns.length kept).take z.1),row (Kd.int .i64) W0 3 (.slice z.2.2.1 z.1 z.2.2.2) ((chkL p free).take z.1)]) (fun z=>z.1≤p.fFuns.length) (fun z=>p.fFuns.length-z.1) (0,(none,0),(none,0)) ?_ cv (Leads.nilrow.trans (Leads.nilrow.trans Lh)) ?_)))))))))
 exact Nat.zero_le _
 rintro ⟨i,⟨K1,k1⟩,⟨K2,k2⟩⟩ hi
 dsimp only at hi
 have hl1:((keptL p.fFuns.length kept).take i).length=i:=by rw [List.length_take,kept_len];omega
 have hl2:((chkL p free).take i).length=i:=by rw [List.length_take,chk_len];omega
 try dsimp only
 refine Zh (Zh (Zi (Zo J (Zz (n:=0) (m:=0) J J J (Zld ?_)))))
 refine Zv J J (Zx J J (Zn (Za (wC (fun h13=>?_) (fun h13=>?_)))))
 have hil:i<p.fFuns.length:=by omega
 obtain ⟨f,hf⟩:∃ f,p.fFuns[i]?=some f:=⟨_,List.getElem?_eq_getElem ZO⟩
 obtain ⟨e1,cs1,hE⟩:=g0.elm hf
 obtain ⟨D0,d0,D1,d1,D2,d2,D3,d3,D4,d4,rfl,m0,q0,m1,q1,m2,q2,m3,q3,m4,q4⟩:=kApiFun_open hE.K
 refine Zj (Za (Zh (Zk (Zh (wDrawG J [0,1,2,3,4,5,6,7,8,9,10,11] [(12,[0,1],[]),(13,[],[])] [14,15] 24 ZK J J (fun w0=>?_))))))
 refine Zz (n:=0) (m:=0) J J J (Zld ?_)
 refine Zo J (Zo J (Zv J J (Zx J J (Zo J (ZS (ZT 22) (fun h22=>?_) (fun h22=>?_))))))
 obtain ⟨uk,huk⟩:∃ u,kept[i]?=some u:=⟨_,List.getElem?_eq_getElem ZO⟩
 obtain ⟨e2,cs2,hEk⟩:=hK.elm huk
 obtain rfl:=(show cs2=[Value.bool uk] from hEk.K)
 refine Zq J J (Zo J (Zq J J (Zo J (Zq J J (oIdxE J J (hEk) ZO J J ?_)))))
 have hc25:=(hEk).cell
 refine Zq J J (Zlx hc25 ?_)
 refine Zt J J (Z4 (Z5 J (oBuildSlice1 J J J J J ZP J (fun b28=>?_))))
 refine ZG ?_ J (fun w0=>?_)
 refine Z8 J J J J (fun w0=>?_) ?_
 refine Zz (n:=0) (m:=0) J J J ?_
 exact Z9 rfl
 refine Z8 J J J J (fun w0=>?_) ?_
 refine Zld ?_
 exact Z9 rfl
 exact AgainG.nil
 refine Z4 (Z5 J (oApp1 uk J J J J ZP ZP J ZO J (fun g29 cp29=>?_)))
 rw [show (keptL p.fFuns.length kept).take i++[uk]=(keptL p.fFuns.length kept).take (i+1) by rw [← kept_succ hil,getD_at huk],hl1]
 refine ZG ?_ J (fun w0=>?_)
 exact AgainG.nil
 refine Z6 (Zz (n:=0) (m:=0) J J J (Zst ?_))
 refine Zn (Za (Zh (Zi (Zo J (Zo J (Zv J J (Zx J J (Zo J (ZS (ZT 35) (fun h35=>?_) (fun h35=>?_))))))))))
 obtain ⟨uf,huf⟩:∃ u,free[i]?=some u:=⟨_,List.getElem?_eq_getElem ZO⟩
 obtain ⟨e3,cs3,hEf⟩:=hF.elm huf
 obtain rfl:=(show cs3=[Value.bool uf] from hEf.K)
 refine Zq J J (Zo J (Zq J J (Zo J (Zq J J (oIdxE J J (hEf) ZO J J ?_)))))
 have hc38:=(hEf).cell
 refine Zq J J (Zlx hc38 ?_)
 refine Zt J J (Zn (Za (wC (fun h40=>?_) (fun h40=>?_))))
 refine Zi (Zz (n:=1) (m:=1) J J J (Zld ?_))
 refine oBuildSlice1 J J J J J ZP J (fun b43=>?_)
 refine oApp1 (0:Int) J J J J ZP ZP J ZO J (fun g44 cp44=>?_)
 rw [chk_T hil (by rw [getD_at huf];exact h40),hl2]
 refine Zz (n:=1) (m:=1) J J J (Zst ?_)
 refine Zn (Zzd ?_)
 refine Zp J (Zn (Za ?_))
 exact ⟨rfl,(i+1,(some ⟨g29,0,none⟩,cp29),(some ⟨g44,0,none⟩,cp44)),by show i+1≤_;omega,by show p.fFuns.length-(i+1)<p.fFuns.length-i;omega,cv,Lh⟩
 have hfree:free.getD i false=false:=by rw [getD_at huf];exact h40
 refine wDrawG J [0,1,2,3,4,5,6,7] [(8,[0,1],[]),(9,[0,1],[]),(10,[0,1],[]),(11,[],[])] [12,13] 24 ZK J J (fun w0=>?_)
 refine Zz (n:=1) (m:=1) J J J (Zld ?_)
 refine Zz (n:=0) (m:=0) J J J (Zld ?_)
 refine Zo J (oIdxE J J (hE) ZO J J ?_)
 have hc51:=(hE).cell
 refine ZF (ZT 3) (ZT 3) ?_
 refine Zlx hc51 ?_
 refine Z4 (Z5 J ?_)
 (refine ZC0 rfl ZK (fun w hS=>frame hS ZQ (fun B' hB hS'=>ref16_Frame hS' f.fF _ (kApiFunc_mk _ f.fF m0 (Kd.C_grow hB q0) m1 (Kd.C_grow hB q1) m2 (Kd.C_grow hB q2) m3 (Kd.C_grow hB q3)) (by have:=(hsm.fn f (List.mem_of_getElem? hf)).2.2.1;omega))) ?_;rintro ⟨⟩ -)
 refine ZG ?_ J (fun w0=>?_)
 refine Z8 J J J J (fun w0=>?_) ?_
 refine Zz (n:=1) (m:=1) J J J ?_
 exact Z9 rfl
 refine Z8 J J J J (fun w0=>?_) ?_
 refine Zld ?_
 exact Z9 rfl
 exact AgainG.nil
 refine Z4 (Z5 J ?_)
 (refine ZC0 rfl ZK (fun w hS=>frame hS ZQ (fun B' hB hS'=>ref28_Least hS' (frameN f.fF))) ?_;rintro ⟨⟩ -)
 refine ZG ?_ J (fun w0=>?_)
 refine Z8 J J J J (fun w0=>?_) ?_
 refine Zz (n:=1) (m:=1) J J J ?_
 exact Z9 rfl
 refine Z8 J J J J (fun w0=>?_) ?_
 refine Zld ?_
 exact Z9 rfl
 exact AgainG.nil
 refine Z4 (Z5 J (oBuildSlice1 J J J J J ZP J (fun b56=>?_)))
 refine ZG ?_ J (fun w0=>?_)
 refine Z8 J J J J (fun w0=>?_) ?_
 refine Zz (n:=1) (m:=1) J J J ?_
 exact Z9 rfl
 refine Z8 J J J J (fun w0=>?_) ?_
 refine Zld ?_
 exact Z9 rfl
 exact AgainG.nil
 refine Z4 (Z5 J (oApp1 (leastF (frameN f.fF)) J J J J ZP ZP J ZO J (fun g57 cp57=>?_)))
 rw [chk_F hil hfree hf,hl2]
 refine ZG ?_ J (fun w0=>?_)
 exact AgainG.nil
 refine Z6 (Zz (n:=1) (m:=1) J J J (Zst ?_))
 refine Zn (Zzd ?_)
 refine Zp J (Zn (Za ?_))
 exact ⟨rfl,(i+1,(some ⟨g29,0,none⟩,cp29),(some ⟨g57,0,none⟩,cp57)),by show i+1≤_;omega,by show p.fFuns.length-(i+1)<p.fFuns.length-i;omega,cv,Lh⟩
 have hfree:free.getD i false=false:=by rw [List.getD_eq_getElem?_getD,List.getElem?_eq_none ZO];rfl
 refine Zr J J J J (Zr J J J J (Zr J J J J (Zr J J J J (Zu J J (Zn (Za (wCondF J (wDrawG J [0,1,2,3,4,5,6,7] [(8,[0,1],[]),(9,[0,1],[]),(10,[0,1],[]),(11,[],[])] [12,13] 24 ZK J J (fun w0=>?_)))))))))
 refine Zz (n:=1) (m:=1) J J J (Zld ?_)
 refine Zz (n:=0) (m:=0) J J J (Zld ?_)
 refine Zo J (oIdxE J J (hE) ZO J J ?_)
 have hc51:=(hE).cell
 refine ZF (ZT 3) (ZT 3) ?_
 refine Zlx hc51 ?_
 refine Z4 (Z5 J ?_)
 (refine ZC0 rfl ZK (fun w hS=>frame hS ZQ (fun B' hB hS'=>ref16_Frame hS' f.fF _ (kApiFunc_mk _ f.fF m0 (Kd.C_grow hB q0) m1 (Kd.C_grow hB q1) m2 (Kd.C_grow hB q2) m3 (Kd.C_grow hB q3)) (by have:=(hsm.fn f (List.mem_of_getElem? hf)).2.2.1;omega))) ?_;rintro ⟨⟩ -)
 refine ZG ?_ J (fun w0=>?_)
 refine Z8 J J J J (fun w0=>?_) ?_
 refine Zz (n:=1) (m:=1) J J J ?_
 exact Z9 rfl
 refine Z8 J J J J (fun w0=>?_) ?_
 refine Zld ?_
 exact Z9 rfl
 exact AgainG.nil
 refine Z4 (Z5 J ?_)
 (refine ZC0 rfl ZK (fun w hS=>frame hS ZQ (fun B' hB hS'=>ref28_Least hS' (frameN f.fF))) ?_;rintro ⟨⟩ -)
 refine ZG ?_ J (fun w0=>?_)
 refine Z8 J J J J (fun w0=>?_) ?_
 refine Zz (n:=1) (m:=1) J J J ?_
 exact Z9 rfl
 refine Z8 J J J J (fun w0=>?_) ?_
 refine Zld ?_
 exact Z9 rfl
 exact AgainG.nil
 refine Z4 (Z5 J (oBuildSlice1 J J J J J ZP J (fun b56=>?_)))
 refine ZG ?_ J (fun w0=>?_)
 refine Z8 J J J J (fun w0=>?_) ?_
 refine Zz (n:=1) (m:=1) J J J ?_
 exact Z9 rfl
 refine Z8 J J J J (fun w0=>?_) ?_
 refine Zld ?_
 exact Z9 rfl
 exact AgainG.nil
 refine Z4 (Z5 J (oApp1 (leastF (frameN f.fF)) J J J J ZP ZP J ZO J (fun g57 cp57=>?_)))
 rw [chk_F hil hfree hf,hl2]
 refine ZG ?_ J (fun w0=>?_)
 exact AgainG.nil
 refine Z6 (Zz (n:=1) (m:=1) J J J (Zst ?_))
 refine Zn (Zzd ?_)
 refine Zp J (Zn (Za ?_))
 exact ⟨rfl,(i+1,(some ⟨g29,0,none⟩,cp29),(some ⟨g57,0,none⟩,cp57)),by show i+1≤_;omega,by show p.fFuns.length-(i+1)<p.fFuns.length-i;omega,cv,Lh⟩
 refine Zr J J J J (Zr J J J J (Zr J J J J (Zr J J J J (Zu J J (Z4 (Z5 J (oBuildSlice1 J J J J J ZP J (fun b28=>?_))))))))
 refine ZG ?_ J (fun w0=>?_)
 refine Z8 J J J J (fun w0=>?_) ?_
 refine Zz (n:=0) (m:=0) J J J ?_
 exact Z9 rfl
 refine Z8 J J J J (fun w0=>?_) ?_
 refine Zld ?_
 exact Z9 rfl
 exact AgainG.nil
 refine Z4 (Z5 J (oApp1 false J J J J ZP ZP J ZO J (fun g29 cp29=>?_)))
 rw [show (keptL p.fFuns.length kept).take i++[false]=(keptL p.fFuns.length kept).take (i+1) by rw [← kept_succ hil,List.getD_eq_getElem?_getD,List.getElem?_eq_none ZO];rfl,hl1]
 refine ZG ?_ J (fun w0=>?_)
 exact AgainG.nil
 refine Z6 (Zz (n:=0) (m:=0) J J J (Zst ?_))
 refine Zn (Za (Zh (Zi (Zo J (Zo J (Zv J J (Zx J J (Zo J (ZS (ZT 35) (fun h35=>?_) (fun h35=>?_))))))))))
 obtain ⟨uf,huf⟩:∃ u,free[i]?=some u:=⟨_,List.getElem?_eq_getElem ZO⟩
 obtain ⟨e3,cs3,hEf⟩:=hF.elm huf
 obtain rfl:=(show cs3=[Value.bool uf] from hEf.K)
 refine Zq J J (Zo J (Zq J J (Zo J (Zq J J (oIdxE J J (hEf) ZO J J ?_)))))
 have hc38:=(hEf).cell
 refine Zq J J (Zlx hc38 ?_)
 refine Zt J J (Zn (Za (wC (fun h40=>?_) (fun h40=>?_))))
 refine Zi (Zz (n:=1) (m:=1) J J J (Zld ?_))
 refine oBuildSlice1 J J J J J ZP J (fun b43=>?_)
 refine oApp1 (0:Int) J J J J ZP ZP J ZO J (fun g44 cp44=>?_)
 rw [chk_T hil (by rw [getD_at huf];exact h40),hl2]
 refine Zz (n:=1) (m:=1) J J J (Zst ?_)
 refine Zn (Zzd ?_)
 refine Zp J (Zn (Za ?_))
 exact ⟨rfl,(i+1,(some ⟨g29,0,none⟩,cp29),(some ⟨g44,0,none⟩,cp44)),by show i+1≤_;omega,by show p.fFuns.length-(i+1)<p.fFuns.length-i;omega,cv,Lh⟩
 have hfree:free.getD i false=false:=by rw [getD_at huf];exact h40
 refine wDrawG J [0,1,2,3,4,5,6,7] [(8,[0,1],[]),(9,[0,1],[]),(10,[0,1],[]),(11,[],[])] [12,13] 24 ZK J J (fun w0=>?_)
 refine Zz (n:=1) (m:=1) J J J (Zld ?_)
 refine Zz (n:=0) (m:=0) J J J (Zld ?_)
 refine Zo J (oIdxE J J (hE) ZO J J ?_)
 have hc51:=(hE).cell
 refine ZF (ZT 3) (ZT 3) ?_
 refine Zlx hc51 ?_
 refine Z4 (Z5 J ?_)
 (refine ZC0 rfl ZK (fun w hS=>frame hS ZQ (fun B' hB hS'=>ref16_Frame hS' f.fF _ (kApiFunc_mk _ f.fF m0 (Kd.C_grow hB q0) m1 (Kd.C_grow hB q1) m2 (Kd.C_grow hB q2) m3 (Kd.C_grow hB q3)) (by have:=(hsm.fn f (List.mem_of_getElem? hf)).2.2.1;omega))) ?_;rintro ⟨⟩ -)
 refine ZG ?_ J (fun w0=>?_)
 refine Z8 J J J J (fun w0=>?_) ?_
 refine Zz (n:=1) (m:=1) J J J ?_
 exact Z9 rfl
 refine Z8 J J J J (fun w0=>?_) ?_
 refine Zld ?_
 exact Z9 rfl
 exact AgainG.nil
 refine Z4 (Z5 J ?_)
 (refine ZC0 rfl ZK (fun w hS=>frame hS ZQ (fun B' hB hS'=>ref28_Least hS' (frameN f.fF))) ?_;rintro ⟨⟩ -)
 refine ZG ?_ J (fun w0=>?_)
 refine Z8 J J J J (fun w0=>?_) ?_
 refine Zz (n:=1) (m:=1) J J J ?_
 exact Z9 rfl
 refine Z8 J J J J (fun w0=>?_) ?_
 refine Zld ?_
 exact Z9 rfl
 exact AgainG.nil
 refine Z4 (Z5 J (oBuildSlice1 J J J J J ZP J (fun b56=>?_)))
 refine ZG ?_ J (fun w0=>?_)
 refine Z8 J J J J (fun w0=>?_) ?_
 refine Zz (n:=1) (m:=1) J J J ?_
 exact Z9 rfl
 refine Z8 J J J J (fun w0=>?_) ?_
 refine Zld ?_
 exact Z9 rfl
 exact AgainG.nil
 refine Z4 (Z5 J (oApp1 (leastF (frameN f.fF)) J J J J ZP ZP J ZO J (fun g57 cp57=>?_)))
 rw [chk_F hil hfree hf,hl2]
 refine ZG ?_ J (fun w0=>?_)
 exact AgainG.nil
 refine Z6 (Zz (n:=1) (m:=1) J J J (Zst ?_))
 refine Zn (Zzd ?_)
 refine Zp J (Zn (Za ?_))
 exact ⟨rfl,(i+1,(some ⟨g29,0,none⟩,cp29),(some ⟨g57,0,none⟩,cp57)),by show i+1≤_;omega,by show p.fFuns.length-(i+1)<p.fFuns.length-i;omega,cv,Lh⟩
 have hfree:free.getD i false=false:=by rw [List.getD_eq_getElem?_getD,List.getElem?_eq_none ZO];rfl
 refine Zr J J J J (Zr J J J J (Zr J J J J (Zr J J J J (Zu J J (Zn (Za (wCondF J (wDrawG J [0,1,2,3,4,5,6,7] [(8,[0,1],[]),(9,[0,1],[]),(10,[0,1],[]),(11,[],[])] [12,13] 24 ZK J J (fun w0=>?_)))))))))
 refine Zz (n:=1) (m:=1) J J J (Zld ?_)
 refine Zz (n:=0) (m:=0) J J J (Zld ?_)
 refine Zo J (oIdxE J J (hE) ZO J J ?_)
 have hc51:=(hE).cell
 refine ZF (ZT 3) (ZT 3) ?_
 refine Zlx hc51 ?_
 refine Z4 (Z5 J ?_)
 (refine ZC0 rfl ZK (fun w hS=>frame hS ZQ (fun B' hB hS'=>ref16_Frame hS' f.fF _ (kApiFunc_mk _ f.fF m0 (Kd.C_grow hB q0) m1 (Kd.C_grow hB q1) m2 (Kd.C_grow hB q2) m3 (Kd.C_grow hB q3)) (by have:=(hsm.fn f (List.mem_of_getElem? hf)).2.2.1;omega))) ?_;rintro ⟨⟩ -)
 refine ZG ?_ J (fun w0=>?_)
 refine Z8 J J J J (fun w0=>?_) ?_
 refine Zz (n:=1) (m:=1) J J J ?_
 exact Z9 rfl
 refine Z8 J J J J (fun w0=>?_) ?_
 refine Zld ?_
 exact Z9 rfl
 exact AgainG.nil
 refine Z4 (Z5 J ?_)
 (refine ZC0 rfl ZK (fun w hS=>frame hS ZQ (fun B' hB hS'=>ref28_Least hS' (frameN f.fF))) ?_;rintro ⟨⟩ -)
 refine ZG ?_ J (fun w0=>?_)
 refine Z8 J J J J (fun w0=>?_) ?_
 refine Zz (n:=1) (m:=1) J J J ?_
 exact Z9 rfl
 refine Z8 J J J J (fun w0=>?_) ?_
 refine Zld ?_
 exact Z9 rfl
 exact AgainG.nil
 refine Z4 (Z5 J (oBuildSlice1 J J J J J ZP J (fun b56=>?_)))
 refine ZG ?_ J (fun w0=>?_)
 refine Z8 J J J J (fun w0=>?_) ?_
 refine Zz (n:=1) (m:=1) J J J ?_
 exact Z9 rfl
 refine Z8 J J J J (fun w0=>?_) ?_
 refine Zld ?_
 exact Z9 rfl
 exact AgainG.nil
 refine Z4 (Z5 J (oApp1 (leastF (frameN f.fF)) J J J J ZP ZP J ZO J (fun g57 cp57=>?_)))
 rw [chk_F hil hfree hf,hl2]
 refine ZG ?_ J (fun w0=>?_)
 exact AgainG.nil
 refine Z6 (Zz (n:=1) (m:=1) J J J (Zst ?_))
 refine Zn (Zzd ?_)
 refine Zp J (Zn (Za ?_))
 exact ⟨rfl,(i+1,(some ⟨g29,0,none⟩,cp29),(some ⟨g57,0,none⟩,cp57)),by show i+1≤_;omega,by show p.fFuns.length-(i+1)<p.fFuns.length-i;omega,cv,Lh⟩
 obtain rfl:i=p.fFuns.length:=by omega
 rw [show (keptL p.fFuns.length kept).take p.fFuns.length=keptL p.fFuns.length kept from List.take_of_length_le (by rw [kept_len];exact Nat.le_refl _),show (chkL p free).take p.fFuns.length=chkL p free from List.take_of_length_le (by rw [chk_len];exact Nat.le_refl _)]
 refine Zm (Zb (Zb (Ze (Zzk ?_))))
 refine Zsa ?_
 refine Zn (Za (Zl (Zw (ZI ?_))))
 exact ⟨((K1,k1),(K2,k2)),trivial,rfl,Lh⟩
theorem ref28_Same {B:Base}{w:World}(hS:St B [] w) (k:List Bool) (c:List Int) (A1 A2 A3 A4:Option Addr) (n m c1 c2 c3 c4:Nat) (hk:k.length=n) (hc:c.length=m) (h1:Kd.bool.C B.e A1 k) (h2:(Kd.int .i64).C B.e A2 c) (h3:Kd.bool.C B.e A3 k) (h4:(Kd.int .i64).C B.e A4 c) :
 CW 55 #[.agg #[.slice A1 n c1,.slice A2 m c2],.agg #[.slice A3 n c3,.slice A4 m c4]] w (Ret B (fun _:Unit=>True) (fun _=>.bool true) (fun _=>[])):=by
 subst hk
 subst hc
 have hlk:=h1.1
 have hlc:=h2.1
 refine ZX Tryz.func55 hS ?_
 refine Zh (Zi (oBox J ZP (fun b2=>?_)))
 refine oBox J ZP (fun b3=>?_)
 refine Zp J (Zn (Za (Zh (Zh (Zi (Zz (n:=0) (m:=0) J J J (Zld ?_)))))))
 refine Zv J J (Zz (n:=0) (m:=0) J J J (Zld ?_))
 refine Zv J J (Z0 J J (Zo J (ZS (ZT 14) (fun h14=>?_) (fun h14=>?_))))
 omega
 refine Zq J J (Zz (n:=1) (m:=1) J J J (Zzg ?_))
 refine Zq J J (Zv J J (Zq J J (Zz (n:=1) (m:=1) J J J (Zzg ?_))))
 refine Zq J J (Zv J J (Zq J J (Z0 J J (Zu J J (Zn (Za (wC (fun h22=>?_) (fun h22=>?_))))))))
 omega
 refine Zj (Za (Zh (Zh (Zi (Zp J (Zn (Za (Zk (wLoop (ι:=Nat) (fun i=>[(2,.pointer (some ⟨b2,0,none⟩)),(3,.pointer (some ⟨b3,0,none⟩)),(5,.int .i64 (i:Int))]) (fun i=>[blk b2 71 [.slice A1 k.length c1,.slice A2 c.length c2],blk b3 71 [.slice A3 k.length c3,.slice A4 c.length c4]]) (fun i=>i≤k.length) (fun i=>k.length-i) 0 ?_ cv Lh ?_)))))))))
 exact Nat.zero_le _
 rintro i hi
 try dsimp only
 refine Zh (Zh (Zi (Zo J (Zz (n:=0) (m:=0) J J J (Zld ?_)))))
 refine Zv J J (Zx J J (Zn (Za (wC (fun h27=>?_) (fun h27=>?_)))))
 obtain ⟨x,hx⟩:∃ x,k[i]?=some x:=⟨_,List.getElem?_eq_getElem ZO⟩
 obtain ⟨e1,cs1,hE⟩:=h1.elm hx
 obtain rfl:=(show cs1=[Value.bool x] from hE.K)
 obtain ⟨e2,cs2,hE2⟩:=h3.elm hx
 obtain rfl:=(show cs2=[Value.bool x] from hE2.K)
 refine Zj (Za (Zh (Zk (Zh (wDrawG J [0,1,2,3,4,5,6,7,8,9,10] [] [] 24 ZK J J (fun w0=>?_))))))
 refine Zz (n:=0) (m:=0) J J J (Zld ?_)
 refine Zo J (oIdxE J J (hE) ZO J J ?_)
 have hc33:=(hE).cell
 refine Zlx hc33 ?_
 refine Zz (n:=0) (m:=0) J J J (Zld ?_)
 refine Zo J (oIdxE J J (hE2) ZO J J ?_)
 have hc38:=(hE2).cell
 refine Zlx hc38 ?_
 refine oNeqBool J J J (Z6 (Zn (Za (wC (fun h40=>?_) (fun h40=>?_)))))
 exact absurd rfl h40
 refine Zj (Zzd ?_)
 refine Zp J (Zn (Za ?_))
 exact ⟨rfl,i+1,by omega,by omega,cv,Lh⟩
 refine Zm (Zb (Zb (Ze (Za (Zh (Zh (Zi (Zp J (Zn (Za (Zk (wLoop (ι:=Nat) (fun i=>[(2,.pointer (some ⟨b2,0,none⟩)),(3,.pointer (some ⟨b3,0,none⟩)),(6,.int .i64 (i:Int))]) (fun i=>[blk b2 71 [.slice A1 k.length c1,.slice A2 c.length c2],blk b3 71 [.slice A3 k.length c3,.slice A4 c.length c4]]) (fun i=>i≤c.length) (fun i=>c.length-i) 0 ?_ cv Lh ?_))))))))))))
 exact Nat.zero_le _
 rintro i hi
 try dsimp only
 refine Zh (Zh (Zi (Zo J (Zz (n:=1) (m:=1) J J J (Zld ?_)))))
 refine Zv J J (Zx J J (Zn (Za (wC (fun h45=>?_) (fun h45=>?_)))))
 obtain ⟨x,hx⟩:∃ x,c[i]?=some x:=⟨_,List.getElem?_eq_getElem ZO⟩
 obtain ⟨e1,cs1,hE⟩:=h2.elm hx
 obtain rfl:=(show cs1=[Value.int .i64 x] from hE.K)
 obtain ⟨e2,cs2,hE2⟩:=h4.elm hx
 obtain rfl:=(show cs2=[Value.int .i64 x] from hE2.K)
 refine Zj (Za (Zh (Zk (Zh (wDrawG J [0,1,2,3,4,5,6,7,8,9,10] [] [] 24 ZK J J (fun w0=>?_))))))
 refine Zz (n:=1) (m:=1) J J J (Zld ?_)
 refine Zo J (oIdxE J J (hE) ZO J J ?_)
 have hc51:=(hE).cell
 refine Zlx hc51 ?_
 refine Zz (n:=1) (m:=1) J J J (Zld ?_)
 refine Zo J (oIdxE J J (hE2) ZO J J ?_)
 have hc56:=(hE2).cell
 refine Zlx hc56 ?_
 refine Z0 J J (Z6 (Zn (Za (wC (fun h58=>?_) (fun h58=>?_)))))
 exact absurd rfl h58
 refine Zj (Zzd ?_)
 refine Zp J (Zn (Za ?_))
 exact ⟨rfl,i+1,by omega,by omega,cv,Lh⟩
 refine Zm (Zzj ?_)
 exact ⟨(),trivial,rfl,Lh⟩
theorem elide_Plan {B:Base}{w:World}(hS:St B [] w) (p:ApiProgram) (pc:List Value) (hp:kApiProgram.K B.e p pc) (hsm:SmallP p) (W0:World) :
 CW 56 #[.agg pc.toArray] w (Ret B (fun _:(Option Addr×Nat)×(Option Addr×Nat)=>True) (fun z=>.agg #[.slice z.1.1 p.fFuns.length z.1.2,.slice z.2.1 p.fFuns.length z.2.2]) (fun z=>[row Kd.bool W0 4 (.slice z.1.1 p.fFuns.length z.1.2) (keptL p.fFuns.length (liveL p)),row (Kd.int .i64) W0 3 (.slice z.2.1 p.fFuns.length z.2.2) (chkL p (chN p).1)])):=by
 obtain ⟨A0,c0,A1,c1,rfl,l0,g0,l1,g1⟩:=kApiProgram_open hp
 refine ZX Tryz.func56 hS ?_
 refine Zh (Zi (oBox J ZP (fun b1=>?_)))
 refine oAlloc J ZP (fun b2=>?_)
 refine Zn (Za (Zh (wDrawG J [0,1,3] [(2,[0,3],[]),(4,[0],[]),(5,[],[])] [6] 24 ZK J J (fun w0=>?_))))
 refine Zla ?_
 refine Zla ?_
 refine Zla ?_
 refine Z4 (Z5 J ?_)
 (refine ZC0 rfl ZK (fun w hS=>frame hS ZQ (fun B' hB hS'=>prog_Live hS' p _ (gPg hB hp) hsm W0)) ?_;rintro ⟨A5,c5⟩ -)
 refine ZG ?_ J (fun w0=>?_)
 refine Z8 J J J J (fun w0=>?_) ?_
 refine Zla ?_
 exact Z9 rfl
 refine Z8 J J J J (fun w0=>?_) ?_
 refine Zla ?_
 exact Z9 rfl
 exact AgainG.nil
 refine Z4 (Z5 J ?_)
 (refine ZC0 rfl ZK (fun w hS=>frame hS ZQ (fun B' hB hS'=>elide_Free hS' p _ (gPg hB hp) hsm W0)) ?_;rintro ⟨A7,c7⟩ -)
 refine ZG ?_ J (fun w0=>?_)
 refine Z8 J J J J (fun w0=>?_) ?_
 refine Zla ?_
 exact Z9 rfl
 exact AgainG.nil
 refine Z4 (Z5 J ?_)
 (refine ZD J (fun w B' hB hR hS'=>prog_Lean hS' p _ (gPg hB hp) hsm (liveL p) A5 p.fFuns.length c5 (liveL_len p) (row_Cs (W:=W0) (e:=4) (A:=A5) (n:=p.fFuns.length) (cp:=c5) (xs:=liveL p) (hR _ _ ZP)) (chN p).1 A7 p.fFuns.length c7 (chN_len p) (row_Cs (W:=W0) (e:=4) (A:=A7) (n:=p.fFuns.length) (cp:=c7) (xs:=(chN p).1) (hR _ _ ZP)) W0) ?_;rintro ⟨⟨K1,k1⟩,⟨K2,k2⟩⟩ -)
 refine ZG ?_ J (fun w0=>?_)
 exact AgainG.nil
 refine Z6 (Zsa ?_)
 refine Zn (Za (Zl (Zw (ZI ?_))))
 exact ⟨((K1,k1),(K2,k2)),trivial,rfl,Lh⟩
theorem ref31_Plan {B:Base}{w:World}(hS:St B [] w) (p:ApiProgram) (pc:List Value) (hp:kApiProgram.K B.e p pc) (hsm:SmallP p) (W0:World) :
 CW 57 #[.agg pc.toArray] w (Ret B (fun _:(Option Addr×Nat)×(Option Addr×Nat)=>True) (fun z=>.agg #[.slice z.1.1 p.fFuns.length z.1.2,.slice z.2.1 p.fFuns.length z.2.2]) (fun z=>[row Kd.bool W0 4 (.slice z.1.1 p.fFuns.length z.1.2) (keptL p.fFuns.length (liveL p)),row (Kd.int .i64) W0 3 (.slice z.2.1 p.fFuns.length z.2.2) (chkL p (chN p).1)])):=by
 obtain ⟨A0,c0,A1,c1,rfl,l0,g0,l1,g1⟩:=kApiProgram_open hp
 refine ZX Tryz.func57 hS ?_
 refine Zh (Zi (oBox J ZP (fun b1=>?_)))
 refine oAlloc J ZP (fun b2=>?_)
 refine Zn (Za (Zh (wDrawG J [0,1,3] [(2,[0,3],[]),(4,[0],[]),(5,[],[])] [6] 24 ZK J J (fun w0=>?_))))
 refine Zla ?_
 refine Zla ?_
 refine Zla ?_
 refine Z4 (Z5 J ?_)
 (refine ZC0 rfl ZK (fun w hS=>frame hS ZQ (fun B' hB hS'=>ref26_Live hS' p _ (gPg hB hp) hsm W0)) ?_;rintro ⟨A5,c5⟩ -)
 refine ZG ?_ J (fun w0=>?_)
 refine Z8 J J J J (fun w0=>?_) ?_
 refine Zla ?_
 exact Z9 rfl
 refine Z8 J J J J (fun w0=>?_) ?_
 refine Zla ?_
 exact Z9 rfl
 exact AgainG.nil
 refine Z4 (Z5 J ?_)
 (refine ZC0 rfl ZK (fun w hS=>frame hS ZQ (fun B' hB hS'=>ref31_Free hS' p _ (gPg hB hp) hsm W0)) ?_;rintro ⟨A7,c7⟩ -)
 refine ZG ?_ J (fun w0=>?_)
 refine Z8 J J J J (fun w0=>?_) ?_
 refine Zla ?_
 exact Z9 rfl
 exact AgainG.nil
 refine Z4 (Z5 J ?_)
 (refine ZD J (fun w B' hB hR hS'=>ref28_Lean hS' p _ (gPg hB hp) hsm (liveL p) A5 p.fFuns.length c5 (liveL_len p) (row_Cs (W:=W0) (e:=4) (A:=A5) (n:=p.fFuns.length) (cp:=c5) (xs:=liveL p) (hR _ _ ZP)) (chN p).1 A7 p.fFuns.length c7 (chN_len p) (row_Cs (W:=W0) (e:=4) (A:=A7) (n:=p.fFuns.length) (cp:=c7) (xs:=(chN p).1) (hR _ _ ZP)) W0) ?_;rintro ⟨⟨K1,k1⟩,⟨K2,k2⟩⟩ -)
 refine ZG ?_ J (fun w0=>?_)
 exact AgainG.nil
 refine Z6 (Zsa ?_)
 refine Zn (Za (Zl (Zw (ZI ?_))))
 exact ⟨((K1,k1),(K2,k2)),trivial,rfl,Lh⟩
def wFold (F:Int→Int):List Int→Int→Option Int
  | [],m=>some m
  | k :: l,m=>if F k<0 then none else wFold F l (if m<1+F k then 1+F k else m)
def worstN (g:List (List Int)) (ib:List Bool) (frm:List Int):Nat→Int→List Int→Int
  | 0,_,_=>-1
  | f+1,a,met=>if a ∈ met then -1 else if ib.getD a.toNat false=false then 1 else
    match wFold (fun k=>worstN g ib frm f k (met++[a])) (g.getD a.toNat []) 0 with
    | none=>-1
    | some m=>m+frm.getD a.toNat 0
noncomputable def wN (p:ApiProgram) (free:List Bool) (f:Nat) (a:Int) (met:List Int):Int:=worstN (graphF p) (memF p free) (frmL p) f a met
noncomputable def wE (p:ApiProgram) (free:List Bool) (k:Int):Int:=wN p free (p.fFuns.length+1) k []
noncomputable def edgeOk (p:ApiProgram) (free:List Bool) (i:Nat) (k:Int):Bool:=!(calledL p).getD i false || (decide (0≤wE p free k) && ((memF p free).getD i false || decide (1+wE p free k≤56)))
section
variable {p : ApiProgram} {free : List Bool}
noncomputable def f0 (p:ApiProgram) (free:List Bool):Bool:=decide (0≤wE p free p.fEntry) && decide (1+wE p free p.fEntry≤56)
noncomputable def fTo (p:ApiProgram) (free:List Bool) (i:Nat):Bool:=f0 p free && (List.range i).all fun i=>((graphF p).getD i []).all (edgeOk p free i)
end
theorem two_ch1:(chN twoP).1=[true,true,false,false]:=by rw [two_ch]
theorem two_ch2:(chN twoP).2=1:=by rw [two_ch]
theorem known31 {B:Base}{w:World}(hS:St B [] w) :
 CW 50 #[] w (Ret B (fun _:Unit=>True) (fun _=>.bool true) (fun _=>[])):=by
 refine ZX Tryz.func50 hS ?_
 refine Zh (Zi (Zp J (Zn (Za (Zh (Zi ?_))))))
 (refine ZC0 rfl ZK (fun w hS=>frame hS ZQ (fun B' hB hS'=>law_Two hS' B.e)) ?_;rintro ⟨A2,S2⟩ -)
 refine oAlloc J ZP (fun b1=>?_)
 refine Zsa ?_
 refine Zn (Zzk ?_)
 (refine ZD J (fun w B' hB hR hS'=>elide_Order hS' twoP _ (two_K (A:=A2) (rdr_C (hR _ _ ZP) hB) (by decide)) two_small B.e) ?_;rintro ⟨A4,c4⟩ -)
 rw [two_ord]
 refine oBuildSliceF (Parts.cons J (Parts.cons J Parts.nil)) J J J J J (Fulls.cons ZP J (Fulls.cons ZP J Fulls.nil ap) ap) (fun b5=>?_)
 refine oConv (blk_row (enc:=Value.int .i64) (h1:=fun _=>J) (W:=B.e) (xs:=([0,2]:List Int)) (n:=2) ZP J J (by decide)) ?_
 (refine ZD J (fun w B' hB hR hS'=>ints_any hS' A4 c4 [0,2] (row_Cs (W:=B.e) (e:=3) (A:=A4) (n:=([0,2]:List Int).length) (cp:=c4) (xs:=[0,2]) (hR _ _ ZP)) (some ⟨b5,0,none⟩) 2 [0,2] (row_Cs (W:=B.e) (e:=3) (A:=(some ⟨b5,0,none⟩)) (n:=2) (cp:=2) (xs:=[0,2]) (hR _ _ ZP))) ?_;rintro ⟨⟩ -)
 rw [show decide (([0,2]:List Int)=[0,2])=true by decide]
 refine Zo J (Zq J J (Zla ?_))
 refine Zq J J ?_
 (refine ZD J (fun w B' hB hR hS'=>elide_Free hS' twoP _ (two_K (A:=A2) (rdr_C (hR _ _ ZP) hB) (by decide)) two_small B.e) ?_;rintro ⟨A9,c9⟩ -)
 rw [two_ch1]
 refine Zq J J ?_
 refine oBuildSliceF (Parts.cons J (Parts.cons J (Parts.cons J (Parts.cons J Parts.nil)))) J J J J J (Fulls.cons ZP J (Fulls.cons ZP J (Fulls.cons ZP J (Fulls.cons ZP J Fulls.nil ap) ap) ap) ap) (fun b10=>?_)
 refine oConv (blk_row (enc:=Value.bool) (h1:=fun _=>J) (W:=B.e) (xs:=([true,true,false,false]:List Bool)) (n:=4) ZP J J (by decide)) ?_
 refine Zq J J ?_
 (refine ZD J (fun w B' hB hR hS'=>ref01_Bools hS' [true,true,false,false] A9 c9 (row_Cs (W:=B.e) (e:=4) (A:=A9) (n:=twoP.fFuns.length) (cp:=c9) (xs:=[true,true,false,false]) (hR _ _ ZP)) (some ⟨b10,0,none⟩) 4 (row_Cs (W:=B.e) (e:=4) (A:=(some ⟨b10,0,none⟩)) (n:=4) (cp:=4) (xs:=[true,true,false,false]) (hR _ _ ZP))) ?_;rintro ⟨⟩ -)
 refine Zt J J (Zo J (Zq J J (Zla ?_)))
 refine Zq J J ?_
 (refine ZD J (fun w B' hB hR hS'=>elide_Saved hS' twoP _ (two_K (A:=A2) (rdr_C (hR _ _ ZP) hB) (by decide)) two_small B.e) ?_;rintro ⟨⟩ -)
 rw [two_ch2]
 refine Zq J J (Zy J J (ZS0 (t:=16) (v':=.bool true) J (by simp) ?_))
 refine Zt J J (Zo J (Zq J J (Zla ?_)))
 refine Zq J J ?_
 (refine ZD J (fun w B' hB hR hS'=>elide_Plan hS' twoP _ (two_K (A:=A2) (rdr_C (hR _ _ ZP) hB) (by decide)) two_small B.e) ?_;rintro ⟨⟨K1,k1⟩,⟨L1,l1⟩⟩ -)
 rw [two_keep,two_chk]
 refine Zq J J ?_
 refine oBuildSliceF (Parts.cons J (Parts.cons J (Parts.cons J (Parts.cons J Parts.nil)))) J J J J J (Fulls.cons ZP J (Fulls.cons ZP J (Fulls.cons ZP J (Fulls.cons ZP J Fulls.nil ap) ap) ap) ap) (fun b21=>?_)
 refine oConv (blk_row (enc:=Value.bool) (h1:=fun _=>J) (W:=B.e) (xs:=([true,true,true,false]:List Bool)) (n:=4) ZP J J (by decide)) ?_
 refine Zq J J ?_
 refine oBuildSliceF (Parts.cons J (Parts.cons J (Parts.cons J (Parts.cons J Parts.nil)))) J J J J J (Fulls.cons ZP J (Fulls.cons ZP J (Fulls.cons ZP J (Fulls.cons ZP J Fulls.nil ap) ap) ap) ap) (fun b22=>?_)
 refine oConv (blk_row (enc:=Value.int .i64) (h1:=fun _=>J) (W:=B.e) (xs:=([0,0,3,1]:List Int)) (n:=4) ZP J J (by decide)) ?_
 refine Zq J J (oBuild (Parts.cons J (Parts.cons J Parts.nil)) J J (Built.cons (off:=0) (s:=1) J ZP J ZP (Built.cons (off:=1) (s:=1) J ZP J ZP Built.nil)) ?_)
 refine Zq J J ?_
 (refine ZD J (fun w B' hB hR hS'=>ref28_Same hS' [true,true,true,false] [0,0,3,1] K1 L1 (some ⟨b21,0,none⟩) (some ⟨b22,0,none⟩) 4 4 k1 l1 4 4 rfl rfl (row_Cs (W:=B.e) (e:=4) (A:=K1) (n:=twoP.fFuns.length) (cp:=k1) (xs:=[true,true,true,false]) (hR _ _ ZP)) (row_Cs (W:=B.e) (e:=3) (A:=L1) (n:=twoP.fFuns.length) (cp:=l1) (xs:=[0,0,3,1]) (hR _ _ ZP)) (row_Cs (W:=B.e) (e:=4) (A:=(some ⟨b21,0,none⟩)) (n:=4) (cp:=4) (xs:=[true,true,true,false]) (hR _ _ ZP)) (row_Cs (W:=B.e) (e:=3) (A:=(some ⟨b22,0,none⟩)) (n:=4) (cp:=4) (xs:=[0,0,3,1]) (hR _ _ ZP))) ?_;rintro ⟨⟩ -)
 refine Zt J J (Zza ?_)
 exact ⟨(),trivial,rfl,Lh⟩
theorem law31_few {B:Base}{w:World}(hS:St B [] w) (A:Option Addr) (cp:Nat) (l:List ApiObject) (W0:World) (hW:Grow W0 B.e) (hC0:kApiObject.C W0 A l) (hv:∀ o ∈ l,vApiObject o) :
 CW 49 #[.slice A l.length cp] w (Ret B (fun z:PZ×Int×Bool=>z.1.ok∧(z.2.2=true→SmallP (z.1.prog z.2.1)∧z.1.prog z.2.1=bindP l mainS∧(bindR l mainS).1=0)) (fun z=>.tuple #[.agg (z.1.cells z.2.1).toArray,.bool z.2.2]) (fun z=>[row kFunT W0 49 (.slice z.1.Af z.1.ft.length z.1.cf) z.1.ft,bun (rws (Kd.int .i64) W0 3 (z.1.ft.map hdT) z.1.fr),row kDatT W0 98 (.slice z.1.Ad z.1.dt.length z.1.cd) z.1.dt,bun (rws (Kd.int .i64) W0 3 (z.1.dt.map hdT) z.1.dr)])):=by
 have hC:=Kd.C_grow hW hC0
 refine ZX Tryz.func49 hS ?_
 refine Zh (Zi (oAlloc J ZP (fun b2=>?_)))
 refine Zp J (Zn (Za (Zh (Zh (Zi (Zo J ?_))))))
 (refine ZC0 rfl ZK (fun w hS=>frame hS ZQ (fun B' hB hS'=>ref24_Few hS' A cp l (Kd.C_grow hB hC))) ?_;rintro r7 h7)
 refine Zno ?_
 refine Zn (Za (wC (fun h8=>?_) (fun h8=>?_)))
 refine Zh (Zi (oBuild Parts.nil J J Built.nil (Zsa ?_)))
 refine Zp J (Zn (Za (Zl (Zc (Zw (ZI2 ?_))))))
 exact ⟨(⟨none,0,[],[],none,0,[],[]⟩,0,false),⟨⟨rfl,rfl⟩,fun h=>by cases h⟩,rfl,(Leads.nilrow.trans (bun_nil.trans (Leads.nilrow.trans (bun_nil.trans Lh))))⟩
 have hsm:FewO l:=h7 (by simpa using h8)
 refine Zj (Zzn ?_)
 (refine ZC0 rfl ZK (fun w hS=>frame hS ZQ (fun B' hB hS'=>ref24_Bind hS' A cp l W0 (hW.trans hB) hC0 hv hsm mainS)) ?_;rintro z ⟨hz,hzp⟩)
 obtain ⟨Af,cf,ft,fr,Ad,cd,dt,dr⟩:=z
 have hz1:=hz.f
 have hz3:=hz.d
 dsimp only [PZ.cells] at hz1 hz3 ⊢
 refine Zo J (oExt J ZP ?_)
 refine oExt J ZP ?_
 refine oAlloc J ZP (fun b4=>?_)
 refine oAlloc J ZP (fun b5=>?_)
 refine Zsa ?_
 refine Zsa ?_
 refine Zn (Za (Zh (wDrawN J J (ZM (i:=0) (rs:=[1]) ZK ?_))))
 refine ZA J ?_ ?_
 refine Zla ?_
 refine Z7 (ZM (i:=1) (rs:=[]) ZK ?_)
 refine ZA J ?_ ?_
 refine Zz (n:=0) (m:=0) J J J (Z7 (ZM (i:=2) (rs:=[]) ZK ?_))
 refine ZA J ?_ ?_
 refine Zld ?_
 refine Z7 (ZM (i:=3) (rs:=[]) ZK ?_)
 refine ZA J ?_ ?_
 refine Zy J J (Z7 (ZM (i:=4) (rs:=[]) ZK ?_))
 refine ZA J ?_ ?_
 refine Zo J (Z7 (ZM (i:=5) (rs:=[]) ZK ?_))
 refine ZA J ?_ ?_
 refine ZS (ZT 19) (fun h19=>?_) (fun h19=>?_)
 refine Zq J J (Zla ?_)
 refine Z7 (ZM (i:=6) (rs:=[]) ZK ?_)
 refine ZA J ?_ ?_
 refine Zq J J ?_
 (refine ZD J (fun w B' hB hR hS'=>ref25_Few hS' (bindP l mainS) _ (by have h:=prog_K (z:=⟨Af,cf,ft,fr,Ad,cd,dt,dr⟩) hz (hR _ _ ZP) (hR _ _ ZP) (hR _ _ ZP) (hR _ _ ZP) (hW.trans hB) (bindP l mainS).fEntry;rw [hzp] at h;exact h)) ?_;rintro r28 h28)
 refine Z7 (ZM (i:=7) (rs:=[8]) ZK ?_)
 refine ZA J ?_ ?_
 refine Zt J J (Z7 (ZM (i:=8) (rs:=[]) ZK ?_))
 refine ZA J ?_ ?_
 refine Zsa ?_
 refine Z7 (ZM (i:=9) (rs:=[]) ZK ?_)
 refine ZA J ?_ ?_
 refine Zp J (Z7 (anNil ZK ?_))
 refine Za (Zzw ?_)
 exact ⟨(⟨Af,cf,ft,fr,Ad,cd,dt,dr⟩,(bindP l mainS).fEntry,r28),⟨hz,fun h=>⟨by rw [hzp];exact h28 h,hzp,by first | exact h19 | exact of_decide_eq_true h19 | simpa using h19⟩⟩,rfl,Lh⟩
 exact ZB
 exact ZB
 refine ZA J ?_ ?_
 refine Zsa ?_
 refine Z7 (ZM (i:=7) (rs:=[]) ZK ?_)
 refine ZA J ?_ ?_
 refine Zt J J (Z7 (ZM (i:=9) (rs:=[]) ZK ?_))
 refine ZA J ?_ ?_
 refine Zp J (Z7 (anNil ZK ?_))
 refine Za (Zzw ?_)
 exact ⟨(⟨Af,cf,ft,fr,Ad,cd,dt,dr⟩,(bindP l mainS).fEntry,r28),⟨hz,fun h=>⟨by rw [hzp];exact h28 h,hzp,by first | exact h19 | exact of_decide_eq_true h19 | simpa using h19⟩⟩,rfl,Lh⟩
 exact ZB
 exact ZB
 exact ZB
 exact ZB
 refine Zr J J J J (Z7 (ZM (i:=6) (rs:=[]) ZK ?_))
 refine ZA J ?_ ?_
 refine Zr J J J J (Z7 (ZM (i:=7) (rs:=[8]) ZK ?_))
 refine ZA J ?_ ?_
 refine Zu J J (Z7 (ZM (i:=8) (rs:=[]) ZK ?_))
 refine ZA J ?_ ?_
 refine Zsa ?_
 refine Z7 (ZM (i:=9) (rs:=[]) ZK ?_)
 refine ZA J ?_ ?_
 refine Zp J (Z7 (anNil ZK ?_))
 refine Za (Zzw ?_)
 exact ⟨(⟨Af,cf,ft,fr,Ad,cd,dt,dr⟩,(bindP l mainS).fEntry,false),⟨hz,fun h=>by cases h⟩,rfl,Lh⟩
 exact ZB
 exact ZB
 refine ZA J ?_ ?_
 refine Zsa ?_
 refine Z7 (ZM (i:=7) (rs:=[]) ZK ?_)
 refine ZA J ?_ ?_
 refine Zu J J (Z7 (ZM (i:=9) (rs:=[]) ZK ?_))
 refine ZA J ?_ ?_
 refine Zp J (Z7 (anNil ZK ?_))
 refine Za (Zzw ?_)
 exact ⟨(⟨Af,cf,ft,fr,Ad,cd,dt,dr⟩,(bindP l mainS).fEntry,false),⟨hz,fun h=>by cases h⟩,rfl,Lh⟩
 exact ZB
 exact ZB
 exact ZB
 exact ZB
 exact ZB
 exact ZB
 exact ZB
 exact ZB
 exact ZB
 refine ZA J ?_ ?_
 refine Zz (n:=0) (m:=0) J J J (Z7 (ZM (i:=0) (rs:=[2]) ZK ?_))
 refine ZA J ?_ ?_
 refine Zla ?_
 refine Z7 (ZM (i:=2) (rs:=[]) ZK ?_)
 refine ZA J ?_ ?_
 refine Zld ?_
 refine Z7 (ZM (i:=3) (rs:=[]) ZK ?_)
 refine ZA J ?_ ?_
 refine Zy J J (Z7 (ZM (i:=4) (rs:=[]) ZK ?_))
 refine ZA J ?_ ?_
 refine Zo J (Z7 (ZM (i:=5) (rs:=[]) ZK ?_))
 refine ZA J ?_ ?_
 refine ZS (ZT 19) (fun h19=>?_) (fun h19=>?_)
 refine Zq J J (Zla ?_)
 refine Z7 (ZM (i:=6) (rs:=[]) ZK ?_)
 refine ZA J ?_ ?_
 refine Zq J J ?_
 (refine ZD J (fun w B' hB hR hS'=>ref25_Few hS' (bindP l mainS) _ (by have h:=prog_K (z:=⟨Af,cf,ft,fr,Ad,cd,dt,dr⟩) hz (hR _ _ ZP) (hR _ _ ZP) (hR _ _ ZP) (hR _ _ ZP) (hW.trans hB) (bindP l mainS).fEntry;rw [hzp] at h;exact h)) ?_;rintro r28 h28)
 refine Z7 (ZM (i:=7) (rs:=[8]) ZK ?_)
 refine ZA J ?_ ?_
 refine Zt J J (Z7 (ZM (i:=8) (rs:=[]) ZK ?_))
 refine ZA J ?_ ?_
 refine Zsa ?_
 refine Z7 (ZM (i:=9) (rs:=[]) ZK ?_)
 refine ZA J ?_ ?_
 refine Zp J (Z7 (anNil ZK ?_))
 refine Za (Zzw ?_)
 exact ⟨(⟨Af,cf,ft,fr,Ad,cd,dt,dr⟩,(bindP l mainS).fEntry,r28),⟨hz,fun h=>⟨by rw [hzp];exact h28 h,hzp,by first | exact h19 | exact of_decide_eq_true h19 | simpa using h19⟩⟩,rfl,Lh⟩
 exact ZB
 exact ZB
 refine ZA J ?_ ?_
 refine Zsa ?_
 refine Z7 (ZM (i:=7) (rs:=[]) ZK ?_)
 refine ZA J ?_ ?_
 refine Zt J J (Z7 (ZM (i:=9) (rs:=[]) ZK ?_))
 refine ZA J ?_ ?_
 refine Zp J (Z7 (anNil ZK ?_))
 refine Za (Zzw ?_)
 exact ⟨(⟨Af,cf,ft,fr,Ad,cd,dt,dr⟩,(bindP l mainS).fEntry,r28),⟨hz,fun h=>⟨by rw [hzp];exact h28 h,hzp,by first | exact h19 | exact of_decide_eq_true h19 | simpa using h19⟩⟩,rfl,Lh⟩
 exact ZB
 exact ZB
 exact ZB
 exact ZB
 refine Zr J J J J (Z7 (ZM (i:=6) (rs:=[]) ZK ?_))
 refine ZA J ?_ ?_
 refine Zr J J J J (Z7 (ZM (i:=7) (rs:=[8]) ZK ?_))
 refine ZA J ?_ ?_
 refine Zu J J (Z7 (ZM (i:=8) (rs:=[]) ZK ?_))
 refine ZA J ?_ ?_
 refine Zsa ?_
 refine Z7 (ZM (i:=9) (rs:=[]) ZK ?_)
 refine ZA J ?_ ?_
 refine Zp J (Z7 (anNil ZK ?_))
 refine Za (Zzw ?_)
 exact ⟨(⟨Af,cf,ft,fr,Ad,cd,dt,dr⟩,(bindP l mainS).fEntry,false),⟨hz,fun h=>by cases h⟩,rfl,Lh⟩
 exact ZB
 exact ZB
 refine ZA J ?_ ?_
 refine Zsa ?_
 refine Z7 (ZM (i:=7) (rs:=[]) ZK ?_)
 refine ZA J ?_ ?_
 refine Zu J J (Z7 (ZM (i:=9) (rs:=[]) ZK ?_))
 refine ZA J ?_ ?_
 refine Zp J (Z7 (anNil ZK ?_))
 refine Za (Zzw ?_)
 exact ⟨(⟨Af,cf,ft,fr,Ad,cd,dt,dr⟩,(bindP l mainS).fEntry,false),⟨hz,fun h=>by cases h⟩,rfl,Lh⟩
 exact ZB
 exact ZB
 exact ZB
 exact ZB
 exact ZB
 exact ZB
 exact ZB
 exact ZB
 refine ZA J ?_ ?_
 refine Zld ?_
 refine Z7 (ZM (i:=0) (rs:=[3]) ZK ?_)
 refine ZA J ?_ ?_
 refine Zla ?_
 refine Z7 (ZM (i:=3) (rs:=[]) ZK ?_)
 refine ZA J ?_ ?_
 refine Zy J J (Z7 (ZM (i:=4) (rs:=[]) ZK ?_))
 refine ZA J ?_ ?_
 refine Zo J (Z7 (ZM (i:=5) (rs:=[]) ZK ?_))
 refine ZA J ?_ ?_
 refine ZS (ZT 19) (fun h19=>?_) (fun h19=>?_)
 refine Zq J J (Zla ?_)
 refine Z7 (ZM (i:=6) (rs:=[]) ZK ?_)
 refine ZA J ?_ ?_
 refine Zq J J ?_
 (refine ZD J (fun w B' hB hR hS'=>ref25_Few hS' (bindP l mainS) _ (by have h:=prog_K (z:=⟨Af,cf,ft,fr,Ad,cd,dt,dr⟩) hz (hR _ _ ZP) (hR _ _ ZP) (hR _ _ ZP) (hR _ _ ZP) (hW.trans hB) (bindP l mainS).fEntry;rw [hzp] at h;exact h)) ?_;rintro r28 h28)
 refine Z7 (ZM (i:=7) (rs:=[8]) ZK ?_)
 refine ZA J ?_ ?_
 refine Zt J J (Z7 (ZM (i:=8) (rs:=[]) ZK ?_))
 refine ZA J ?_ ?_
 refine Zsa ?_
 refine Z7 (ZM (i:=9) (rs:=[]) ZK ?_)
 refine ZA J ?_ ?_
 refine Zp J (Z7 (anNil ZK ?_))
 refine Za (Zzw ?_)
 exact ⟨(⟨Af,cf,ft,fr,Ad,cd,dt,dr⟩,(bindP l mainS).fEntry,r28),⟨hz,fun h=>⟨by rw [hzp];exact h28 h,hzp,by first | exact h19 | exact of_decide_eq_true h19 | simpa using h19⟩⟩,rfl,Lh⟩
 exact ZB
 exact ZB
 refine ZA J ?_ ?_
 refine Zsa ?_
 refine Z7 (ZM (i:=7) (rs:=[]) ZK ?_)
 refine ZA J ?_ ?_
 refine Zt J J (Z7 (ZM (i:=9) (rs:=[]) ZK ?_))
 refine ZA J ?_ ?_
 refine Zp J (Z7 (anNil ZK ?_))
 refine Za (Zzw ?_)
 exact ⟨(⟨Af,cf,ft,fr,Ad,cd,dt,dr⟩,(bindP l mainS).fEntry,r28),⟨hz,fun h=>⟨by rw [hzp];exact h28 h,hzp,by first | exact h19 | exact of_decide_eq_true h19 | simpa using h19⟩⟩,rfl,Lh⟩
 exact ZB
 exact ZB
 exact ZB
 exact ZB
 refine Zr J J J J (Z7 (ZM (i:=6) (rs:=[]) ZK ?_))
 refine ZA J ?_ ?_
 refine Zr J J J J (Z7 (ZM (i:=7) (rs:=[8]) ZK ?_))
 refine ZA J ?_ ?_
 refine Zu J J (Z7 (ZM (i:=8) (rs:=[]) ZK ?_))
 refine ZA J ?_ ?_
 refine Zsa ?_
 refine Z7 (ZM (i:=9) (rs:=[]) ZK ?_)
 refine ZA J ?_ ?_
 refine Zp J (Z7 (anNil ZK ?_))
 refine Za (Zzw ?_)
 exact ⟨(⟨Af,cf,ft,fr,Ad,cd,dt,dr⟩,(bindP l mainS).fEntry,false),⟨hz,fun h=>by cases h⟩,rfl,Lh⟩
 exact ZB
 exact ZB
 refine ZA J ?_ ?_
 refine Zsa ?_
 refine Z7 (ZM (i:=7) (rs:=[]) ZK ?_)
 refine ZA J ?_ ?_
 refine Zu J J (Z7 (ZM (i:=9) (rs:=[]) ZK ?_))
 refine ZA J ?_ ?_
 refine Zp J (Z7 (anNil ZK ?_))
 refine Za (Zzw ?_)
 exact ⟨(⟨Af,cf,ft,fr,Ad,cd,dt,dr⟩,(bindP l mainS).fEntry,false),⟨hz,fun h=>by cases h⟩,rfl,Lh⟩
 exact ZB
 exact ZB
 exact ZB
 exact ZB
 exact ZB
 exact ZB
 exact ZB
 refine ZA J ?_ ?_
 refine Zy J J (Z7 (ZM (i:=0) (rs:=[4]) ZK ?_))
 refine ZA J ?_ ?_
 refine Zla ?_
 refine Z7 (ZM (i:=4) (rs:=[]) ZK ?_)
 refine ZA J ?_ ?_
 refine Zo J (Z7 (ZM (i:=5) (rs:=[]) ZK ?_))
 refine ZA J ?_ ?_
 refine ZS (ZT 19) (fun h19=>?_) (fun h19=>?_)
 refine Zq J J (Zla ?_)
 refine Z7 (ZM (i:=6) (rs:=[]) ZK ?_)
 refine ZA J ?_ ?_
 refine Zq J J ?_
 (refine ZD J (fun w B' hB hR hS'=>ref25_Few hS' (bindP l mainS) _ (by have h:=prog_K (z:=⟨Af,cf,ft,fr,Ad,cd,dt,dr⟩) hz (hR _ _ ZP) (hR _ _ ZP) (hR _ _ ZP) (hR _ _ ZP) (hW.trans hB) (bindP l mainS).fEntry;rw [hzp] at h;exact h)) ?_;rintro r28 h28)
 refine Z7 (ZM (i:=7) (rs:=[8]) ZK ?_)
 refine ZA J ?_ ?_
 refine Zt J J (Z7 (ZM (i:=8) (rs:=[]) ZK ?_))
 refine ZA J ?_ ?_
 refine Zsa ?_
 refine Z7 (ZM (i:=9) (rs:=[]) ZK ?_)
 refine ZA J ?_ ?_
 refine Zp J (Z7 (anNil ZK ?_))
 refine Za (Zzw ?_)
 exact ⟨(⟨Af,cf,ft,fr,Ad,cd,dt,dr⟩,(bindP l mainS).fEntry,r28),⟨hz,fun h=>⟨by rw [hzp];exact h28 h,hzp,by first | exact h19 | exact of_decide_eq_true h19 | simpa using h19⟩⟩,rfl,Lh⟩
 exact ZB
 exact ZB
 refine ZA J ?_ ?_
 refine Zsa ?_
 refine Z7 (ZM (i:=7) (rs:=[]) ZK ?_)
 refine ZA J ?_ ?_
 refine Zt J J (Z7 (ZM (i:=9) (rs:=[]) ZK ?_))
 refine ZA J ?_ ?_
 refine Zp J (Z7 (anNil ZK ?_))
 refine Za (Zzw ?_)
 exact ⟨(⟨Af,cf,ft,fr,Ad,cd,dt,dr⟩,(bindP l mainS).fEntry,r28),⟨hz,fun h=>⟨by rw [hzp];exact h28 h,hzp,by first | exact h19 | exact of_decide_eq_true h19 | simpa using h19⟩⟩,rfl,Lh⟩
 exact ZB
 exact ZB
 exact ZB
 exact ZB
 refine Zr J J J J (Z7 (ZM (i:=6) (rs:=[]) ZK ?_))
 refine ZA J ?_ ?_
 refine Zr J J J J (Z7 (ZM (i:=7) (rs:=[8]) ZK ?_))
 refine ZA J ?_ ?_
 refine Zu J J (Z7 (ZM (i:=8) (rs:=[]) ZK ?_))
 refine ZA J ?_ ?_
 refine Zsa ?_
 refine Z7 (ZM (i:=9) (rs:=[]) ZK ?_)
 refine ZA J ?_ ?_
 refine Zp J (Z7 (anNil ZK ?_))
 refine Za (Zzw ?_)
 exact ⟨(⟨Af,cf,ft,fr,Ad,cd,dt,dr⟩,(bindP l mainS).fEntry,false),⟨hz,fun h=>by cases h⟩,rfl,Lh⟩
 exact ZB
 exact ZB
 refine ZA J ?_ ?_
 refine Zsa ?_
 refine Z7 (ZM (i:=7) (rs:=[]) ZK ?_)
 refine ZA J ?_ ?_
 refine Zu J J (Z7 (ZM (i:=9) (rs:=[]) ZK ?_))
 refine ZA J ?_ ?_
 refine Zp J (Z7 (anNil ZK ?_))
 refine Za (Zzw ?_)
 exact ⟨(⟨Af,cf,ft,fr,Ad,cd,dt,dr⟩,(bindP l mainS).fEntry,false),⟨hz,fun h=>by cases h⟩,rfl,Lh⟩
 exact ZB
 exact ZB
 exact ZB
 exact ZB
 exact ZB
 exact ZB
 refine ZA J ?_ ?_
 refine Zo J (Z7 (ZM (i:=0) (rs:=[5]) ZK ?_))
 refine ZA J ?_ ?_
 refine Zla ?_
 refine Z7 (ZM (i:=5) (rs:=[]) ZK ?_)
 refine ZA J ?_ ?_
 refine ZS (ZT 19) (fun h19=>?_) (fun h19=>?_)
 refine Zq J J (Zla ?_)
 refine Z7 (ZM (i:=6) (rs:=[]) ZK ?_)
 refine ZA J ?_ ?_
 refine Zq J J ?_
 (refine ZD J (fun w B' hB hR hS'=>ref25_Few hS' (bindP l mainS) _ (by have h:=prog_K (z:=⟨Af,cf,ft,fr,Ad,cd,dt,dr⟩) hz (hR _ _ ZP) (hR _ _ ZP) (hR _ _ ZP) (hR _ _ ZP) (hW.trans hB) (bindP l mainS).fEntry;rw [hzp] at h;exact h)) ?_;rintro r28 h28)
 refine Z7 (ZM (i:=7) (rs:=[8]) ZK ?_)
 refine ZA J ?_ ?_
 refine Zt J J (Z7 (ZM (i:=8) (rs:=[]) ZK ?_))
 refine ZA J ?_ ?_
 refine Zsa ?_
 refine Z7 (ZM (i:=9) (rs:=[]) ZK ?_)
 refine ZA J ?_ ?_
 refine Zp J (Z7 (anNil ZK ?_))
 refine Za (Zzw ?_)
 exact ⟨(⟨Af,cf,ft,fr,Ad,cd,dt,dr⟩,(bindP l mainS).fEntry,r28),⟨hz,fun h=>⟨by rw [hzp];exact h28 h,hzp,by first | exact h19 | exact of_decide_eq_true h19 | simpa using h19⟩⟩,rfl,Lh⟩
 exact ZB
 exact ZB
 refine ZA J ?_ ?_
 refine Zsa ?_
 refine Z7 (ZM (i:=7) (rs:=[]) ZK ?_)
 refine ZA J ?_ ?_
 refine Zt J J (Z7 (ZM (i:=9) (rs:=[]) ZK ?_))
 refine ZA J ?_ ?_
 refine Zp J (Z7 (anNil ZK ?_))
 refine Za (Zzw ?_)
 exact ⟨(⟨Af,cf,ft,fr,Ad,cd,dt,dr⟩,(bindP l mainS).fEntry,r28),⟨hz,fun h=>⟨by rw [hzp];exact h28 h,hzp,by first | exact h19 | exact of_decide_eq_true h19 | simpa using h19⟩⟩,rfl,Lh⟩
 exact ZB
 exact ZB
 exact ZB
 exact ZB
 refine Zr J J J J (Z7 (ZM (i:=6) (rs:=[]) ZK ?_))
 refine ZA J ?_ ?_
 refine Zr J J J J (Z7 (ZM (i:=7) (rs:=[8]) ZK ?_))
 refine ZA J ?_ ?_
 refine Zu J J (Z7 (ZM (i:=8) (rs:=[]) ZK ?_))
 refine ZA J ?_ ?_
 refine Zsa ?_
 refine Z7 (ZM (i:=9) (rs:=[]) ZK ?_)
 refine ZA J ?_ ?_
 refine Zp J (Z7 (anNil ZK ?_))
 refine Za (Zzw ?_)
 exact ⟨(⟨Af,cf,ft,fr,Ad,cd,dt,dr⟩,(bindP l mainS).fEntry,false),⟨hz,fun h=>by cases h⟩,rfl,Lh⟩
 exact ZB
 exact ZB
 refine ZA J ?_ ?_
 refine Zsa ?_
 refine Z7 (ZM (i:=7) (rs:=[]) ZK ?_)
 refine ZA J ?_ ?_
 refine Zu J J (Z7 (ZM (i:=9) (rs:=[]) ZK ?_))
 refine ZA J ?_ ?_
 refine Zp J (Z7 (anNil ZK ?_))
 refine Za (Zzw ?_)
 exact ⟨(⟨Af,cf,ft,fr,Ad,cd,dt,dr⟩,(bindP l mainS).fEntry,false),⟨hz,fun h=>by cases h⟩,rfl,Lh⟩
 exact ZB
 exact ZB
 exact ZB
 exact ZB
 exact ZB
 refine ZA J ?_ ?_
 refine ZS (ZT 19) (fun h19=>?_) (fun h19=>?_)
 refine Zq J J (Zla ?_)
 refine Z7 (ZM (i:=0) (rs:=[6]) ZK ?_)
 refine ZA J ?_ ?_
 refine Zla ?_
 refine Z7 (ZM (i:=6) (rs:=[]) ZK ?_)
 refine ZA J ?_ ?_
 refine Zq J J ?_
 (refine ZD J (fun w B' hB hR hS'=>ref25_Few hS' (bindP l mainS) _ (by have h:=prog_K (z:=⟨Af,cf,ft,fr,Ad,cd,dt,dr⟩) hz (hR _ _ ZP) (hR _ _ ZP) (hR _ _ ZP) (hR _ _ ZP) (hW.trans hB) (bindP l mainS).fEntry;rw [hzp] at h;exact h)) ?_;rintro r28 h28)
 refine Z7 (ZM (i:=7) (rs:=[8]) ZK ?_)
 refine ZA J ?_ ?_
 refine Zt J J (Z7 (ZM (i:=8) (rs:=[]) ZK ?_))
 refine ZA J ?_ ?_
 refine Zsa ?_
 refine Z7 (ZM (i:=9) (rs:=[]) ZK ?_)
 refine ZA J ?_ ?_
 refine Zp J (Z7 (anNil ZK ?_))
 refine Za (Zzw ?_)
 exact ⟨(⟨Af,cf,ft,fr,Ad,cd,dt,dr⟩,(bindP l mainS).fEntry,r28),⟨hz,fun h=>⟨by rw [hzp];exact h28 h,hzp,by first | exact h19 | exact of_decide_eq_true h19 | simpa using h19⟩⟩,rfl,Lh⟩
 exact ZB
 exact ZB
 refine ZA J ?_ ?_
 refine Zsa ?_
 refine Z7 (ZM (i:=7) (rs:=[]) ZK ?_)
 refine ZA J ?_ ?_
 refine Zt J J (Z7 (ZM (i:=9) (rs:=[]) ZK ?_))
 refine ZA J ?_ ?_
 refine Zp J (Z7 (anNil ZK ?_))
 refine Za (Zzw ?_)
 exact ⟨(⟨Af,cf,ft,fr,Ad,cd,dt,dr⟩,(bindP l mainS).fEntry,r28),⟨hz,fun h=>⟨by rw [hzp];exact h28 h,hzp,by first | exact h19 | exact of_decide_eq_true h19 | simpa using h19⟩⟩,rfl,Lh⟩
 exact ZB
 exact ZB
 exact ZB
 exact ZB
 refine ZA J ?_ ?_
 refine Zq J J ?_
 (refine ZD J (fun w B' hB hR hS'=>ref25_Few hS' (bindP l mainS) _ (by have h:=prog_K (z:=⟨Af,cf,ft,fr,Ad,cd,dt,dr⟩) hz (hR _ _ ZP) (hR _ _ ZP) (hR _ _ ZP) (hR _ _ ZP) (hW.trans hB) (bindP l mainS).fEntry;rw [hzp] at h;exact h)) ?_;rintro r28 h28)
 refine Z7 (ZM (i:=0) (rs:=[7]) ZK ?_)
 refine ZA J ?_ ?_
 refine Zla ?_
 refine Z7 (ZM (i:=7) (rs:=[8]) ZK ?_)
 refine ZA J ?_ ?_
 refine Zt J J (Z7 (ZM (i:=8) (rs:=[]) ZK ?_))
 refine ZA J ?_ ?_
 refine Zsa ?_
 refine Z7 (ZM (i:=9) (rs:=[]) ZK ?_)
 refine ZA J ?_ ?_
 refine Zp J (Z7 (anNil ZK ?_))
 refine Za (Zzw ?_)
 exact ⟨(⟨Af,cf,ft,fr,Ad,cd,dt,dr⟩,(bindP l mainS).fEntry,r28),⟨hz,fun h=>⟨by rw [hzp];exact h28 h,hzp,by first | exact h19 | exact of_decide_eq_true h19 | simpa using h19⟩⟩,rfl,Lh⟩
 exact ZB
 exact ZB
 refine ZA J ?_ ?_
 refine Zsa ?_
 refine Z7 (ZM (i:=7) (rs:=[]) ZK ?_)
 refine ZA J ?_ ?_
 refine Zt J J (Z7 (ZM (i:=9) (rs:=[]) ZK ?_))
 refine ZA J ?_ ?_
 refine Zp J (Z7 (anNil ZK ?_))
 refine Za (Zzw ?_)
 exact ⟨(⟨Af,cf,ft,fr,Ad,cd,dt,dr⟩,(bindP l mainS).fEntry,r28),⟨hz,fun h=>⟨by rw [hzp];exact h28 h,hzp,by first | exact h19 | exact of_decide_eq_true h19 | simpa using h19⟩⟩,rfl,Lh⟩
 exact ZB
 exact ZB
 exact ZB
 refine ZA J ?_ ?_
 refine Zt J J (Z7 (ZM (i:=0) (rs:=[]) ZK ?_))
 refine ZA J ?_ ?_
 refine Zla ?_
 refine Z7 (ZM (i:=8) (rs:=[]) ZK ?_)
 refine ZA J ?_ ?_
 refine Zsa ?_
 refine Z7 (ZM (i:=9) (rs:=[]) ZK ?_)
 refine ZA J ?_ ?_
 refine Zp J (Z7 (anNil ZK ?_))
 refine Za (Zzw ?_)
 exact ⟨(⟨Af,cf,ft,fr,Ad,cd,dt,dr⟩,(bindP l mainS).fEntry,r28),⟨hz,fun h=>⟨by rw [hzp];exact h28 h,hzp,by first | exact h19 | exact of_decide_eq_true h19 | simpa using h19⟩⟩,rfl,Lh⟩
 exact ZB
 exact ZB
 exact ZB
 exact ZB
 exact ZB
 refine Zr J J J J (Z7 (ZM (i:=0) (rs:=[6]) ZK ?_))
 refine ZA J ?_ ?_
 refine Zla ?_
 refine Z7 (ZM (i:=6) (rs:=[]) ZK ?_)
 refine ZA J ?_ ?_
 refine Zr J J J J (Z7 (ZM (i:=7) (rs:=[8]) ZK ?_))
 refine ZA J ?_ ?_
 refine Zu J J (Z7 (ZM (i:=8) (rs:=[]) ZK ?_))
 refine ZA J ?_ ?_
 refine Zsa ?_
 refine Z7 (ZM (i:=9) (rs:=[]) ZK ?_)
 refine ZA J ?_ ?_
 refine Zp J (Z7 (anNil ZK ?_))
 refine Za (Zzw ?_)
 exact ⟨(⟨Af,cf,ft,fr,Ad,cd,dt,dr⟩,(bindP l mainS).fEntry,false),⟨hz,fun h=>by cases h⟩,rfl,Lh⟩
 exact ZB
 exact ZB
 refine ZA J ?_ ?_
 refine Zsa ?_
 refine Z7 (ZM (i:=7) (rs:=[]) ZK ?_)
 refine ZA J ?_ ?_
 refine Zu J J (Z7 (ZM (i:=9) (rs:=[]) ZK ?_))
 refine ZA J ?_ ?_
 refine Zp J (Z7 (anNil ZK ?_))
 refine Za (Zzw ?_)
 exact ⟨(⟨Af,cf,ft,fr,Ad,cd,dt,dr⟩,(bindP l mainS).fEntry,false),⟨hz,fun h=>by cases h⟩,rfl,Lh⟩
 exact ZB
 exact ZB
 exact ZB
 exact ZB
 refine ZA J ?_ ?_
 refine Zr J J J J (Z7 (ZM (i:=0) (rs:=[7]) ZK ?_))
 refine ZA J ?_ ?_
 refine Zla ?_
 refine Z7 (ZM (i:=7) (rs:=[8]) ZK ?_)
 refine ZA J ?_ ?_
 refine Zu J J (Z7 (ZM (i:=8) (rs:=[]) ZK ?_))
 refine ZA J ?_ ?_
 refine Zsa ?_
 refine Z7 (ZM (i:=9) (rs:=[]) ZK ?_)
 refine ZA J ?_ ?_
 refine Zp J (Z7 (anNil ZK ?_))
 refine Za (Zzw ?_)
 exact ⟨(⟨Af,cf,ft,fr,Ad,cd,dt,dr⟩,(bindP l mainS).fEntry,false),⟨hz,fun h=>by cases h⟩,rfl,Lh⟩
 exact ZB
 exact ZB
 refine ZA J ?_ ?_
 refine Zsa ?_
 refine Z7 (ZM (i:=7) (rs:=[]) ZK ?_)
 refine ZA J ?_ ?_
 refine Zu J J (Z7 (ZM (i:=9) (rs:=[]) ZK ?_))
 refine ZA J ?_ ?_
 refine Zp J (Z7 (anNil ZK ?_))
 refine Za (Zzw ?_)
 exact ⟨(⟨Af,cf,ft,fr,Ad,cd,dt,dr⟩,(bindP l mainS).fEntry,false),⟨hz,fun h=>by cases h⟩,rfl,Lh⟩
 exact ZB
 exact ZB
 exact ZB
 refine ZA J ?_ ?_
 refine Zu J J (Z7 (ZM (i:=0) (rs:=[]) ZK ?_))
 refine ZA J ?_ ?_
 refine Zla ?_
 refine Z7 (ZM (i:=8) (rs:=[]) ZK ?_)
 refine ZA J ?_ ?_
 refine Zsa ?_
 refine Z7 (ZM (i:=9) (rs:=[]) ZK ?_)
 refine ZA J ?_ ?_
 refine Zp J (Z7 (anNil ZK ?_))
 refine Za (Zzw ?_)
 exact ⟨(⟨Af,cf,ft,fr,Ad,cd,dt,dr⟩,(bindP l mainS).fEntry,false),⟨hz,fun h=>by cases h⟩,rfl,Lh⟩
 exact ZB
 exact ZB
 exact ZB
 exact ZB
 exact ZB
 exact ZB
 exact ZB
 exact ZB
 exact ZB
 exact ZB
theorem like_mem {α β:Type}{m:α→List Int→β}{ts:List α}{rs rs2:List (List Int)}(h:rs2.map List.length=rs.map List.length) {y:β}(hy:y ∈ List.zipWith m ts rs2):∃ t r r2,y=m t r2∧m t r ∈ List.zipWith m ts rs∧r2.length=r.length:=by
 obtain ⟨i,hi⟩:=List.mem_iff_getElem?.1 hy
 rw [List.getElem?_zipWith] at hi
 cases ht:ts[i]? with
 | none=>rw [ht] at hi;cases hi
 | some t=>
  cases hr:rs2[i]? with
  | none=>rw [ht,hr] at hi;cases hi
  | some r2=>
   rw [ht,hr] at hi
   have h2:(rs.map List.length)[i]?=some r2.length:=by rw [← h,List.getElem?_map,hr];rfl
   rw [List.getElem?_map] at h2
   cases hq:rs[i]? with
   | none=>rw [hq] at h2;cases h2
   | some r=>
    rw [hq] at h2
    refine ⟨t,r,r2,(Option.some.inj hi).symm,List.mem_iff_getElem?.2 ⟨i,?_⟩,(Option.some.inj h2).symm⟩
    rw [List.getElem?_zipWith,ht,hq]
theorem small_like {Af Ad:Option Addr}{cf cd:Nat}{ft:List FunT}{fr:List (List Int)}{dt:List DatT}{dr:List (List Int)}{e e2:Int}{z:PZ}(h:SmallP (PZ.prog ⟨Af,cf,ft,fr,Ad,cd,dt,dr⟩ e)) (hz1:ft.length=fr.length) (hz3:dt.length=dr.length) (hz:z.ok) (hl:LikeZ ft fr dt dr z):SmallP (z.prog e2):=by
 obtain ⟨A,c,ft2,fr2,A2,c2,dt2,dr2⟩:=z
 obtain ⟨h1,h2,h3,h4⟩:=hl
 dsimp only at h1 h2 h3 h4
 subst h1
 subst h2
 have hf:=hz.f
 have hd:=hz.d
 dsimp only at hf hd
 refine ⟨?_,?_,fun f hfm=>?_,fun d hdm=>?_⟩
 · have:=h.funs
   rw [show (PZ.prog ⟨Af,cf,ft2,fr,Ad,cd,dt2,dr⟩ e).fFuns=funsOf ft2 fr from rfl,show (funsOf ft2 fr).length=ft2.length from zip_len hz1] at this
   rw [show (PZ.prog ⟨A,c,ft2,fr2,A2,c2,dt2,dr2⟩ e2).fFuns=funsOf ft2 fr2 from rfl,show (funsOf ft2 fr2).length=ft2.length from zip_len hf]
   exact this
 · have:=h.dats
   rw [show (PZ.prog ⟨Af,cf,ft2,fr,Ad,cd,dt2,dr⟩ e).fDats=datsOf dt2 dr from rfl,show (datsOf dt2 dr).length=dt2.length from zip_len hz3] at this
   rw [show (PZ.prog ⟨A,c,ft2,fr2,A2,c2,dt2,dr2⟩ e2).fDats=datsOf dt2 dr2 from rfl,show (datsOf dt2 dr2).length=dt2.length from zip_len hd]
   exact this
 · obtain ⟨t,r,r2,rfl,hm,hr⟩:=like_mem h3 hfm
   have:=h.fn _ hm
   refine ⟨this.1,?_,this.2.2⟩
   show r2.length≤80
   rw [hr];exact this.2.1
 · obtain ⟨t,r,r2,rfl,hm,hr⟩:=like_mem h4 hdm
   have:=h.dt _ hm
   refine ⟨this.1,?_,this.2.2⟩
   show r2.length≤80
   rw [hr];exact this.2.1
theorem elideTells {B:Base}{w:World}(hS:St B [] w) (A:Option Addr) (cp:Nat) (l:List ApiObject) (hC:kApiObject.C B.e A l) (hv:∀ o ∈ l,vApiObject o) (at_:Int×Int) (ac:List Value) (ha:(Kd.pair (Kd.int .i64) (Kd.int .i64)).K B.e at_ ac) (n:Int) (is:Bool) :
 CW 11 #[.slice A l.length cp,.agg ac.toArray,.int .i64 n,.bool is] w (Ret B (fun _:Unit=>True) (fun _=>.bool true) (fun _=>[])):=by
 obtain ⟨x,y⟩:=at_
 obtain ⟨_,_,rfl,rfl,rfl⟩:=ha
 refine ZX Tryz.func11 hS ?_
 refine Zh (Zi (oBox J ZP (fun b5=>?_)))
 refine Zp J (Zn (Zzn ?_))
 (refine ZC0 rfl ZK (fun w hS=>frame hS ZQ (fun B' hB hS'=>law31_few hS' A cp l B.e hB hC hv)) ?_;rintro ⟨z,e,ok⟩ ⟨hz,hzp⟩)
 dsimp only at hz hzp ⊢
 obtain ⟨Af,cf,ft,fr,Ad,cd,dt,dr⟩:=z
 have hz1:=hz.f
 have hz3:=hz.d
 dsimp only [PZ.cells] at hz1 hz3 ⊢
 refine Zo J (oExt J ZP ?_)
 refine oExt J ZP ?_
 refine oAlloc J ZP (fun b9=>?_)
 refine Zsa ?_
 refine Zp J (Zn (Za (Zh (Zh (Zi (Zo J (Zno ?_)))))))
 refine Zn (Za (wC (fun h17=>?_) (fun h17=>?_)))
 refine Zh (Zi ?_)
 (refine ZC0 rfl ZK (fun w hS=>frame hS ZQ (fun B' hB hS'=>known31 hS')) ?_;rintro ⟨⟩ -)
 refine Zp J (Zn (Za (Zl (Zc (Zw (fi1 J ?_))))))
 exact ⟨(),trivial,rfl,Lh⟩
 obtain ⟨hsp0,hpe,hbr⟩:=hzp (by simpa using h17)
 refine Zj (Zzk ?_)
 refine Zla ?_
 refine Zo J (Zo J ?_)
 (refine ZC0 rfl ZK (fun w hS=>frame hS ZQ (fun B' hB hS'=>law_SpoilS Af cf ft fr Ad cd dt dr B.e hS' hz1 hz3 e x y n is)) ?_;rintro ⟨z2,e2⟩ ⟨hz2,hlk⟩)
 dsimp only at hz2 hlk
 have hsp:SmallP (z2.prog e2):=small_like hsp0 hz1 hz3 hz2 hlk
 have hnl:=chN_len (z2.prog e2)
 refine Zsa ?_
 refine Zn (Za (Zh (wDrawG J [0,2] [(1,[2],[]),(3,[],[]),(4,[],[5,6,8]),(7,[8],[]),(9,[],[]),(10,[],[11,12,13,15]),(14,[15],[]),(16,[],[]),(17,[],[18,19,20,22]),(21,[22],[]),(23,[],[24,25,26]),(27,[],[28])] [29] 24 ZK J J (fun w0=>?_))))
 refine Zla ?_
 refine Zla ?_
 refine Z4 (Z5 J ?_)
 (refine ZD J (fun w B' hB hR hS'=>elide_Order hS' (z2.prog e2) _ (prog_K hz2 (hR _ _ ZP) (hR _ _ ZP) (hR _ _ ZP) (hR _ _ ZP) hB e2) hsp B.e) ?_;rintro ⟨A25,c25⟩ -)
 refine ZG ?_ J (fun w0=>?_)
 refine Z8 J J J J (fun w0=>?_) ?_
 refine Zla ?_
 exact Z9 rfl
 exact AgainG.nil
 refine Z4 (Z5 J ?_)
 (refine ZD J (fun w B' hB hR hS'=>ref31_Order hS' (z2.prog e2) _ (prog_K hz2 (hR _ _ ZP) (hR _ _ ZP) (hR _ _ ZP) (hR _ _ ZP) hB e2) hsp B.e) ?_;rintro ⟨A27,c27⟩ -)
 refine ZG ?_ J (fun w0=>?_)
 exact AgainG.nil
 refine Z4 (Z5 J ?_)
 (refine ZD J (fun w B' hB hR hS'=>ints_any hS' A25 c25 (ordN (z2.prog e2)) (row_Cs (W:=B.e) (e:=3) (A:=A25) (n:=(ordN (z2.prog e2)).length) (cp:=c25) (xs:=ordN (z2.prog e2)) (hR _ _ ZP)) A27 c27 (ordN (z2.prog e2)) (row_Cs (W:=B.e) (e:=3) (A:=A27) (n:=(ordN (z2.prog e2)).length) (cp:=c27) (xs:=ordN (z2.prog e2)) (hR _ _ ZP))) ?_;rintro ⟨⟩ -)
 rw [show decide (ordN (z2.prog e2)=ordN (z2.prog e2))=true from decide_eq_true rfl]
 refine ZG ?_ J (fun w0=>?_)
 exact AgainG.nil
 refine Zo J (Zq J J (Zla ?_))
 refine Zq J J (Zla ?_)
 refine Z4 (Z5 J (Zq J J ?_))
 (refine ZD J (fun w B' hB hR hS'=>elide_Free hS' (z2.prog e2) _ (prog_K hz2 (hR _ _ ZP) (hR _ _ ZP) (hR _ _ ZP) (hR _ _ ZP) hB e2) hsp B.e) ?_;rintro ⟨A31,c31⟩ -)
 refine ZG ?_ J (fun w0=>?_)
 refine Z8 J J J J (fun w0=>?_) ?_
 refine Zq J J (Zla ?_)
 exact Z9 rfl
 exact AgainG.nil
 refine Z4 (Z5 J (Zq J J ?_))
 (refine ZD J (fun w B' hB hR hS'=>ref31_Free hS' (z2.prog e2) _ (prog_K hz2 (hR _ _ ZP) (hR _ _ ZP) (hR _ _ ZP) (hR _ _ ZP) hB e2) hsp B.e) ?_;rintro ⟨A33,c33⟩ -)
 refine ZG ?_ J (fun w0=>?_)
 exact AgainG.nil
 refine Z4 (Z5 J (Zq J J ?_))
 (refine ZD J (fun w B' hB hR hS'=>ref01_Bools' hS' (chN (z2.prog e2)).1 (z2.prog e2).fFuns.length hnl A31 c31 (row_Cs (W:=B.e) (e:=4) (A:=A31) (n:=(z2.prog e2).fFuns.length) (cp:=c31) (xs:=(chN (z2.prog e2)).1) (hR _ _ ZP)) A33 c33 (row_Cs (W:=B.e) (e:=4) (A:=A33) (n:=(z2.prog e2).fFuns.length) (cp:=c33) (xs:=(chN (z2.prog e2)).1) (hR _ _ ZP))) ?_;rintro ⟨⟩ -)
 refine ZG ?_ J (fun w0=>?_)
 exact AgainG.nil
 refine Zt J J (Zo J (Zq J J (Zla ?_)))
 refine Zq J J (Zla ?_)
 refine Z4 (Z5 J (Zq J J ?_))
 (refine ZD J (fun w B' hB hR hS'=>elide_Plan hS' (z2.prog e2) _ (prog_K hz2 (hR _ _ ZP) (hR _ _ ZP) (hR _ _ ZP) (hR _ _ ZP) hB e2) hsp B.e) ?_;rintro ⟨⟨K38,k38⟩,⟨L38,l38⟩⟩ -)
 refine ZG ?_ J (fun w0=>?_)
 refine Z8 J J J J (fun w0=>?_) ?_
 refine Zq J J (Zla ?_)
 exact Z9 rfl
 exact AgainG.nil
 refine Z4 (Z5 J (Zq J J ?_))
 (refine ZD J (fun w B' hB hR hS'=>ref31_Plan hS' (z2.prog e2) _ (prog_K hz2 (hR _ _ ZP) (hR _ _ ZP) (hR _ _ ZP) (hR _ _ ZP) hB e2) hsp B.e) ?_;rintro ⟨⟨K40,k40⟩,⟨L40,l40⟩⟩ -)
 refine ZG ?_ J (fun w0=>?_)
 exact AgainG.nil
 refine Z4 (Z5 J (Zq J J ?_))
 (refine ZD J (fun w B' hB hR hS'=>ref28_Same hS' (keptL (z2.prog e2).fFuns.length (liveL (z2.prog e2))) (chkL (z2.prog e2) (chN (z2.prog e2)).1) K38 L38 K40 L40 (z2.prog e2).fFuns.length (z2.prog e2).fFuns.length k38 l38 k40 l40 kept_len chk_len (row_Cs (W:=B.e) (e:=4) (A:=K38) (n:=(z2.prog e2).fFuns.length) (cp:=k38) (xs:=keptL (z2.prog e2).fFuns.length (liveL (z2.prog e2))) (hR _ _ ZP)) (row_Cs (W:=B.e) (e:=3) (A:=L38) (n:=(z2.prog e2).fFuns.length) (cp:=l38) (xs:=chkL (z2.prog e2) (chN (z2.prog e2)).1) (hR _ _ ZP)) (row_Cs (W:=B.e) (e:=4) (A:=K40) (n:=(z2.prog e2).fFuns.length) (cp:=k40) (xs:=keptL (z2.prog e2).fFuns.length (liveL (z2.prog e2))) (hR _ _ ZP)) (row_Cs (W:=B.e) (e:=3) (A:=L40) (n:=(z2.prog e2).fFuns.length) (cp:=l40) (xs:=chkL (z2.prog e2) (chN (z2.prog e2)).1) (hR _ _ ZP))) ?_;rintro ⟨⟩ -)
 refine ZG ?_ J (fun w0=>?_)
 exact AgainG.nil
 refine Zt J J (Zo J (Zq J J (Zla ?_)))
 refine Zq J J (Zla ?_)
 refine Z4 (Z5 J (Zq J J ?_))
 (refine ZD J (fun w B' hB hR hS'=>elide_Saved hS' (z2.prog e2) _ (prog_K hz2 (hR _ _ ZP) (hR _ _ ZP) (hR _ _ ZP) (hR _ _ ZP) hB e2) hsp B.e) ?_;rintro ⟨⟩ -)
 refine ZG ?_ J (fun w0=>?_)
 refine Z8 J J J J (fun w0=>?_) ?_
 refine Zq J J (Zla ?_)
 exact Z9 rfl
 exact AgainG.nil
 refine Z4 (Z5 J (Zq J J ?_))
 (refine ZD J (fun w B' hB hR hS'=>ref31_Saved hS' (z2.prog e2) _ (prog_K hz2 (hR _ _ ZP) (hR _ _ ZP) (hR _ _ ZP) (hR _ _ ZP) hB e2) hsp B.e) ?_;rintro ⟨⟩ -)
 refine ZG ?_ J (fun w0=>?_)
 exact AgainG.nil
 refine Zq J J (Zy J J (ZS0 (t:=48) (v':=.bool true) J (by simp) ?_))
 refine Zt J J (Zo J (Z4 (Z5 J (Zq J J ?_))))
 (refine ZC0 rfl ZK (fun w hS=>frame hS ZQ (fun B' hB hS'=>known31 hS')) ?_;rintro ⟨⟩ -)
 refine ZG ?_ J (fun w0=>?_)
 exact AgainG.nil
 refine Zt J J (Z6 (Zza ?_))
 exact ⟨(),trivial,rfl,Lh⟩
end Go.Proofs.YtogaiijhicfoaaaGreatY
