/-
  Part 3 of the proof of BindTells: contracts of functions, and what follows from them; without conditions.
-/
import Derived.Test.YtafiabekcekdbaaGreatBindTells2
set_option linter.unusedVariables false
set_option linter.unusedSimpArgs false
set_option linter.defProp false
namespace Go.Proofs.YtafiabekcekdbaaGreatV
set_option maxRecDepth 100000
set_option maxHeartbeats 4000000
open Go.RowKit Go.Proofs.YtafiabekcekdbaaGreatK Go.Proofs.YtafiabekcekdbaaGreatT Go.Proofs.YtafiabekcekdbaaGreatL

def operK (f:ApiFunc) (k letter n:Int):Int:=if letter=119∨letter=114 then slotF f.fKinds n 0 else if letter=103∨letter=102 then slotF f.fKinds n (IntKind.i64.wrap (1+k)) else if letter=99 then callF f.fKinds k n else if letter=100 then lateF f.fKinds k n else if letter=118 then answF f.fKinds f.fClass n else 0
def clsR (x:ApiInstr) (s:ApiSymbol):Int:=if x.fOp=18 then IntKind.i64.wrap (s.fKind-1) else if x.fOp=19∨x.fOp=17∨x.fOp=21 then s.fKind else x.fC
def lettersL:List Int:=[119,114,103,102,99,100,118,116,110,107,45]
theorem fst0 (l : List Int) : fstE (0 :: l) = fstE l := by conv => lhs; unfold fstE
                                                           simp
theorem fstA (e:Int) {l:List Int}(h:fstE l=0):fstE (e :: l)=e:=by
 unfold fstE
 split
 · rfl
 · omega
theorem range6:List.range 6=[0,1,2,3,4,5]:=rfl
theorem hasL_tab:∀ c ∈ lettersL,(hasL 0 c,hasL 1 c,hasL 2 c,hasL 3 c,hasL 4 c,hasL 5 c)=(decide (c=119∨c=114),decide (c=103∨c=102),decide (c=99),decide (c=100),decide (c=118),decide (c=116∨c=110∨c=107∨c=45)):=by decide
theorem letE_eq {f:ApiFunc}{k letter n:Int}(h:letter ∈ lettersL):letE f k letter n=operK f k letter n:=by
 have ht:=hasL_tab letter h
 simp only [Prod.mk.injEq] at ht
 obtain ⟨h0,h1,h2,h3,h4,h5⟩:=ht
 unfold letE operK
 rw [range6]
 simp only [List.map_cons,List.map_nil,lookE,h0,h1,h2,h3,h4,h5,decide_eq_true_eq]
 have v0:lookV f k n 0=slotF f.fKinds n 0:=rfl
 have v1:lookV f k n 1=slotF f.fKinds n (IntKind.i64.wrap (1+k)):=rfl
 have v2:lookV f k n 2=callF f.fKinds k n:=rfl
 have v3:lookV f k n 3=lateF f.fKinds k n:=rfl
 have v4:lookV f k n 4=answF f.fKinds f.fClass n:=rfl
 have v5:lookV f k n 5=0:=rfl
 rw [v0,v1,v2,v3,v4,v5]
 simp only [lettersL,List.mem_cons,List.not_mem_nil,or_false] at h
 rcases h with rfl | rfl | rfl | rfl | rfl | rfl | rfl | rfl | rfl | rfl | rfl <;> simp [fst0,fstA,fstE] <;> exact fun h=>h.symm
theorem shape_letters {o:Int}{i:Nat}(h:i<(shapeF o).size):byteAt (shapeF o) i ∈ lettersL:=by
 rw [shapeF_size] at h
 split at h
 · next ho=>
   have h2:=ownF_iff.1 ho
   have:∀ n,n<24→∀ i,i<4→byteAt (shapesL.getD n ByteArray.empty) i ∈ lettersL:=by decide
   unfold shapeF
   rw [if_pos ho]
   exact this _ ZO i h
 · omega
theorem shape_plain {o:Int}{i:Nat}(h:i<(shapeF o).size) (ho:¬ (17≤o∧o≤21)):byteAt (shapeF o) i≠103∧byteAt (shapeF o) i≠102∧byteAt (shapeF o) i≠99∧byteAt (shapeF o) i≠100:=by
 rw [shapeF_size] at h
 split at h
 · next hw=>
   have h2:=ownF_iff.1 hw
   have:∀ n,n<24→¬ (16≤n∧n≤20)→∀ i,i<4→byteAt (shapesL.getD n ByteArray.empty) i≠103∧byteAt (shapesL.getD n ByteArray.empty) i≠102∧byteAt (shapesL.getD n ByteArray.empty) i≠99∧byteAt (shapesL.getD n ByteArray.empty) i≠100:=by decide
   unfold shapeF
   rw [if_pos hw]
   exact this _ ZO ZO i h
 · omega
def operR (f:ApiFunc) (x:ApiInstr) (s:ApiSymbol) (i:Nat):Int:=operK f (clsR x s) (byteAt (shapeF x.fOp) i) (opdF x i)
theorem fst_map {n:Nat}{e e':Nat→Int}(h:∀ i,i<n→e i=e' i):fstE ((List.range n).map e)=fstE ((List.range n).map e'):=by
 rw [List.map_congr_left (fun i hi=>h i (List.mem_range.1 hi))]
theorem operF_R {f:ApiFunc}{x:ApiInstr}{s:ApiSymbol}{k:Int}(h:(17≤x.fOp∧x.fOp≤21)→k=clsR x s):operF f x k=fstE ((List.range (shapeF x.fOp).size).map (operR f x s)):=by
 unfold operF
 refine fst_map (fun i hi=>?_)
 unfold opsE operR
 rw [letE_eq (shape_letters hi)]
 by_cases ho:17≤x.fOp∧x.fOp≤21
 · rw [h ho]
 · obtain ⟨h1,h2,h3,h4⟩:=shape_plain hi ho
   unfold operK
   simp only [h1,h2,h3,h4,or_self,if_false]
theorem instrF_R {f:ApiFunc}{l:List ApiSymbol}{i:Int}(hi:¬ (i<0∨(f.fCode.length:Int)≤i)) (he:refE f l i=0):instrF f l i=if ((codeAt f i).fOp=20∧isC (codeAt f i).fC=false)∨((codeAt f i).fOp=21∧latF (refS f l i).fKind=false) then 14 else fstE ((List.range (shapeF (codeAt f i).fOp).size).map (operR f (codeAt f i) (refS f l i))):=by
 unfold instrF
 rw [if_neg hi,if_neg (by rw [he];simp)]
 generalize codeAt f i=x
 generalize refS f l i=s
 by_cases h20:x.fOp=20
 · rw [if_pos h20]
   by_cases hc:isC x.fC=true
   · rw [if_pos hc,if_neg (by rintro (h | h);rw [hc] at h;cases h.2;omega),operF_R (s:=s) (fun _=>by unfold clsR;rw [if_neg ZO,if_neg ZO])]
   · rw [if_neg hc,if_pos (.inl ⟨h20,by simpa using hc⟩)]
 · rw [if_neg h20]
   by_cases h21:x.fOp=21
   · rw [if_pos h21]
     by_cases hc:latF s.fKind=true
     · rw [if_pos hc,if_neg (by rintro (h | h);exact h20 h.1;rw [hc] at h;cases h.2),operF_R (s:=s) (fun _=>by unfold clsR;rw [if_neg ZO,if_pos ZO])]
     · rw [if_neg hc,if_pos (.inr ⟨h21,by simpa using hc⟩)]
   · have hR : ¬ ((x.fOp = 20 ∧ isC x.fC = false) ∨ (x.fOp = 21 ∧ latF s.fKind = false)) := by
      rintro (h | h)
      · exact h20 h.1
      · exact h21 h.1
     rw [if_neg h21,if_neg hR]
     by_cases h18:x.fOp=18
     · rw [if_pos h18,operF_R (s:=s) (fun _=>by unfold clsR;rw [if_pos h18])]
     · rw [if_neg h18,operF_R (s:=s) (fun h=>by unfold clsR;rw [if_neg h18,if_pos ZO])]
theorem ref17_has {B:Base}{w:World}(hS:St B [] w) (f:ApiFunc) (fc:List Value) (hf:kApiFunc.K B.e f fc) (i:Int) :
 CW 176 #[.agg fc.toArray,.int .i64 i] w (Ret B (fun _:Unit=>True) (fun _=>.bool (decide (0≤markF f i))) (fun _=>[])):=by
 obtain ⟨A0,c0,A1,c1,A2,c2,A3,c3,rfl,l0,g0,l1,g1,l2,g2,l3,g3⟩:=kApiFunc_open hf
 have hcl:=g3.1
 refine ZX Tryz.func176 hS ?_
 refine Zh (Zi (oBox J ZP (fun b2=>?_)))
 refine Zp J (Zn (Za (Zh (Zh (Zi (Zp J (Zn (Za (Zk (wLoop (ι:=Nat) (fun j=>[(1,.int .i64 i),(2,.pointer (some ⟨b2,0,none⟩)),(5,.int .i64 (j:Int))]) (fun j=>[blk b2 57 [.int .i64 f.fClass,.slice A0 f.fKinds.length c0,.int .i64 f.fPad,.bool f.fNosplit,.int .i64 f.fFrom,.int .i64 f.fTo,.slice A1 f.fLines.length c1,.slice A2 f.fCode.length c2,.slice A3 f.fRelocs.length c3]]) (fun j=>j≤f.fRelocs.length∧∀ y ∈ f.fRelocs.take j,atR i y=false) (fun j=>f.fRelocs.length-j) 0 ?_ cv (Leads.has ZQ) ?_))))))))))
 exact ⟨Nat.zero_le _,by simp⟩
 rintro j ⟨hj,hs⟩
 try dsimp only
 refine Zh (Zh (Zi (Zo J (Zz (n:=8) (m:=8) J J J (Zld ?_)))))
 refine Zv J J (Zx J J (Zn (Za (wC (fun h10=>?_) (fun h10=>?_)))))
 obtain ⟨x,hx⟩:∃ x,f.fRelocs[j]?=some x:=⟨_,List.getElem?_eq_getElem ZO⟩
 obtain ⟨e1,cs1,hE⟩:=g3.elm hx
 obtain rfl:=kApiReloc_open hE.K
 refine Zj (Za (Zh (Zk (Zh (Zi (Zz (n:=8) (m:=8) J J J (Zld ?_)))))))
 refine Zo J (oIdxE J J (hE) ZO J J ?_)
 have hc16:=(hE).cell
 refine ZF (ZT 0) (ZT 0) ?_
 refine Zlx hc16 ?_
 refine Zo J (Zy J J (Zn (Za (wC (fun h20=>?_) (fun h20=>?_)))))
 refine Zh (Zi (Zzb ?_))
 have hm:markF f i=(j:Int):=idxI_stop hs hx (decide_eq_true h20)
 exact ⟨(),trivial,by rw [hm,decide_eq_true ZO];rfl,Lh⟩
 refine Zj (Zze ?_)
 refine Zp J (Zn (Za ?_))
 exact ⟨rfl,j+1,⟨by omega,take_not hs hx (decide_eq_false h20)⟩,by omega,cv,Lh⟩
 refine Zm (Zzg ?_)
 obtain rfl:j=f.fRelocs.length:=by omega
 rw [List.take_length] at hs
 have hm:markF f i = -1:=idxI_none hs
 exact ⟨(),trivial,by rw [hm];rfl,Lh⟩
theorem needF_in (o:Int):0≤needF o∧needF o≤5:=by
 unfold needF
 repeat' split
 all_goals omega
theorem ref17_fits {B:Base}{w:World}(hS:St B [] w) (need:Int) (hn:1≤need∧need≤5) (s:ApiSymbol) (sc:List Value) (hs:kApiSymbol.K B.e s sc) :
 CW 177 #[.int .i64 need,.agg sc.toArray] w (Ret B (fun _:Unit=>True) (fun _=>.bool (fitsF need s)) (fun _=>[])):=by
 obtain rfl:=kApiSymbol_open hs
 generalize hz:IntKind.i64.wrap (s.fKind-1)=z
 have hfz:fitsF need s=if need=3 then decide (s.fSort=2) && decide (s.fKind=0) else if need=4 then decide (s.fSort=2) && isC z else decide (s.fSort=1):=by unfold fitsF;rw [hz]
 rw [hfz]
 refine ZX Tryz.func177 hS ?_
 refine Zh (Zi (oBox J ZP (fun b3=>?_)))
 refine Zp J (Zn (Za (Zh (Zi (Zo J (Zn (Za (Zk (Zh (Zh (Zi (Zy J J (Zp J (Zn (Za (wC (fun h15=>?_) (fun h15=>?_)))))))))))))))))
 refine Zj (Za (ZY h15 ?_))
 refine Zh (Zi (Zz (n:=2) (m:=2) J J J (Zld ?_)))
 refine Zy J J (Zp J (Zzd ?_))
 exact ⟨(),trivial,by rw [if_neg ZO,if_neg ZO];rfl,Lh⟩
 refine Zh (Zi (Zy J J (Zp J (Zn (Za (wC (fun h15=>?_) (fun h15=>?_)))))))
 refine Zj (Za (ZY h15 ?_))
 refine Zh (Zi (Zz (n:=2) (m:=2) J J J (Zld ?_)))
 refine Zy J J (Zp J (Zzd ?_))
 exact ⟨(),trivial,by rw [if_neg ZO,if_neg ZO];rfl,Lh⟩
 refine Zi (Zy J J (Zp J (Zn (Za (wC (fun h15=>?_) (fun h15=>?_))))))
 refine Zh (Zi (Zz (n:=2) (m:=2) J J J (Zld ?_)))
 refine Zy J J (Zp J (Zzd ?_))
 exact ⟨(),trivial,by rw [if_neg ZO,if_neg ZO];rfl,Lh⟩
 refine Zh (Zi (Zy J J (Zp J (Zn (Za (wC (fun h22=>?_) (fun h22=>?_)))))))
 refine Zh (Zi (Zz (n:=2) (m:=2) J J J (Zld ?_)))
 refine Zy J J (Zo J (ZS (ZT 27) (fun h27=>?_) (fun h27=>?_)))
 refine Zq J J (Zz (n:=3) (m:=3) J J J (Zzf ?_))
 refine Zq J J (Zy J J (Zt J J (Zp J (Zzd ?_))))
 exact ⟨(),trivial,by rw [if_pos h22];simp_all [resVal],Lh⟩
 refine Zr J J J J (Zr J J J J (Zr J J J J (Zu J J (Zp J (Zzd ?_)))))
 exact ⟨(),trivial,by rw [if_pos h22];simp_all [resVal],Lh⟩
 refine Zh (Zi (Zz (n:=2) (m:=2) J J J (Zld ?_)))
 refine Zy J J (Zo J (ZS (ZT 9) (fun h9=>?_) (fun h9=>?_)))
 refine Zq J J (Zz (n:=3) (m:=3) J J J (Zzf ?_))
 refine Zq J J (oSubW J J ?_)
 rw [hz]
 refine Zq J J ?_
 (refine ZC0 rfl ZK (fun w hS=>frame hS ZQ (fun B' hB hS'=>ref5_Is hS' z)) ?_;rintro ⟨⟩ -)
 refine Zt J J (Zp J (Zzd ?_))
 exact ⟨(),trivial,by rw [if_neg h22,if_pos ZO];simp_all [resVal],Lh⟩
 refine Zr J J J J (Zr J J J J (Zr J J J J (Zr J J J J (Zu J J (Zp J (Zzd ?_))))))
 exact ⟨(),trivial,by rw [if_neg h22,if_pos ZO];simp_all [resVal],Lh⟩
theorem ref17_refers {B:Base}{w:World}(hS:St B [] w) (f:ApiFunc) (fc:List Value) (hf:kApiFunc.K B.e f fc) (Al:Option Addr) (cl:Nat) (l:List ApiSymbol) (hl:kApiSymbol.C B.e Al l) (i:Nat) (hi:i<f.fCode.length) :
 CW 148 #[.agg fc.toArray,.slice Al l.length cl,.int .i64 (i:Int)] w (Ret B (fun _:Unit=>True) (fun _=>.tuple #[.agg (symL (refS f l i)).toArray,.int .i64 (refE f l i)]) (fun _=>[])):=by
 obtain ⟨A0,c0,A1,c1,A2,c2,A3,c3,rfl,l0,g0,l1,g1,l2,g2,l3,g3⟩:=kApiFunc_open hf
 obtain ⟨x,hx⟩:∃ x,f.fCode[i]?=some x:=⟨_,List.getElem?_eq_getElem hi⟩
 have hca:codeAt f (i:Int)=x:=by unfold codeAt;rw [Int.toNat_natCast,List.getD_eq_getElem?_getD,hx];rfl
 obtain ⟨e0,cs0,hE0⟩:=g2.elm hx
 obtain rfl:=kApiInstr_open hE0.K
 have hnin:=needF_in x.fOp
 generalize hne:needF x.fOp=need at *
 refine ZX Tryz.func148 hS ?_
 refine Zh (Zi (oBox J ZP (fun b3=>?_)))
 refine oAlloc J ZP (fun b6=>?_)
 refine Zp J (Zn (Za (Zh (Zi (Zz (n:=7) (m:=7) J J J (Zld ?_))))))
 refine Zo J (oIdxE J J (hE0) ZO J J ?_)
 have hc13:=(hE0).cell
 refine ZF (ZT 0) (ZT 0) ?_
 refine Zlx hc13 ?_
 (refine ZC0 rfl ZK (fun w hS=>frame hS ZQ (fun B' hB hS'=>ref7_Need hS' x.fOp)) ?_;rintro ⟨⟩ -)
 rw [hne]
 refine Zp J (Zn (Za (Zh (Zh (Zi (Zo J (Z1 J J (Zla ?_))))))))
 refine Zo J ?_
 (refine ZC0 rfl ZK (fun w hS=>frame hS ZQ (fun B' hB hS'=>ref17_has hS' f _ (kApiFunc.K_grow hB hf) (i:Int))) ?_;rintro ⟨⟩ -)
 refine oNeqBool J J J (Zn (Za (wC (fun h22=>?_) (fun h22=>?_))))
 have h22:¬ ((0<need)↔(0≤markF f i)):=by have:=h22;simp at this;omega
 refine Zh (Zi (oBuild Parts.nil J J Built.nil (Zsa ?_)))
 refine Zp J (Zzu ?_)
 have he:refE f l i=11:=by unfold refE;rw [hca,hne,if_neg ZO,if_pos ZO]
 have hr:refS f l i=default:=by unfold refS;rw [he,if_pos (.inr (by decide))]
 exact ⟨(),trivial,by rw [he,hr];rfl,Lh⟩
 have h22:(0<need)↔(0≤markF f i):=by have:=h22;simp at this;omega
 refine Zj (Za (Zh (Zh (Zi (Zo J (Zy J J (Zn (Za (wC (fun h25=>?_) (fun h25=>?_))))))))))
 refine Zh (Zi (oBuild Parts.nil J J Built.nil (Zsa ?_)))
 refine Zp J (Zzu ?_)
 have he:refE f l i=0:=by unfold refE;rw [hca,hne,if_pos ZO]
 have hr:refS f l i=default:=by unfold refS;rw [hca,hne,if_pos (.inl h25)]
 exact ⟨(),trivial,by rw [he,hr];rfl,Lh⟩
 refine Zj (Za (Zzs ?_))
 refine Zo J ?_
 (refine ZC0 rfl ZK (fun w hS=>frame hS ZQ (fun B' hB hS'=>ref17_Sym hS' f _ (kApiFunc.K_grow hB hf) (i:Int))) ?_;rintro ⟨⟩ -)
 refine Zp J (Zn (Za (Zh (Zh (Zi (Zo J (Zx J J (Zo J (ZS (ZT 32) (fun h32=>?_) (fun h32=>?_))))))))))
 refine Zr J J J J (Zr J J J J (Zr J J J J (Zr J J J J (Zt J J (Zn (Za (wCondT J (Zh (Zi (oBuild Parts.nil J J Built.nil (Zsa ?_)))))))))))
 refine Zp J (Zzu ?_)
 have he:refE f l i=11:=by unfold refE;rw [hca,hne,if_neg ZO,if_pos ZO]
 have hr:refS f l i=default:=by unfold refS;rw [he,if_pos (.inr (by decide))]
 exact ⟨(),trivial,by rw [he,hr];rfl,Lh⟩
 refine Zq J J (Zo J (Zq J J (Zo J (Zq J J (Zv J J (Zq J J (Z2 J J (Zu J J (Zn (Za (wC (fun h37=>?_) (fun h37=>?_))))))))))))
 refine Zh (Zi (oBuild Parts.nil J J Built.nil (Zsa ?_)))
 refine Zp J (Zzu ?_)
 have he:refE f l i=11:=by unfold refE;rw [hca,hne,if_neg ZO,if_pos ZO]
 have hr:refS f l i=default:=by unfold refS;rw [he,if_pos (.inr (by decide))]
 exact ⟨(),trivial,by rw [he,hr];rfl,Lh⟩
 obtain ⟨n,hn⟩:=Int.eq_ofNat_of_zero_le (show 0≤symF f (i:Int) by omega)
 obtain ⟨s,hs⟩:∃ s,l[n]?=some s:=⟨_,List.getElem?_eq_getElem ZO⟩
 obtain ⟨e2,cs2,hE2⟩:=hl.elm hs
 obtain rfl:=kApiSymbol_open hE2.K
 have hnl:=(List.getElem?_eq_some_iff.1 hs).1
 have hsa:symAtF f l i=s:=by unfold symAtF;rw [hn,Int.toNat_natCast,List.getD_eq_getElem?_getD,hs];rfl
 rw [hn]
 refine Zj (Za (Zh (Zh (Zi (Zo J (Zo J (Zo J (oIdxE J J (hE2) ZO J J ?_))))))))
 have hc42:=(hE2).cell
 refine Zlx hc42 ?_
 (refine ZC0 rfl ZK (fun w hS=>frame hS ZQ (fun B' hB hS'=>ref17_fits hS' need ZO s _ (kApiSymbol_mk _ s))) ?_;rintro ⟨⟩ -)
 refine Zno ?_
 refine Zn (Za (wC (fun h45=>?_) (fun h45=>?_)))
 refine Zh (Zi (oBuild Parts.nil J J Built.nil (Zsa ?_)))
 refine Zp J (Zzu ?_)
 have he:refE f l i=8:=by unfold refE;rw [hca,hne,hsa,if_neg ZO,if_neg ZO,if_neg (by simpa using h45)]
 have hr:refS f l i=default:=by unfold refS;rw [he,if_pos (.inr (by decide))]
 exact ⟨(),trivial,by rw [he,hr];rfl,Lh⟩
 refine Zj (Za (Zh (Zi (Zo J (Zo J (oIdxE J J (hE2) ZO J J ?_))))))
 have hc49:=(hE2).cell
 refine Zlx hc49 ?_
 refine Zsa ?_
 refine Zp J (Zn (Za (Zl (Zw (ZI2 ?_)))))
 have he:refE f l i=0:=by unfold refE;rw [hca,hne,hsa,if_neg ZO,if_neg ZO,if_pos (by simpa using h45)]
 have hr:refS f l i=s:=by unfold refS;rw [he,hca,hne,hsa,if_neg ZO]
 exact ⟨(),trivial,by rw [he,hr];rfl,Lh⟩
theorem ref17_slot {B:Base}{w:World}(hS:St B [] w) (f:ApiFunc) (fc:List Value) (hf:kApiFunc.K B.e f fc) (at_ kind:Int) :
 CW 178 #[.agg fc.toArray,.int .i64 at_,.int .i64 kind] w (Ret B (fun _:Unit=>True) (fun _=>.int .i64 (slotF f.fKinds at_ kind)) (fun _=>[])):=by
 obtain ⟨A0,c0,A1,c1,A2,c2,A3,c3,rfl,l0,g0,l1,g1,l2,g2,l3,g3⟩:=kApiFunc_open hf
 refine ZX Tryz.func178 hS ?_
 refine Zh (Zi (oBox J ZP (fun b3=>?_)))
 refine Zp J (Zn (Za (Zh (Zh (Zi (Zo J (Zx J J (Zo J (ZS (ZT 9) (fun h9=>?_) (fun h9=>?_))))))))))
 refine Zr J J J J (Zr J J J J (Zr J J J J (Zr J J J J (Zr J J J J (Zt J J (Zn (Za (wCondT J (Zh (Zi (Zzc ?_)))))))))))
 exact ⟨(),trivial,by unfold slotF;rw [if_pos ZO];rfl,Lh⟩
 refine Zq J J (Zo J (Zq J J (Zz (n:=1) (m:=1) J J J (Zzf ?_))))
 refine Zq J J (Zv J J (Zq J J (Z2 J J (Zu J J (Zn (Za (wC (fun h15=>?_) (fun h15=>?_))))))))
 refine Zh (Zi (Zzc ?_))
 exact ⟨(),trivial,by unfold slotF;rw [if_pos ZO];rfl,Lh⟩
 obtain ⟨n,rfl⟩:=Int.eq_ofNat_of_zero_le (show 0≤at_ by omega)
 refine Zj (Za (Zh (Zh (Zi (Zz (n:=1) (m:=1) J J J (Zld ?_))))))
 refine Zo J (oIdx J J (g0) J ZO J J (fun e19 u19 cs19 hu19 hk19 hc19=>?_))
 obtain rfl:=hk19
 refine Zlx hc19 ?_
 refine Zo J (Z0 J J (Zn (Za (wC (fun h22=>?_) (fun h22=>?_)))))
 refine Zh (Zi (Zzc ?_))
 exact ⟨(),trivial,by unfold slotF;rw [if_neg ZO,Int.toNat_natCast,getDat hu19,if_pos h22];rfl,Lh⟩
 refine Zj (Zzy ?_)
 exact ⟨(),trivial,by unfold slotF;rw [if_neg ZO,Int.toNat_natCast,getDat hu19,if_neg h22];rfl,Lh⟩
theorem nCall_max {k:Int}(h:¬ (parF k=0∧ansF k=false)):nCall k=if parF k<1 then 1 else parF k:=by
 have:=parF_in k
 unfold nCall
 by_cases h0:parF k=0
 · have ha : ansF k = true := by
    cases e:ansF k with
    | true=>rfl
    | false=>exact absurd ⟨h0,e⟩ h
   rw [if_pos ⟨h0,ha⟩,if_pos ZO]
 · rw [if_neg (fun e=>h0 e.1),if_neg ZO]
theorem ref17_called {B:Base}{w:World}(hS:St B [] w) (f:ApiFunc) (fc:List Value) (hf:kApiFunc.K B.e f fc) (at_ k:Int) :
 CW 179 #[.agg fc.toArray,.int .i64 at_,.int .i64 k] w (Ret B (fun _:Unit=>True) (fun _=>.int .i64 (callF f.fKinds k at_)) (fun _=>[])):=by
 obtain ⟨A0,c0,A1,c1,A2,c2,A3,c3,rfl,l0,g0,l1,g1,l2,g2,l3,g3⟩:=kApiFunc_open hf
 have hn:=nCall_in k
 have hpn:=parF_in k
 have hml:((List.range (nCall k).toNat).map fun i:Nat=>slotF f.fKinds (IntKind.i64.wrap (at_+(i:Int))) 0).length=(nCall k).toNat:=by simp
 refine ZX Tryz.func179 hS ?_
 refine Zh (Zi (oBox J ZP (fun b3=>?_)))
 refine Zp J (Zn (Zzm ?_))
 (refine ZC0 rfl ZK (fun w hS=>frame hS ZQ (fun B' hB hS'=>ref5_Params hS' k)) ?_;rintro ⟨⟩ -)
 refine Zp J (Zn (Za (Zh (Zh (Zi (Zo J (Zy J J (Zo J (ZS (ZT 14) (fun h14=>?_) (fun h14=>?_))))))))))
 refine Zq J J (Zo J (Zq J J ?_))
 (refine ZC0 rfl ZK (fun w hS=>frame hS ZQ (fun B' hB hS'=>ref5_Answers hS' k)) ?_;rintro ⟨⟩ -)
 refine Zq J J (Zno ?_)
 refine Zt J J (Zn (Za (wC (fun h18=>?_) (fun h18=>?_))))
 have hn0:nCall k=0:=by unfold nCall;rw [if_neg (by rintro ⟨_,h⟩;simp [h] at h18)];exact h14
 refine Zh (Zh (Zi (Zo J (Z0 J J (Zn (Za (wC (fun h20=>?_) (fun h20=>?_))))))))
 refine Zh (Zi (Zp J (Zn (Za (Zl (Zc (Zc (Zw (fi1 J ?_)))))))))
 exact ⟨(),trivial,by unfold callF zeroF;rw [if_pos hn0,if_pos h20];rfl,Lh⟩
 refine Zj (Za (Zh (Zi (Zzc ?_))))
 exact ⟨(),trivial,by unfold callF zeroF;rw [if_pos hn0,if_neg h20];rfl,Lh⟩
 refine Zj (Za (Zh (Zh (Zi (Zp J ?_)))))
 have hnm:=nCall_max (k:=k) (by rintro ⟨h,h'⟩;simp_all)
 have hnz:¬ nCall k=0:=by rw [hnm];split <;> omega
 refine Zn (Za (Zk (wLoop (ι:=Nat) (fun i=>[(1,.int .i64 at_),(3,.pointer (some ⟨b3,0,none⟩)),(7,.int .i64 (parF k)),(8,.int .i64 (i:Int))]) (fun i=>[blk b3 57 [.int .i64 f.fClass,.slice A0 f.fKinds.length c0,.int .i64 f.fPad,.bool f.fNosplit,.int .i64 f.fFrom,.int .i64 f.fTo,.slice A1 f.fLines.length c1,.slice A2 f.fCode.length c2,.slice A3 f.fRelocs.length c3]]) (fun i=>i≤(nCall k).toNat∧fstE (((List.range (nCall k).toNat).map fun i:Nat=>slotF f.fKinds (IntKind.i64.wrap (at_+(i:Int))) 0).take i)=0) (fun i=>(nCall k).toNat-i) 0 ?_ cv (Leads.has ZQ) ?_)))
 exact ⟨Nat.zero_le _,rfl⟩
 rintro i ⟨hi,hs⟩
 try dsimp only
 refine Zh (Zh (Zi (Zo J (Zo J (oMaxI J J ?_)))))
 rw [← hnm]
 refine Zx J J (Zn (Za (wC (fun h24=>?_) (fun h24=>?_))))
 have hxe:((List.range (nCall k).toNat).map fun i:Nat=>slotF f.fKinds (IntKind.i64.wrap (at_+(i:Int))) 0)[i]?=some (slotF f.fKinds (IntKind.i64.wrap (at_+(i:Int))) 0):=by rw [List.getElem?_map,List.getElem?_range ZO];rfl
 refine Zj (Za (Zh (Zk (Zzs ?_))))
 refine Zo J (Zo J (oAddW J J ?_))
 (refine ZC0 rfl ZK (fun w hS=>frame hS ZQ (fun B' hB hS'=>ref17_slot hS' f _ (kApiFunc.K_grow hB hf) (IntKind.i64.wrap (at_+(i:Int))) 0)) ?_;rintro ⟨⟩ -)
 refine Zp J (Zn (Za (Zh (Zi (Zo J (Z0 J J (Zn (Za (wC (fun h33=>?_) (fun h33=>?_))))))))))
 refine Zh (Zzz ?_)
 exact ⟨(),trivial,by unfold callF;rw [if_neg hnz,fstE_stop hs hxe h33];rfl,Lh⟩
 refine Zj (Zze ?_)
 refine Zp J ?_
 skip
 refine Zn (Za ?_)
 exact ⟨rfl,i+1,⟨by omega,fstE_next hs hxe (Classical.not_not.1 h33)⟩,by omega,cv,Lh⟩
 refine Zm (Zzg ?_)
 obtain rfl:i=(nCall k).toNat:=by omega
 rw [List.take_of_length_le (by rw [hml];exact Nat.le_refl _)] at hs
 exact ⟨(),trivial,by unfold callF;rw [if_neg hnz,hs];rfl,Lh⟩
 refine Zr J J J J (Zr J J J J (Zr J J J J (Zu J J (Zn (Za (wCondF J (Zj (Za (Zh (Zh (Zi (Zp J ?_))))))))))))
 have hnm:=nCall_max (k:=k) (by rintro ⟨h,h'⟩;simp_all)
 have hnz:¬ nCall k=0:=by rw [hnm];split <;> omega
 refine Zn (Za (Zk (wLoop (ι:=Nat) (fun i=>[(1,.int .i64 at_),(3,.pointer (some ⟨b3,0,none⟩)),(7,.int .i64 (parF k)),(8,.int .i64 (i:Int))]) (fun i=>[blk b3 57 [.int .i64 f.fClass,.slice A0 f.fKinds.length c0,.int .i64 f.fPad,.bool f.fNosplit,.int .i64 f.fFrom,.int .i64 f.fTo,.slice A1 f.fLines.length c1,.slice A2 f.fCode.length c2,.slice A3 f.fRelocs.length c3]]) (fun i=>i≤(nCall k).toNat∧fstE (((List.range (nCall k).toNat).map fun i:Nat=>slotF f.fKinds (IntKind.i64.wrap (at_+(i:Int))) 0).take i)=0) (fun i=>(nCall k).toNat-i) 0 ?_ cv (Leads.has ZQ) ?_)))
 exact ⟨Nat.zero_le _,rfl⟩
 rintro i ⟨hi,hs⟩
 try dsimp only
 refine Zh (Zh (Zi (Zo J (Zo J (oMaxI J J ?_)))))
 rw [← hnm]
 refine Zx J J (Zn (Za (wC (fun h24=>?_) (fun h24=>?_))))
 have hxe:((List.range (nCall k).toNat).map fun i:Nat=>slotF f.fKinds (IntKind.i64.wrap (at_+(i:Int))) 0)[i]?=some (slotF f.fKinds (IntKind.i64.wrap (at_+(i:Int))) 0):=by rw [List.getElem?_map,List.getElem?_range ZO];rfl
 refine Zj (Za (Zh (Zk (Zzs ?_))))
 refine Zo J (Zo J (oAddW J J ?_))
 (refine ZC0 rfl ZK (fun w hS=>frame hS ZQ (fun B' hB hS'=>ref17_slot hS' f _ (kApiFunc.K_grow hB hf) (IntKind.i64.wrap (at_+(i:Int))) 0)) ?_;rintro ⟨⟩ -)
 refine Zp J (Zn (Za (Zh (Zi (Zo J (Z0 J J (Zn (Za (wC (fun h33=>?_) (fun h33=>?_))))))))))
 refine Zh (Zzz ?_)
 exact ⟨(),trivial,by unfold callF;rw [if_neg hnz,fstE_stop hs hxe h33];rfl,Lh⟩
 refine Zj (Zze ?_)
 refine Zp J ?_
 skip
 refine Zn (Za ?_)
 exact ⟨rfl,i+1,⟨by omega,fstE_next hs hxe (Classical.not_not.1 h33)⟩,by omega,cv,Lh⟩
 refine Zm (Zzg ?_)
 obtain rfl:i=(nCall k).toNat:=by omega
 rw [List.take_of_length_le (by rw [hml];exact Nat.le_refl _)] at hs
 exact ⟨(),trivial,by unfold callF;rw [if_neg hnz,hs];rfl,Lh⟩
theorem ref17_perhaps {B:Base}{w:World}(hS:St B [] w) (f:ApiFunc) (fc:List Value) (hf:kApiFunc.K B.e f fc) (at_:Int) (is:Bool) :
 CW 180 #[.agg fc.toArray,.int .i64 at_,.bool is] w (Ret B (fun _:Unit=>True) (fun _=>.int .i64 (if is then slotF f.fKinds at_ 0 else zeroF at_)) (fun _=>[])):=by
 obtain ⟨A0,c0,A1,c1,A2,c2,A3,c3,rfl,l0,g0,l1,g1,l2,g2,l3,g3⟩:=kApiFunc_open hf
 refine ZX Tryz.func180 hS ?_
 refine Zh (Zi (oBox J ZP (fun b3=>?_)))
 refine Zp J (Zn (Za (Zh (Zh (Zi (Zo J (Zn (Za (wC (fun h7=>?_) (fun h7=>?_))))))))))
 refine Zh (Zi (Zla ?_))
 refine Zo J ?_
 (refine ZC0 rfl ZK (fun w hS=>frame hS ZQ (fun B' hB hS'=>ref17_slot hS' f _ (kApiFunc.K_grow hB hf) at_ 0)) ?_;rintro ⟨⟩ -)
 refine Zp J (Zzt ?_)
 exact ⟨(),trivial,by rw [if_pos (by simpa using h7)];rfl,Lh⟩
 refine Zj (Za (Zh (Zh (Zi (Zo J (Z0 J J (Zn (Za (wC (fun h12=>?_) (fun h12=>?_))))))))))
 refine Zh (Zi (Zzc ?_))
 exact ⟨(),trivial,by rw [if_neg (by simpa using h7)];unfold zeroF;rw [if_pos h12];rfl,Lh⟩
 refine Zj (Zzy ?_)
 exact ⟨(),trivial,by rw [if_neg (by simpa using h7)];unfold zeroF;rw [if_neg h12];rfl,Lh⟩
theorem late_perhaps {kinds:List Int}{k n:Int} : lateF kinds k n=if decide (0<parF k)=true then slotF kinds n 0 else zeroF n:=by
 have hpn:=parF_in k
 unfold lateF
 by_cases h0:parF k=0
 · rw [if_neg (show ¬ decide (0<parF k)=true by rw [h0];decide),if_pos h0]
 · rw [if_pos (show decide (0<parF k)=true from decide_eq_true ZO),if_neg h0]
theorem ref17_operand {B:Base}{w:World}(hS:St B [] w) (f:ApiFunc) (fc:List Value) (hf:kApiFunc.K B.e f fc) (x:ApiInstr) (xc:List Value) (hx:kApiInstr.K B.e x xc) (s:ApiSymbol) (letter n:Int) :
 CW 151 #[.agg fc.toArray,.agg xc.toArray,.agg (symL s).toArray,.int .u8 letter,.int .i64 n] w (Ret B (fun _:Unit=>True) (fun _=>.int .i64 (operK f (clsR x s) letter n)) (fun _=>[])):=by
 obtain ⟨A0,c0,A1,c1,A2,c2,A3,c3,rfl,l0,g0,l1,g1,l2,g2,l3,g3⟩:=kApiFunc_open hf
 obtain rfl:=kApiInstr_open hx
 generalize hz:IntKind.i64.wrap (s.fKind-1)=z
 generalize hk:clsR x s=k
 refine ZX Tryz.func151 hS ?_
 refine Zh (Zi (oBox J ZP (fun b5=>?_)))
 refine oBox J ZP (fun b6=>?_)
 refine oBox J ZP (fun b7=>?_)
 refine Zp J (Zn (Za (Zh (Zi (Zz (n:=3) (m:=3) J J J (Zld ?_))))))
 refine Zp J (Zn (Za (Zh (Zh (Zi (Zz (n:=0) (m:=0) J J J (Zld ?_)))))))
 refine Zy J J (Zo J (ZS (ZT 17) (fun h17=>?_) (fun h17=>?_)))
 refine Zr J J J J (Zr J J J J (Zr J J J J (Zt J J (Zo J (Zr J J J J (Zr J J J J (Zr J J J J (Zt J J (Zn (Za (wCondT J (Zi (Zz (n:=3) (m:=3) J J J (Zld ?_))))))))))))))
 refine Zp J (Zn (Za (Zh (Zh (Zi (Zz (n:=0) (m:=0) J J J (Zld ?_)))))))
 refine Zy J J (Zn (Za (wC (fun h31=>?_) (fun h31=>?_))))
 refine Zi (Zz (n:=3) (m:=3) J J J (Zld ?_))
 refine oSubW J J ?_
 rw [hz]
 refine Zp J (Zn (Zzm ?_))
 refine ZS0 (t:=11) (v':=.int .i64 k) rfl (by rw [← hk,← hz];unfold clsR;rw [if_pos h31]) ?_
 refine Zn (Za (Zk (Zh (Zh (Zi (Zy J J (Zp J (Zn (Za (wC (fun h36=>?_) (fun h36=>?_)))))))))))
 refine Zj (Za (ZY h36 ?_))
 refine Zh (Zi (Zla ?_))
 refine Zo J ?_
 (refine ZC0 rfl ZK (fun w hS=>frame hS ZQ (fun B' hB hS'=>ref17_slot hS' f _ (kApiFunc.K_grow hB hf) n 0)) ?_;rintro ⟨⟩ -)
 refine Zp J (Zzd ?_)
 exact ⟨(),trivial,by unfold operK;rw [if_pos ZO];rfl,Lh⟩
 refine Zi (Zy J J ?_)
 have hl119:¬ letter=119:=h36
 refine Zp J (Zn (Za (wC (fun h36=>?_) (fun h36=>?_))))
 refine Zh (Zi (Zla ?_))
 refine Zo J ?_
 (refine ZC0 rfl ZK (fun w hS=>frame hS ZQ (fun B' hB hS'=>ref17_slot hS' f _ (kApiFunc.K_grow hB hf) n 0)) ?_;rintro ⟨⟩ -)
 refine Zp J (Zzd ?_)
 exact ⟨(),trivial,by unfold operK;rw [if_pos ZO];rfl,Lh⟩
 refine Zh (Zh (Zi (Zy J J (Zp J (Zn (Za (wC (fun h42=>?_) (fun h42=>?_))))))))
 refine Zj (Za (ZY h42 ?_))
 refine Zh (Zi (Zla ?_))
 refine Zo J (Zo J (oAddW J J ?_))
 (refine ZC0 rfl ZK (fun w hS=>frame hS ZQ (fun B' hB hS'=>ref17_slot hS' f _ (kApiFunc.K_grow hB hf) n (IntKind.i64.wrap (1+k)))) ?_;rintro ⟨⟩ -)
 refine Zp J (Zzd ?_)
 exact ⟨(),trivial,by unfold operK;rw [if_neg ZO,if_pos ZO];rfl,Lh⟩
 refine Zi (Zy J J ?_)
 have hl103:¬ letter=103:=h42
 refine Zp J (Zn (Za (wC (fun h42=>?_) (fun h42=>?_))))
 refine Zh (Zi (Zla ?_))
 refine Zo J (Zo J (oAddW J J ?_))
 (refine ZC0 rfl ZK (fun w hS=>frame hS ZQ (fun B' hB hS'=>ref17_slot hS' f _ (kApiFunc.K_grow hB hf) n (IntKind.i64.wrap (1+k)))) ?_;rintro ⟨⟩ -)
 refine Zp J (Zzd ?_)
 exact ⟨(),trivial,by unfold operK;rw [if_neg ZO,if_pos ZO];rfl,Lh⟩
 refine Zh (Zi (Zy J J (Zp J (Zn (Za (wC (fun h50=>?_) (fun h50=>?_)))))))
 refine Zh (Zi (Zla ?_))
 refine Zo J (Zo J ?_)
 (refine ZC0 rfl ZK (fun w hS=>frame hS ZQ (fun B' hB hS'=>ref17_called hS' f _ (kApiFunc.K_grow hB hf) n k)) ?_;rintro ⟨⟩ -)
 refine Zp J (Zzd ?_)
 exact ⟨(),trivial,by unfold operK;rw [if_neg ZO,if_neg ZO,if_pos h50];rfl,Lh⟩
 refine Zh (Zi (Zy J J (Zp J (Zn (Za (wC (fun h56=>?_) (fun h56=>?_)))))))
 refine Zh (wDrawG J [0,1,2] [(3,[0,1],[4]),(5,[],[])] [6] 24 ZK J J (fun w0=>?_))
 refine Zla ?_
 refine Zo J (Zo J (Z4 (Z5 J ?_)))
 (refine ZC0 rfl ZK (fun w hS=>frame hS ZQ (fun B' hB hS'=>ref5_Params hS' k)) ?_;rintro ⟨⟩ -)
 refine ZG ?_ J (fun w0=>?_)
 refine Z8 J J J J (fun w0=>?_) ?_
 refine Zla ?_
 exact Z9 rfl
 refine Z8 J J J J (fun w0=>?_) ?_
 refine Zo J ?_
 exact Z9 rfl
 exact AgainG.nil
 refine Z1 J J (Z4 (Z5 J ?_))
 (refine ZC0 rfl ZK (fun w hS=>frame hS ZQ (fun B' hB hS'=>ref17_perhaps hS' f _ (kApiFunc.K_grow hB hf) n (decide (0<parF k)))) ?_;rintro ⟨⟩ -)
 refine ZG ?_ J (fun w0=>?_)
 exact AgainG.nil
 refine Z6 (Zp J (Zzd ?_))
 have hpn:=parF_in k
 have hop:operK f k letter n=lateF f.fKinds k n:=by unfold operK;rw [if_neg (show ¬ (letter=119∨letter=114) by omega),if_neg (show ¬ (letter=103∨letter=102) by omega),if_neg h50,if_pos h56]
 exact ⟨(),trivial,by rw [hop,late_perhaps];rfl,Lh⟩
 refine Zh (Zi (Zy J J (Zp J (Zn (Za (wC (fun h64=>?_) (fun h64=>?_)))))))
 refine Zh (wDrawG J [0,1,2,3] [(4,[0,1],[]),(5,[],[])] [6] 24 ZK J J (fun w0=>?_))
 refine Zla ?_
 refine Zo J (Zz (n:=0) (m:=0) J J J (Zld ?_))
 refine Z4 (Z5 J ?_)
 (refine ZC0 rfl ZK (fun w hS=>frame hS ZQ (fun B' hB hS'=>ref5_Answers hS' f.fClass)) ?_;rintro ⟨⟩ -)
 refine ZG ?_ J (fun w0=>?_)
 refine Z8 J J J J (fun w0=>?_) ?_
 refine Zla ?_
 exact Z9 rfl
 refine Z8 J J J J (fun w0=>?_) ?_
 refine Zo J ?_
 exact Z9 rfl
 exact AgainG.nil
 refine Z4 (Z5 J ?_)
 (refine ZC0 rfl ZK (fun w hS=>frame hS ZQ (fun B' hB hS'=>ref17_perhaps hS' f _ (kApiFunc.K_grow hB hf) n (ansF f.fClass))) ?_;rintro ⟨⟩ -)
 refine ZG ?_ J (fun w0=>?_)
 exact AgainG.nil
 refine Z6 (Zp J (Zzd ?_))
 have hop:operK f k letter n=answF f.fKinds f.fClass n:=by unfold operK;rw [if_neg (show ¬ (letter=119∨letter=114) by omega),if_neg (show ¬ (letter=103∨letter=102) by omega),if_neg h50,if_neg h56,if_pos h64]
 exact ⟨(),trivial,by rw [hop];rfl,Lh⟩
 refine Zh (Zzn ?_)
 exact ⟨(),trivial,by unfold operK;rw [if_neg ZO,if_neg ZO,if_neg h50,if_neg h56,if_neg h64];rfl,Lh⟩
 refine Zj (Zzm ?_)
 refine ZS0 (t:=11) (v':=.int .i64 k) rfl (by rw [← hk];unfold clsR;rw [if_neg h31,if_pos ZO]) ?_
 refine Zn (Za (Zk (Zh (Zh (Zi (Zy J J (Zp J (Zn (Za (wC (fun h36=>?_) (fun h36=>?_)))))))))))
 refine Zj (Za (ZY h36 ?_))
 refine Zh (Zi (Zla ?_))
 refine Zo J ?_
 (refine ZC0 rfl ZK (fun w hS=>frame hS ZQ (fun B' hB hS'=>ref17_slot hS' f _ (kApiFunc.K_grow hB hf) n 0)) ?_;rintro ⟨⟩ -)
 refine Zp J (Zzd ?_)
 exact ⟨(),trivial,by unfold operK;rw [if_pos ZO];rfl,Lh⟩
 refine Zi (Zy J J ?_)
 have hl119:¬ letter=119:=h36
 refine Zp J (Zn (Za (wC (fun h36=>?_) (fun h36=>?_))))
 refine Zh (Zi (Zla ?_))
 refine Zo J ?_
 (refine ZC0 rfl ZK (fun w hS=>frame hS ZQ (fun B' hB hS'=>ref17_slot hS' f _ (kApiFunc.K_grow hB hf) n 0)) ?_;rintro ⟨⟩ -)
 refine Zp J (Zzd ?_)
 exact ⟨(),trivial,by unfold operK;rw [if_pos ZO];rfl,Lh⟩
 refine Zh (Zh (Zi (Zy J J (Zp J (Zn (Za (wC (fun h42=>?_) (fun h42=>?_))))))))
 refine Zj (Za (ZY h42 ?_))
 refine Zh (Zi (Zla ?_))
 refine Zo J (Zo J (oAddW J J ?_))
 (refine ZC0 rfl ZK (fun w hS=>frame hS ZQ (fun B' hB hS'=>ref17_slot hS' f _ (kApiFunc.K_grow hB hf) n (IntKind.i64.wrap (1+k)))) ?_;rintro ⟨⟩ -)
 refine Zp J (Zzd ?_)
 exact ⟨(),trivial,by unfold operK;rw [if_neg ZO,if_pos ZO];rfl,Lh⟩
 refine Zi (Zy J J ?_)
 have hl103:¬ letter=103:=h42
 refine Zp J (Zn (Za (wC (fun h42=>?_) (fun h42=>?_))))
 refine Zh (Zi (Zla ?_))
 refine Zo J (Zo J (oAddW J J ?_))
 (refine ZC0 rfl ZK (fun w hS=>frame hS ZQ (fun B' hB hS'=>ref17_slot hS' f _ (kApiFunc.K_grow hB hf) n (IntKind.i64.wrap (1+k)))) ?_;rintro ⟨⟩ -)
 refine Zp J (Zzd ?_)
 exact ⟨(),trivial,by unfold operK;rw [if_neg ZO,if_pos ZO];rfl,Lh⟩
 refine Zh (Zi (Zy J J (Zp J (Zn (Za (wC (fun h50=>?_) (fun h50=>?_)))))))
 refine Zh (Zi (Zla ?_))
 refine Zo J (Zo J ?_)
 (refine ZC0 rfl ZK (fun w hS=>frame hS ZQ (fun B' hB hS'=>ref17_called hS' f _ (kApiFunc.K_grow hB hf) n k)) ?_;rintro ⟨⟩ -)
 refine Zp J (Zzd ?_)
 exact ⟨(),trivial,by unfold operK;rw [if_neg ZO,if_neg ZO,if_pos h50];rfl,Lh⟩
 refine Zh (Zi (Zy J J (Zp J (Zn (Za (wC (fun h56=>?_) (fun h56=>?_)))))))
 refine Zh (wDrawG J [0,1,2] [(3,[0,1],[4]),(5,[],[])] [6] 24 ZK J J (fun w0=>?_))
 refine Zla ?_
 refine Zo J (Zo J (Z4 (Z5 J ?_)))
 (refine ZC0 rfl ZK (fun w hS=>frame hS ZQ (fun B' hB hS'=>ref5_Params hS' k)) ?_;rintro ⟨⟩ -)
 refine ZG ?_ J (fun w0=>?_)
 refine Z8 J J J J (fun w0=>?_) ?_
 refine Zla ?_
 exact Z9 rfl
 refine Z8 J J J J (fun w0=>?_) ?_
 refine Zo J ?_
 exact Z9 rfl
 exact AgainG.nil
 refine Z1 J J (Z4 (Z5 J ?_))
 (refine ZC0 rfl ZK (fun w hS=>frame hS ZQ (fun B' hB hS'=>ref17_perhaps hS' f _ (kApiFunc.K_grow hB hf) n (decide (0<parF k)))) ?_;rintro ⟨⟩ -)
 refine ZG ?_ J (fun w0=>?_)
 exact AgainG.nil
 refine Z6 (Zp J (Zzd ?_))
 have hpn:=parF_in k
 have hop:operK f k letter n=lateF f.fKinds k n:=by unfold operK;rw [if_neg (show ¬ (letter=119∨letter=114) by omega),if_neg (show ¬ (letter=103∨letter=102) by omega),if_neg h50,if_pos h56]
 exact ⟨(),trivial,by rw [hop,late_perhaps];rfl,Lh⟩
 refine Zh (Zi (Zy J J (Zp J (Zn (Za (wC (fun h64=>?_) (fun h64=>?_)))))))
 refine Zh (wDrawG J [0,1,2,3] [(4,[0,1],[]),(5,[],[])] [6] 24 ZK J J (fun w0=>?_))
 refine Zla ?_
 refine Zo J (Zz (n:=0) (m:=0) J J J (Zld ?_))
 refine Z4 (Z5 J ?_)
 (refine ZC0 rfl ZK (fun w hS=>frame hS ZQ (fun B' hB hS'=>ref5_Answers hS' f.fClass)) ?_;rintro ⟨⟩ -)
 refine ZG ?_ J (fun w0=>?_)
 refine Z8 J J J J (fun w0=>?_) ?_
 refine Zla ?_
 exact Z9 rfl
 refine Z8 J J J J (fun w0=>?_) ?_
 refine Zo J ?_
 exact Z9 rfl
 exact AgainG.nil
 refine Z4 (Z5 J ?_)
 (refine ZC0 rfl ZK (fun w hS=>frame hS ZQ (fun B' hB hS'=>ref17_perhaps hS' f _ (kApiFunc.K_grow hB hf) n (ansF f.fClass))) ?_;rintro ⟨⟩ -)
 refine ZG ?_ J (fun w0=>?_)
 exact AgainG.nil
 refine Z6 (Zp J (Zzd ?_))
 have hop:operK f k letter n=answF f.fKinds f.fClass n:=by unfold operK;rw [if_neg (show ¬ (letter=119∨letter=114) by omega),if_neg (show ¬ (letter=103∨letter=102) by omega),if_neg h50,if_neg h56,if_pos h64]
 exact ⟨(),trivial,by rw [hop];rfl,Lh⟩
 refine Zh (Zzn ?_)
 exact ⟨(),trivial,by unfold operK;rw [if_neg ZO,if_neg ZO,if_neg h50,if_neg h56,if_neg h64];rfl,Lh⟩
 refine Zq J J (Zz (n:=0) (m:=0) J J J (Zzf ?_))
 refine Zq J J (Zy J J (Zu J J (Zo J (ZS (ZT 22) (fun h22=>?_) (fun h22=>?_)))))
 refine Zr J J J J (Zr J J J J (Zr J J J J (Zt J J (Zn (Za (wCondT J (Zi (Zz (n:=3) (m:=3) J J J (Zld ?_)))))))))
 refine Zp J (Zn (Za (Zh (Zh (Zi (Zz (n:=0) (m:=0) J J J (Zld ?_)))))))
 refine Zy J J (Zn (Za (wC (fun h31=>?_) (fun h31=>?_))))
 refine Zi (Zz (n:=3) (m:=3) J J J (Zld ?_))
 refine oSubW J J ?_
 rw [hz]
 refine Zp J (Zn (Zzm ?_))
 refine ZS0 (t:=11) (v':=.int .i64 k) rfl (by rw [← hk,← hz];unfold clsR;rw [if_pos h31]) ?_
 refine Zn (Za (Zk (Zh (Zh (Zi (Zy J J (Zp J (Zn (Za (wC (fun h36=>?_) (fun h36=>?_)))))))))))
 refine Zj (Za (ZY h36 ?_))
 refine Zh (Zi (Zla ?_))
 refine Zo J ?_
 (refine ZC0 rfl ZK (fun w hS=>frame hS ZQ (fun B' hB hS'=>ref17_slot hS' f _ (kApiFunc.K_grow hB hf) n 0)) ?_;rintro ⟨⟩ -)
 refine Zp J (Zzd ?_)
 exact ⟨(),trivial,by unfold operK;rw [if_pos ZO];rfl,Lh⟩
 refine Zi (Zy J J ?_)
 have hl119:¬ letter=119:=h36
 refine Zp J (Zn (Za (wC (fun h36=>?_) (fun h36=>?_))))
 refine Zh (Zi (Zla ?_))
 refine Zo J ?_
 (refine ZC0 rfl ZK (fun w hS=>frame hS ZQ (fun B' hB hS'=>ref17_slot hS' f _ (kApiFunc.K_grow hB hf) n 0)) ?_;rintro ⟨⟩ -)
 refine Zp J (Zzd ?_)
 exact ⟨(),trivial,by unfold operK;rw [if_pos ZO];rfl,Lh⟩
 refine Zh (Zh (Zi (Zy J J (Zp J (Zn (Za (wC (fun h42=>?_) (fun h42=>?_))))))))
 refine Zj (Za (ZY h42 ?_))
 refine Zh (Zi (Zla ?_))
 refine Zo J (Zo J (oAddW J J ?_))
 (refine ZC0 rfl ZK (fun w hS=>frame hS ZQ (fun B' hB hS'=>ref17_slot hS' f _ (kApiFunc.K_grow hB hf) n (IntKind.i64.wrap (1+k)))) ?_;rintro ⟨⟩ -)
 refine Zp J (Zzd ?_)
 exact ⟨(),trivial,by unfold operK;rw [if_neg ZO,if_pos ZO];rfl,Lh⟩
 refine Zi (Zy J J ?_)
 have hl103:¬ letter=103:=h42
 refine Zp J (Zn (Za (wC (fun h42=>?_) (fun h42=>?_))))
 refine Zh (Zi (Zla ?_))
 refine Zo J (Zo J (oAddW J J ?_))
 (refine ZC0 rfl ZK (fun w hS=>frame hS ZQ (fun B' hB hS'=>ref17_slot hS' f _ (kApiFunc.K_grow hB hf) n (IntKind.i64.wrap (1+k)))) ?_;rintro ⟨⟩ -)
 refine Zp J (Zzd ?_)
 exact ⟨(),trivial,by unfold operK;rw [if_neg ZO,if_pos ZO];rfl,Lh⟩
 refine Zh (Zi (Zy J J (Zp J (Zn (Za (wC (fun h50=>?_) (fun h50=>?_)))))))
 refine Zh (Zi (Zla ?_))
 refine Zo J (Zo J ?_)
 (refine ZC0 rfl ZK (fun w hS=>frame hS ZQ (fun B' hB hS'=>ref17_called hS' f _ (kApiFunc.K_grow hB hf) n k)) ?_;rintro ⟨⟩ -)
 refine Zp J (Zzd ?_)
 exact ⟨(),trivial,by unfold operK;rw [if_neg ZO,if_neg ZO,if_pos h50];rfl,Lh⟩
 refine Zh (Zi (Zy J J (Zp J (Zn (Za (wC (fun h56=>?_) (fun h56=>?_)))))))
 refine Zh (wDrawG J [0,1,2] [(3,[0,1],[4]),(5,[],[])] [6] 24 ZK J J (fun w0=>?_))
 refine Zla ?_
 refine Zo J (Zo J (Z4 (Z5 J ?_)))
 (refine ZC0 rfl ZK (fun w hS=>frame hS ZQ (fun B' hB hS'=>ref5_Params hS' k)) ?_;rintro ⟨⟩ -)
 refine ZG ?_ J (fun w0=>?_)
 refine Z8 J J J J (fun w0=>?_) ?_
 refine Zla ?_
 exact Z9 rfl
 refine Z8 J J J J (fun w0=>?_) ?_
 refine Zo J ?_
 exact Z9 rfl
 exact AgainG.nil
 refine Z1 J J (Z4 (Z5 J ?_))
 (refine ZC0 rfl ZK (fun w hS=>frame hS ZQ (fun B' hB hS'=>ref17_perhaps hS' f _ (kApiFunc.K_grow hB hf) n (decide (0<parF k)))) ?_;rintro ⟨⟩ -)
 refine ZG ?_ J (fun w0=>?_)
 exact AgainG.nil
 refine Z6 (Zp J (Zzd ?_))
 have hpn:=parF_in k
 have hop:operK f k letter n=lateF f.fKinds k n:=by unfold operK;rw [if_neg (show ¬ (letter=119∨letter=114) by omega),if_neg (show ¬ (letter=103∨letter=102) by omega),if_neg h50,if_pos h56]
 exact ⟨(),trivial,by rw [hop,late_perhaps];rfl,Lh⟩
 refine Zh (Zi (Zy J J (Zp J (Zn (Za (wC (fun h64=>?_) (fun h64=>?_)))))))
 refine Zh (wDrawG J [0,1,2,3] [(4,[0,1],[]),(5,[],[])] [6] 24 ZK J J (fun w0=>?_))
 refine Zla ?_
 refine Zo J (Zz (n:=0) (m:=0) J J J (Zld ?_))
 refine Z4 (Z5 J ?_)
 (refine ZC0 rfl ZK (fun w hS=>frame hS ZQ (fun B' hB hS'=>ref5_Answers hS' f.fClass)) ?_;rintro ⟨⟩ -)
 refine ZG ?_ J (fun w0=>?_)
 refine Z8 J J J J (fun w0=>?_) ?_
 refine Zla ?_
 exact Z9 rfl
 refine Z8 J J J J (fun w0=>?_) ?_
 refine Zo J ?_
 exact Z9 rfl
 exact AgainG.nil
 refine Z4 (Z5 J ?_)
 (refine ZC0 rfl ZK (fun w hS=>frame hS ZQ (fun B' hB hS'=>ref17_perhaps hS' f _ (kApiFunc.K_grow hB hf) n (ansF f.fClass))) ?_;rintro ⟨⟩ -)
 refine ZG ?_ J (fun w0=>?_)
 exact AgainG.nil
 refine Z6 (Zp J (Zzd ?_))
 have hop:operK f k letter n=answF f.fKinds f.fClass n:=by unfold operK;rw [if_neg (show ¬ (letter=119∨letter=114) by omega),if_neg (show ¬ (letter=103∨letter=102) by omega),if_neg h50,if_neg h56,if_pos h64]
 exact ⟨(),trivial,by rw [hop];rfl,Lh⟩
 refine Zh (Zzn ?_)
 exact ⟨(),trivial,by unfold operK;rw [if_neg ZO,if_neg ZO,if_neg h50,if_neg h56,if_neg h64];rfl,Lh⟩
 refine Zj (Zzm ?_)
 refine ZS0 (t:=11) (v':=.int .i64 k) rfl (by rw [← hk];unfold clsR;rw [if_neg h31,if_pos ZO]) ?_
 refine Zn (Za (Zk (Zh (Zh (Zi (Zy J J (Zp J (Zn (Za (wC (fun h36=>?_) (fun h36=>?_)))))))))))
 refine Zj (Za (ZY h36 ?_))
 refine Zh (Zi (Zla ?_))
 refine Zo J ?_
 (refine ZC0 rfl ZK (fun w hS=>frame hS ZQ (fun B' hB hS'=>ref17_slot hS' f _ (kApiFunc.K_grow hB hf) n 0)) ?_;rintro ⟨⟩ -)
 refine Zp J (Zzd ?_)
 exact ⟨(),trivial,by unfold operK;rw [if_pos ZO];rfl,Lh⟩
 refine Zi (Zy J J ?_)
 have hl119:¬ letter=119:=h36
 refine Zp J (Zn (Za (wC (fun h36=>?_) (fun h36=>?_))))
 refine Zh (Zi (Zla ?_))
 refine Zo J ?_
 (refine ZC0 rfl ZK (fun w hS=>frame hS ZQ (fun B' hB hS'=>ref17_slot hS' f _ (kApiFunc.K_grow hB hf) n 0)) ?_;rintro ⟨⟩ -)
 refine Zp J (Zzd ?_)
 exact ⟨(),trivial,by unfold operK;rw [if_pos ZO];rfl,Lh⟩
 refine Zh (Zh (Zi (Zy J J (Zp J (Zn (Za (wC (fun h42=>?_) (fun h42=>?_))))))))
 refine Zj (Za (ZY h42 ?_))
 refine Zh (Zi (Zla ?_))
 refine Zo J (Zo J (oAddW J J ?_))
 (refine ZC0 rfl ZK (fun w hS=>frame hS ZQ (fun B' hB hS'=>ref17_slot hS' f _ (kApiFunc.K_grow hB hf) n (IntKind.i64.wrap (1+k)))) ?_;rintro ⟨⟩ -)
 refine Zp J (Zzd ?_)
 exact ⟨(),trivial,by unfold operK;rw [if_neg ZO,if_pos ZO];rfl,Lh⟩
 refine Zi (Zy J J ?_)
 have hl103:¬ letter=103:=h42
 refine Zp J (Zn (Za (wC (fun h42=>?_) (fun h42=>?_))))
 refine Zh (Zi (Zla ?_))
 refine Zo J (Zo J (oAddW J J ?_))
 (refine ZC0 rfl ZK (fun w hS=>frame hS ZQ (fun B' hB hS'=>ref17_slot hS' f _ (kApiFunc.K_grow hB hf) n (IntKind.i64.wrap (1+k)))) ?_;rintro ⟨⟩ -)
 refine Zp J (Zzd ?_)
 exact ⟨(),trivial,by unfold operK;rw [if_neg ZO,if_pos ZO];rfl,Lh⟩
 refine Zh (Zi (Zy J J (Zp J (Zn (Za (wC (fun h50=>?_) (fun h50=>?_)))))))
 refine Zh (Zi (Zla ?_))
 refine Zo J (Zo J ?_)
 (refine ZC0 rfl ZK (fun w hS=>frame hS ZQ (fun B' hB hS'=>ref17_called hS' f _ (kApiFunc.K_grow hB hf) n k)) ?_;rintro ⟨⟩ -)
 refine Zp J (Zzd ?_)
 exact ⟨(),trivial,by unfold operK;rw [if_neg ZO,if_neg ZO,if_pos h50];rfl,Lh⟩
 refine Zh (Zi (Zy J J (Zp J (Zn (Za (wC (fun h56=>?_) (fun h56=>?_)))))))
 refine Zh (wDrawG J [0,1,2] [(3,[0,1],[4]),(5,[],[])] [6] 24 ZK J J (fun w0=>?_))
 refine Zla ?_
 refine Zo J (Zo J (Z4 (Z5 J ?_)))
 (refine ZC0 rfl ZK (fun w hS=>frame hS ZQ (fun B' hB hS'=>ref5_Params hS' k)) ?_;rintro ⟨⟩ -)
 refine ZG ?_ J (fun w0=>?_)
 refine Z8 J J J J (fun w0=>?_) ?_
 refine Zla ?_
 exact Z9 rfl
 refine Z8 J J J J (fun w0=>?_) ?_
 refine Zo J ?_
 exact Z9 rfl
 exact AgainG.nil
 refine Z1 J J (Z4 (Z5 J ?_))
 (refine ZC0 rfl ZK (fun w hS=>frame hS ZQ (fun B' hB hS'=>ref17_perhaps hS' f _ (kApiFunc.K_grow hB hf) n (decide (0<parF k)))) ?_;rintro ⟨⟩ -)
 refine ZG ?_ J (fun w0=>?_)
 exact AgainG.nil
 refine Z6 (Zp J (Zzd ?_))
 have hpn:=parF_in k
 have hop:operK f k letter n=lateF f.fKinds k n:=by unfold operK;rw [if_neg (show ¬ (letter=119∨letter=114) by omega),if_neg (show ¬ (letter=103∨letter=102) by omega),if_neg h50,if_pos h56]
 exact ⟨(),trivial,by rw [hop,late_perhaps];rfl,Lh⟩
 refine Zh (Zi (Zy J J (Zp J (Zn (Za (wC (fun h64=>?_) (fun h64=>?_)))))))
 refine Zh (wDrawG J [0,1,2,3] [(4,[0,1],[]),(5,[],[])] [6] 24 ZK J J (fun w0=>?_))
 refine Zla ?_
 refine Zo J (Zz (n:=0) (m:=0) J J J (Zld ?_))
 refine Z4 (Z5 J ?_)
 (refine ZC0 rfl ZK (fun w hS=>frame hS ZQ (fun B' hB hS'=>ref5_Answers hS' f.fClass)) ?_;rintro ⟨⟩ -)
 refine ZG ?_ J (fun w0=>?_)
 refine Z8 J J J J (fun w0=>?_) ?_
 refine Zla ?_
 exact Z9 rfl
 refine Z8 J J J J (fun w0=>?_) ?_
 refine Zo J ?_
 exact Z9 rfl
 exact AgainG.nil
 refine Z4 (Z5 J ?_)
 (refine ZC0 rfl ZK (fun w hS=>frame hS ZQ (fun B' hB hS'=>ref17_perhaps hS' f _ (kApiFunc.K_grow hB hf) n (ansF f.fClass))) ?_;rintro ⟨⟩ -)
 refine ZG ?_ J (fun w0=>?_)
 exact AgainG.nil
 refine Z6 (Zp J (Zzd ?_))
 have hop:operK f k letter n=answF f.fKinds f.fClass n:=by unfold operK;rw [if_neg (show ¬ (letter=119∨letter=114) by omega),if_neg (show ¬ (letter=103∨letter=102) by omega),if_neg h50,if_neg h56,if_pos h64]
 exact ⟨(),trivial,by rw [hop];rfl,Lh⟩
 refine Zh (Zzn ?_)
 exact ⟨(),trivial,by unfold operK;rw [if_neg ZO,if_neg ZO,if_neg h50,if_neg h56,if_neg h64];rfl,Lh⟩
 refine Zq J J (Zz (n:=0) (m:=0) J J J (Zzf ?_))
 refine Zq J J (Zy J J (Zu J J (Zn (Za (wC (fun h26=>?_) (fun h26=>?_))))))
 refine Zi (Zz (n:=3) (m:=3) J J J (Zld ?_))
 refine Zp J (Zn (Za (Zh (Zh (Zi (Zz (n:=0) (m:=0) J J J (Zld ?_)))))))
 refine Zy J J (Zn (Za (wC (fun h31=>?_) (fun h31=>?_))))
 refine Zi (Zz (n:=3) (m:=3) J J J (Zld ?_))
 refine oSubW J J ?_
 rw [hz]
 refine Zp J (Zn (Zzm ?_))
 refine ZS0 (t:=11) (v':=.int .i64 k) rfl (by rw [← hk,← hz];unfold clsR;rw [if_pos h31]) ?_
 refine Zn (Za (Zk (Zh (Zh (Zi (Zy J J (Zp J (Zn (Za (wC (fun h36=>?_) (fun h36=>?_)))))))))))
 refine Zj (Za (ZY h36 ?_))
 refine Zh (Zi (Zla ?_))
 refine Zo J ?_
 (refine ZC0 rfl ZK (fun w hS=>frame hS ZQ (fun B' hB hS'=>ref17_slot hS' f _ (kApiFunc.K_grow hB hf) n 0)) ?_;rintro ⟨⟩ -)
 refine Zp J (Zzd ?_)
 exact ⟨(),trivial,by unfold operK;rw [if_pos ZO];rfl,Lh⟩
 refine Zi (Zy J J ?_)
 have hl119:¬ letter=119:=h36
 refine Zp J (Zn (Za (wC (fun h36=>?_) (fun h36=>?_))))
 refine Zh (Zi (Zla ?_))
 refine Zo J ?_
 (refine ZC0 rfl ZK (fun w hS=>frame hS ZQ (fun B' hB hS'=>ref17_slot hS' f _ (kApiFunc.K_grow hB hf) n 0)) ?_;rintro ⟨⟩ -)
 refine Zp J (Zzd ?_)
 exact ⟨(),trivial,by unfold operK;rw [if_pos ZO];rfl,Lh⟩
 refine Zh (Zh (Zi (Zy J J (Zp J (Zn (Za (wC (fun h42=>?_) (fun h42=>?_))))))))
 refine Zj (Za (ZY h42 ?_))
 refine Zh (Zi (Zla ?_))
 refine Zo J (Zo J (oAddW J J ?_))
 (refine ZC0 rfl ZK (fun w hS=>frame hS ZQ (fun B' hB hS'=>ref17_slot hS' f _ (kApiFunc.K_grow hB hf) n (IntKind.i64.wrap (1+k)))) ?_;rintro ⟨⟩ -)
 refine Zp J (Zzd ?_)
 exact ⟨(),trivial,by unfold operK;rw [if_neg ZO,if_pos ZO];rfl,Lh⟩
 refine Zi (Zy J J ?_)
 have hl103:¬ letter=103:=h42
 refine Zp J (Zn (Za (wC (fun h42=>?_) (fun h42=>?_))))
 refine Zh (Zi (Zla ?_))
 refine Zo J (Zo J (oAddW J J ?_))
 (refine ZC0 rfl ZK (fun w hS=>frame hS ZQ (fun B' hB hS'=>ref17_slot hS' f _ (kApiFunc.K_grow hB hf) n (IntKind.i64.wrap (1+k)))) ?_;rintro ⟨⟩ -)
 refine Zp J (Zzd ?_)
 exact ⟨(),trivial,by unfold operK;rw [if_neg ZO,if_pos ZO];rfl,Lh⟩
 refine Zh (Zi (Zy J J (Zp J (Zn (Za (wC (fun h50=>?_) (fun h50=>?_)))))))
 refine Zh (Zi (Zla ?_))
 refine Zo J (Zo J ?_)
 (refine ZC0 rfl ZK (fun w hS=>frame hS ZQ (fun B' hB hS'=>ref17_called hS' f _ (kApiFunc.K_grow hB hf) n k)) ?_;rintro ⟨⟩ -)
 refine Zp J (Zzd ?_)
 exact ⟨(),trivial,by unfold operK;rw [if_neg ZO,if_neg ZO,if_pos h50];rfl,Lh⟩
 refine Zh (Zi (Zy J J (Zp J (Zn (Za (wC (fun h56=>?_) (fun h56=>?_)))))))
 refine Zh (wDrawG J [0,1,2] [(3,[0,1],[4]),(5,[],[])] [6] 24 ZK J J (fun w0=>?_))
 refine Zla ?_
 refine Zo J (Zo J (Z4 (Z5 J ?_)))
 (refine ZC0 rfl ZK (fun w hS=>frame hS ZQ (fun B' hB hS'=>ref5_Params hS' k)) ?_;rintro ⟨⟩ -)
 refine ZG ?_ J (fun w0=>?_)
 refine Z8 J J J J (fun w0=>?_) ?_
 refine Zla ?_
 exact Z9 rfl
 refine Z8 J J J J (fun w0=>?_) ?_
 refine Zo J ?_
 exact Z9 rfl
 exact AgainG.nil
 refine Z1 J J (Z4 (Z5 J ?_))
 (refine ZC0 rfl ZK (fun w hS=>frame hS ZQ (fun B' hB hS'=>ref17_perhaps hS' f _ (kApiFunc.K_grow hB hf) n (decide (0<parF k)))) ?_;rintro ⟨⟩ -)
 refine ZG ?_ J (fun w0=>?_)
 exact AgainG.nil
 refine Z6 (Zp J (Zzd ?_))
 have hpn:=parF_in k
 have hop:operK f k letter n=lateF f.fKinds k n:=by unfold operK;rw [if_neg (show ¬ (letter=119∨letter=114) by omega),if_neg (show ¬ (letter=103∨letter=102) by omega),if_neg h50,if_pos h56]
 exact ⟨(),trivial,by rw [hop,late_perhaps];rfl,Lh⟩
 refine Zh (Zi (Zy J J (Zp J (Zn (Za (wC (fun h64=>?_) (fun h64=>?_)))))))
 refine Zh (wDrawG J [0,1,2,3] [(4,[0,1],[]),(5,[],[])] [6] 24 ZK J J (fun w0=>?_))
 refine Zla ?_
 refine Zo J (Zz (n:=0) (m:=0) J J J (Zld ?_))
 refine Z4 (Z5 J ?_)
 (refine ZC0 rfl ZK (fun w hS=>frame hS ZQ (fun B' hB hS'=>ref5_Answers hS' f.fClass)) ?_;rintro ⟨⟩ -)
 refine ZG ?_ J (fun w0=>?_)
 refine Z8 J J J J (fun w0=>?_) ?_
 refine Zla ?_
 exact Z9 rfl
 refine Z8 J J J J (fun w0=>?_) ?_
 refine Zo J ?_
 exact Z9 rfl
 exact AgainG.nil
 refine Z4 (Z5 J ?_)
 (refine ZC0 rfl ZK (fun w hS=>frame hS ZQ (fun B' hB hS'=>ref17_perhaps hS' f _ (kApiFunc.K_grow hB hf) n (ansF f.fClass))) ?_;rintro ⟨⟩ -)
 refine ZG ?_ J (fun w0=>?_)
 exact AgainG.nil
 refine Z6 (Zp J (Zzd ?_))
 have hop:operK f k letter n=answF f.fKinds f.fClass n:=by unfold operK;rw [if_neg (show ¬ (letter=119∨letter=114) by omega),if_neg (show ¬ (letter=103∨letter=102) by omega),if_neg h50,if_neg h56,if_pos h64]
 exact ⟨(),trivial,by rw [hop];rfl,Lh⟩
 refine Zh (Zzn ?_)
 exact ⟨(),trivial,by unfold operK;rw [if_neg ZO,if_neg ZO,if_neg h50,if_neg h56,if_neg h64];rfl,Lh⟩
 refine Zj (Zzm ?_)
 refine ZS0 (t:=11) (v':=.int .i64 k) rfl (by rw [← hk];unfold clsR;rw [if_neg h31,if_pos ZO]) ?_
 refine Zn (Za (Zk (Zh (Zh (Zi (Zy J J (Zp J (Zn (Za (wC (fun h36=>?_) (fun h36=>?_)))))))))))
 refine Zj (Za (ZY h36 ?_))
 refine Zh (Zi (Zla ?_))
 refine Zo J ?_
 (refine ZC0 rfl ZK (fun w hS=>frame hS ZQ (fun B' hB hS'=>ref17_slot hS' f _ (kApiFunc.K_grow hB hf) n 0)) ?_;rintro ⟨⟩ -)
 refine Zp J (Zzd ?_)
 exact ⟨(),trivial,by unfold operK;rw [if_pos ZO];rfl,Lh⟩
 refine Zi (Zy J J ?_)
 have hl119:¬ letter=119:=h36
 refine Zp J (Zn (Za (wC (fun h36=>?_) (fun h36=>?_))))
 refine Zh (Zi (Zla ?_))
 refine Zo J ?_
 (refine ZC0 rfl ZK (fun w hS=>frame hS ZQ (fun B' hB hS'=>ref17_slot hS' f _ (kApiFunc.K_grow hB hf) n 0)) ?_;rintro ⟨⟩ -)
 refine Zp J (Zzd ?_)
 exact ⟨(),trivial,by unfold operK;rw [if_pos ZO];rfl,Lh⟩
 refine Zh (Zh (Zi (Zy J J (Zp J (Zn (Za (wC (fun h42=>?_) (fun h42=>?_))))))))
 refine Zj (Za (ZY h42 ?_))
 refine Zh (Zi (Zla ?_))
 refine Zo J (Zo J (oAddW J J ?_))
 (refine ZC0 rfl ZK (fun w hS=>frame hS ZQ (fun B' hB hS'=>ref17_slot hS' f _ (kApiFunc.K_grow hB hf) n (IntKind.i64.wrap (1+k)))) ?_;rintro ⟨⟩ -)
 refine Zp J (Zzd ?_)
 exact ⟨(),trivial,by unfold operK;rw [if_neg ZO,if_pos ZO];rfl,Lh⟩
 refine Zi (Zy J J ?_)
 have hl103:¬ letter=103:=h42
 refine Zp J (Zn (Za (wC (fun h42=>?_) (fun h42=>?_))))
 refine Zh (Zi (Zla ?_))
 refine Zo J (Zo J (oAddW J J ?_))
 (refine ZC0 rfl ZK (fun w hS=>frame hS ZQ (fun B' hB hS'=>ref17_slot hS' f _ (kApiFunc.K_grow hB hf) n (IntKind.i64.wrap (1+k)))) ?_;rintro ⟨⟩ -)
 refine Zp J (Zzd ?_)
 exact ⟨(),trivial,by unfold operK;rw [if_neg ZO,if_pos ZO];rfl,Lh⟩
 refine Zh (Zi (Zy J J (Zp J (Zn (Za (wC (fun h50=>?_) (fun h50=>?_)))))))
 refine Zh (Zi (Zla ?_))
 refine Zo J (Zo J ?_)
 (refine ZC0 rfl ZK (fun w hS=>frame hS ZQ (fun B' hB hS'=>ref17_called hS' f _ (kApiFunc.K_grow hB hf) n k)) ?_;rintro ⟨⟩ -)
 refine Zp J (Zzd ?_)
 exact ⟨(),trivial,by unfold operK;rw [if_neg ZO,if_neg ZO,if_pos h50];rfl,Lh⟩
 refine Zh (Zi (Zy J J (Zp J (Zn (Za (wC (fun h56=>?_) (fun h56=>?_)))))))
 refine Zh (wDrawG J [0,1,2] [(3,[0,1],[4]),(5,[],[])] [6] 24 ZK J J (fun w0=>?_))
 refine Zla ?_
 refine Zo J (Zo J (Z4 (Z5 J ?_)))
 (refine ZC0 rfl ZK (fun w hS=>frame hS ZQ (fun B' hB hS'=>ref5_Params hS' k)) ?_;rintro ⟨⟩ -)
 refine ZG ?_ J (fun w0=>?_)
 refine Z8 J J J J (fun w0=>?_) ?_
 refine Zla ?_
 exact Z9 rfl
 refine Z8 J J J J (fun w0=>?_) ?_
 refine Zo J ?_
 exact Z9 rfl
 exact AgainG.nil
 refine Z1 J J (Z4 (Z5 J ?_))
 (refine ZC0 rfl ZK (fun w hS=>frame hS ZQ (fun B' hB hS'=>ref17_perhaps hS' f _ (kApiFunc.K_grow hB hf) n (decide (0<parF k)))) ?_;rintro ⟨⟩ -)
 refine ZG ?_ J (fun w0=>?_)
 exact AgainG.nil
 refine Z6 (Zp J (Zzd ?_))
 have hpn:=parF_in k
 have hop:operK f k letter n=lateF f.fKinds k n:=by unfold operK;rw [if_neg (show ¬ (letter=119∨letter=114) by omega),if_neg (show ¬ (letter=103∨letter=102) by omega),if_neg h50,if_pos h56]
 exact ⟨(),trivial,by rw [hop,late_perhaps];rfl,Lh⟩
 refine Zh (Zi (Zy J J (Zp J (Zn (Za (wC (fun h64=>?_) (fun h64=>?_)))))))
 refine Zh (wDrawG J [0,1,2,3] [(4,[0,1],[]),(5,[],[])] [6] 24 ZK J J (fun w0=>?_))
 refine Zla ?_
 refine Zo J (Zz (n:=0) (m:=0) J J J (Zld ?_))
 refine Z4 (Z5 J ?_)
 (refine ZC0 rfl ZK (fun w hS=>frame hS ZQ (fun B' hB hS'=>ref5_Answers hS' f.fClass)) ?_;rintro ⟨⟩ -)
 refine ZG ?_ J (fun w0=>?_)
 refine Z8 J J J J (fun w0=>?_) ?_
 refine Zla ?_
 exact Z9 rfl
 refine Z8 J J J J (fun w0=>?_) ?_
 refine Zo J ?_
 exact Z9 rfl
 exact AgainG.nil
 refine Z4 (Z5 J ?_)
 (refine ZC0 rfl ZK (fun w hS=>frame hS ZQ (fun B' hB hS'=>ref17_perhaps hS' f _ (kApiFunc.K_grow hB hf) n (ansF f.fClass))) ?_;rintro ⟨⟩ -)
 refine ZG ?_ J (fun w0=>?_)
 exact AgainG.nil
 refine Z6 (Zp J (Zzd ?_))
 have hop:operK f k letter n=answF f.fKinds f.fClass n:=by unfold operK;rw [if_neg (show ¬ (letter=119∨letter=114) by omega),if_neg (show ¬ (letter=103∨letter=102) by omega),if_neg h50,if_neg h56,if_pos h64]
 exact ⟨(),trivial,by rw [hop];rfl,Lh⟩
 refine Zh (Zzn ?_)
 exact ⟨(),trivial,by unfold operK;rw [if_neg ZO,if_neg ZO,if_neg h50,if_neg h56,if_neg h64];rfl,Lh⟩
 refine Zj (Za (Zh (Zh (Zi (Zz (n:=0) (m:=0) J J J (Zld ?_))))))
 refine Zy J J (Zn (Za (wC (fun h31=>?_) (fun h31=>?_))))
 refine Zi (Zz (n:=3) (m:=3) J J J (Zld ?_))
 refine oSubW J J ?_
 rw [hz]
 refine Zp J (Zn (Zzm ?_))
 refine ZS0 (t:=11) (v':=.int .i64 k) rfl (by rw [← hk,← hz];unfold clsR;rw [if_pos h31]) ?_
 refine Zn (Za (Zk (Zh (Zh (Zi (Zy J J (Zp J (Zn (Za (wC (fun h36=>?_) (fun h36=>?_)))))))))))
 refine Zj (Za (ZY h36 ?_))
 refine Zh (Zi (Zla ?_))
 refine Zo J ?_
 (refine ZC0 rfl ZK (fun w hS=>frame hS ZQ (fun B' hB hS'=>ref17_slot hS' f _ (kApiFunc.K_grow hB hf) n 0)) ?_;rintro ⟨⟩ -)
 refine Zp J (Zzd ?_)
 exact ⟨(),trivial,by unfold operK;rw [if_pos ZO];rfl,Lh⟩
 refine Zi (Zy J J ?_)
 have hl119:¬ letter=119:=h36
 refine Zp J (Zn (Za (wC (fun h36=>?_) (fun h36=>?_))))
 refine Zh (Zi (Zla ?_))
 refine Zo J ?_
 (refine ZC0 rfl ZK (fun w hS=>frame hS ZQ (fun B' hB hS'=>ref17_slot hS' f _ (kApiFunc.K_grow hB hf) n 0)) ?_;rintro ⟨⟩ -)
 refine Zp J (Zzd ?_)
 exact ⟨(),trivial,by unfold operK;rw [if_pos ZO];rfl,Lh⟩
 refine Zh (Zh (Zi (Zy J J (Zp J (Zn (Za (wC (fun h42=>?_) (fun h42=>?_))))))))
 refine Zj (Za (ZY h42 ?_))
 refine Zh (Zi (Zla ?_))
 refine Zo J (Zo J (oAddW J J ?_))
 (refine ZC0 rfl ZK (fun w hS=>frame hS ZQ (fun B' hB hS'=>ref17_slot hS' f _ (kApiFunc.K_grow hB hf) n (IntKind.i64.wrap (1+k)))) ?_;rintro ⟨⟩ -)
 refine Zp J (Zzd ?_)
 exact ⟨(),trivial,by unfold operK;rw [if_neg ZO,if_pos ZO];rfl,Lh⟩
 refine Zi (Zy J J ?_)
 have hl103:¬ letter=103:=h42
 refine Zp J (Zn (Za (wC (fun h42=>?_) (fun h42=>?_))))
 refine Zh (Zi (Zla ?_))
 refine Zo J (Zo J (oAddW J J ?_))
 (refine ZC0 rfl ZK (fun w hS=>frame hS ZQ (fun B' hB hS'=>ref17_slot hS' f _ (kApiFunc.K_grow hB hf) n (IntKind.i64.wrap (1+k)))) ?_;rintro ⟨⟩ -)
 refine Zp J (Zzd ?_)
 exact ⟨(),trivial,by unfold operK;rw [if_neg ZO,if_pos ZO];rfl,Lh⟩
 refine Zh (Zi (Zy J J (Zp J (Zn (Za (wC (fun h50=>?_) (fun h50=>?_)))))))
 refine Zh (Zi (Zla ?_))
 refine Zo J (Zo J ?_)
 (refine ZC0 rfl ZK (fun w hS=>frame hS ZQ (fun B' hB hS'=>ref17_called hS' f _ (kApiFunc.K_grow hB hf) n k)) ?_;rintro ⟨⟩ -)
 refine Zp J (Zzd ?_)
 exact ⟨(),trivial,by unfold operK;rw [if_neg ZO,if_neg ZO,if_pos h50];rfl,Lh⟩
 refine Zh (Zi (Zy J J (Zp J (Zn (Za (wC (fun h56=>?_) (fun h56=>?_)))))))
 refine Zh (wDrawG J [0,1,2] [(3,[0,1],[4]),(5,[],[])] [6] 24 ZK J J (fun w0=>?_))
 refine Zla ?_
 refine Zo J (Zo J (Z4 (Z5 J ?_)))
 (refine ZC0 rfl ZK (fun w hS=>frame hS ZQ (fun B' hB hS'=>ref5_Params hS' k)) ?_;rintro ⟨⟩ -)
 refine ZG ?_ J (fun w0=>?_)
 refine Z8 J J J J (fun w0=>?_) ?_
 refine Zla ?_
 exact Z9 rfl
 refine Z8 J J J J (fun w0=>?_) ?_
 refine Zo J ?_
 exact Z9 rfl
 exact AgainG.nil
 refine Z1 J J (Z4 (Z5 J ?_))
 (refine ZC0 rfl ZK (fun w hS=>frame hS ZQ (fun B' hB hS'=>ref17_perhaps hS' f _ (kApiFunc.K_grow hB hf) n (decide (0<parF k)))) ?_;rintro ⟨⟩ -)
 refine ZG ?_ J (fun w0=>?_)
 exact AgainG.nil
 refine Z6 (Zp J (Zzd ?_))
 have hpn:=parF_in k
 have hop:operK f k letter n=lateF f.fKinds k n:=by unfold operK;rw [if_neg (show ¬ (letter=119∨letter=114) by omega),if_neg (show ¬ (letter=103∨letter=102) by omega),if_neg h50,if_pos h56]
 exact ⟨(),trivial,by rw [hop,late_perhaps];rfl,Lh⟩
 refine Zh (Zi (Zy J J (Zp J (Zn (Za (wC (fun h64=>?_) (fun h64=>?_)))))))
 refine Zh (wDrawG J [0,1,2,3] [(4,[0,1],[]),(5,[],[])] [6] 24 ZK J J (fun w0=>?_))
 refine Zla ?_
 refine Zo J (Zz (n:=0) (m:=0) J J J (Zld ?_))
 refine Z4 (Z5 J ?_)
 (refine ZC0 rfl ZK (fun w hS=>frame hS ZQ (fun B' hB hS'=>ref5_Answers hS' f.fClass)) ?_;rintro ⟨⟩ -)
 refine ZG ?_ J (fun w0=>?_)
 refine Z8 J J J J (fun w0=>?_) ?_
 refine Zla ?_
 exact Z9 rfl
 refine Z8 J J J J (fun w0=>?_) ?_
 refine Zo J ?_
 exact Z9 rfl
 exact AgainG.nil
 refine Z4 (Z5 J ?_)
 (refine ZC0 rfl ZK (fun w hS=>frame hS ZQ (fun B' hB hS'=>ref17_perhaps hS' f _ (kApiFunc.K_grow hB hf) n (ansF f.fClass))) ?_;rintro ⟨⟩ -)
 refine ZG ?_ J (fun w0=>?_)
 exact AgainG.nil
 refine Z6 (Zp J (Zzd ?_))
 have hop:operK f k letter n=answF f.fKinds f.fClass n:=by unfold operK;rw [if_neg (show ¬ (letter=119∨letter=114) by omega),if_neg (show ¬ (letter=103∨letter=102) by omega),if_neg h50,if_neg h56,if_pos h64]
 exact ⟨(),trivial,by rw [hop];rfl,Lh⟩
 refine Zh (Zzn ?_)
 exact ⟨(),trivial,by unfold operK;rw [if_neg ZO,if_neg ZO,if_neg h50,if_neg h56,if_neg h64];rfl,Lh⟩
 refine Zj (Zzm ?_)
 refine ZS0 (t:=11) (v':=.int .i64 k) rfl (by rw [← hk];unfold clsR;rw [if_neg h31,if_neg ZO]) ?_
 refine Zn (Za (Zk (Zh (Zh (Zi (Zy J J (Zp J (Zn (Za (wC (fun h36=>?_) (fun h36=>?_)))))))))))
 refine Zj (Za (ZY h36 ?_))
 refine Zh (Zi (Zla ?_))
 refine Zo J ?_
 (refine ZC0 rfl ZK (fun w hS=>frame hS ZQ (fun B' hB hS'=>ref17_slot hS' f _ (kApiFunc.K_grow hB hf) n 0)) ?_;rintro ⟨⟩ -)
 refine Zp J (Zzd ?_)
 exact ⟨(),trivial,by unfold operK;rw [if_pos ZO];rfl,Lh⟩
 refine Zi (Zy J J ?_)
 have hl119:¬ letter=119:=h36
 refine Zp J (Zn (Za (wC (fun h36=>?_) (fun h36=>?_))))
 refine Zh (Zi (Zla ?_))
 refine Zo J ?_
 (refine ZC0 rfl ZK (fun w hS=>frame hS ZQ (fun B' hB hS'=>ref17_slot hS' f _ (kApiFunc.K_grow hB hf) n 0)) ?_;rintro ⟨⟩ -)
 refine Zp J (Zzd ?_)
 exact ⟨(),trivial,by unfold operK;rw [if_pos ZO];rfl,Lh⟩
 refine Zh (Zh (Zi (Zy J J (Zp J (Zn (Za (wC (fun h42=>?_) (fun h42=>?_))))))))
 refine Zj (Za (ZY h42 ?_))
 refine Zh (Zi (Zla ?_))
 refine Zo J (Zo J (oAddW J J ?_))
 (refine ZC0 rfl ZK (fun w hS=>frame hS ZQ (fun B' hB hS'=>ref17_slot hS' f _ (kApiFunc.K_grow hB hf) n (IntKind.i64.wrap (1+k)))) ?_;rintro ⟨⟩ -)
 refine Zp J (Zzd ?_)
 exact ⟨(),trivial,by unfold operK;rw [if_neg ZO,if_pos ZO];rfl,Lh⟩
 refine Zi (Zy J J ?_)
 have hl103:¬ letter=103:=h42
 refine Zp J (Zn (Za (wC (fun h42=>?_) (fun h42=>?_))))
 refine Zh (Zi (Zla ?_))
 refine Zo J (Zo J (oAddW J J ?_))
 (refine ZC0 rfl ZK (fun w hS=>frame hS ZQ (fun B' hB hS'=>ref17_slot hS' f _ (kApiFunc.K_grow hB hf) n (IntKind.i64.wrap (1+k)))) ?_;rintro ⟨⟩ -)
 refine Zp J (Zzd ?_)
 exact ⟨(),trivial,by unfold operK;rw [if_neg ZO,if_pos ZO];rfl,Lh⟩
 refine Zh (Zi (Zy J J (Zp J (Zn (Za (wC (fun h50=>?_) (fun h50=>?_)))))))
 refine Zh (Zi (Zla ?_))
 refine Zo J (Zo J ?_)
 (refine ZC0 rfl ZK (fun w hS=>frame hS ZQ (fun B' hB hS'=>ref17_called hS' f _ (kApiFunc.K_grow hB hf) n k)) ?_;rintro ⟨⟩ -)
 refine Zp J (Zzd ?_)
 exact ⟨(),trivial,by unfold operK;rw [if_neg ZO,if_neg ZO,if_pos h50];rfl,Lh⟩
 refine Zh (Zi (Zy J J (Zp J (Zn (Za (wC (fun h56=>?_) (fun h56=>?_)))))))
 refine Zh (wDrawG J [0,1,2] [(3,[0,1],[4]),(5,[],[])] [6] 24 ZK J J (fun w0=>?_))
 refine Zla ?_
 refine Zo J (Zo J (Z4 (Z5 J ?_)))
 (refine ZC0 rfl ZK (fun w hS=>frame hS ZQ (fun B' hB hS'=>ref5_Params hS' k)) ?_;rintro ⟨⟩ -)
 refine ZG ?_ J (fun w0=>?_)
 refine Z8 J J J J (fun w0=>?_) ?_
 refine Zla ?_
 exact Z9 rfl
 refine Z8 J J J J (fun w0=>?_) ?_
 refine Zo J ?_
 exact Z9 rfl
 exact AgainG.nil
 refine Z1 J J (Z4 (Z5 J ?_))
 (refine ZC0 rfl ZK (fun w hS=>frame hS ZQ (fun B' hB hS'=>ref17_perhaps hS' f _ (kApiFunc.K_grow hB hf) n (decide (0<parF k)))) ?_;rintro ⟨⟩ -)
 refine ZG ?_ J (fun w0=>?_)
 exact AgainG.nil
 refine Z6 (Zp J (Zzd ?_))
 have hpn:=parF_in k
 have hop:operK f k letter n=lateF f.fKinds k n:=by unfold operK;rw [if_neg (show ¬ (letter=119∨letter=114) by omega),if_neg (show ¬ (letter=103∨letter=102) by omega),if_neg h50,if_pos h56]
 exact ⟨(),trivial,by rw [hop,late_perhaps];rfl,Lh⟩
 refine Zh (Zi (Zy J J (Zp J (Zn (Za (wC (fun h64=>?_) (fun h64=>?_)))))))
 refine Zh (wDrawG J [0,1,2,3] [(4,[0,1],[]),(5,[],[])] [6] 24 ZK J J (fun w0=>?_))
 refine Zla ?_
 refine Zo J (Zz (n:=0) (m:=0) J J J (Zld ?_))
 refine Z4 (Z5 J ?_)
 (refine ZC0 rfl ZK (fun w hS=>frame hS ZQ (fun B' hB hS'=>ref5_Answers hS' f.fClass)) ?_;rintro ⟨⟩ -)
 refine ZG ?_ J (fun w0=>?_)
 refine Z8 J J J J (fun w0=>?_) ?_
 refine Zla ?_
 exact Z9 rfl
 refine Z8 J J J J (fun w0=>?_) ?_
 refine Zo J ?_
 exact Z9 rfl
 exact AgainG.nil
 refine Z4 (Z5 J ?_)
 (refine ZC0 rfl ZK (fun w hS=>frame hS ZQ (fun B' hB hS'=>ref17_perhaps hS' f _ (kApiFunc.K_grow hB hf) n (ansF f.fClass))) ?_;rintro ⟨⟩ -)
 refine ZG ?_ J (fun w0=>?_)
 exact AgainG.nil
 refine Z6 (Zp J (Zzd ?_))
 have hop:operK f k letter n=answF f.fKinds f.fClass n:=by unfold operK;rw [if_neg (show ¬ (letter=119∨letter=114) by omega),if_neg (show ¬ (letter=103∨letter=102) by omega),if_neg h50,if_neg h56,if_pos h64]
 exact ⟨(),trivial,by rw [hop];rfl,Lh⟩
 refine Zh (Zzn ?_)
 exact ⟨(),trivial,by unfold operK;rw [if_neg ZO,if_neg ZO,if_neg h50,if_neg h56,if_neg h64];rfl,Lh⟩
theorem ref17_Instr {B:Base}{w:World}(hS:St B [] w) (f:ApiFunc) (fc:List Value) (hf:kApiFunc.K B.e f fc) (Al:Option Addr) (cl:Nat) (l:List ApiSymbol) (hl:kApiSymbol.C B.e Al l) (i:Int) :
 CW 108 #[.agg fc.toArray,.slice Al l.length cl,.int .i64 i] w (Ret B (fun _:Unit=>True) (fun _=>.int .i64 (instrF f l i)) (fun _=>[])):=by
 obtain ⟨A0,c0,A1,c1,A2,c2,A3,c3,rfl,l0,g0,l1,g1,l2,g2,l3,g3⟩:=kApiFunc_open hf
 refine ZX Tryz.func108 hS ?_
 refine Zh (Zi (oBox J ZP (fun b3=>?_)))
 refine Zp J (Zn (Za (Zh (Zh (Zi (Zo J (Zx J J (Zo J (ZS (ZT 15) (fun h15=>?_) (fun h15=>?_))))))))))
 refine Zr J J J J (Zr J J J J (Zr J J J J (Zr J J J J (Zr J J J J (Zt J J (Zn (Za (wCondT J (Zh (Zi (Zzc ?_)))))))))))
 exact ⟨(),trivial,by unfold instrF;rw [if_pos (.inl h15)];rfl,Lh⟩
 refine Zq J J (Zo J (Zq J J (Zz (n:=7) (m:=7) J J J (Zzf ?_))))
 refine Zq J J (Zv J J (Zq J J (Z2 J J (Zu J J (Zn (Za (wC (fun h21=>?_) (fun h21=>?_))))))))
 refine Zh (Zi (Zzc ?_))
 exact ⟨(),trivial,by unfold instrF;rw [if_pos (.inr h21)];rfl,Lh⟩
 have hir:¬ (i<0∨(f.fCode.length:Int)≤i):=by omega
 obtain ⟨n,rfl⟩:=Int.eq_ofNat_of_zero_le (show 0≤i by omega)
 have hnl:n<f.fCode.length:=by omega
 obtain ⟨x,hx⟩:∃ x,f.fCode[n]?=some x:=⟨_,List.getElem?_eq_getElem hnl⟩
 have hca:codeAt f (n:Int)=x:=by unfold codeAt;rw [Int.toNat_natCast,List.getD_eq_getElem?_getD,hx];rfl
 obtain ⟨e0,cs0,hE0⟩:=g2.elm hx
 obtain rfl:=kApiInstr_open hE0.K
 have hsz:=shapeF_size x.fOp
 have hs4:(shapeF x.fOp).size≤4:=by rw [hsz];split <;> omega
 refine Zj (Za (Zh (Zi (Zz (n:=7) (m:=7) J J J (Zld ?_)))))
 refine Zo J (oIdxE J J (hE0) ZO J J ?_)
 have hc25:=(hE0).cell
 refine Zlx hc25 ?_
 refine oAlloc J ZP (fun b7=>?_)
 refine Zsa ?_
 refine Zn (Za (Zzs ?_))
 refine Zo J (Zo J ?_)
 (refine ZC0 rfl ZK (fun w hS=>frame hS ZQ (fun B' hB hS'=>ref17_refers hS' f _ (kApiFunc.K_grow hB hf) Al cl l (Kd.C_grow hB hl) n hnl)) ?_;rintro ⟨⟩ -)
 refine Zo J (oExt J ZP ?_)
 refine oExt J ZP ?_
 refine oAlloc J ZP (fun b8=>?_)
 refine Zsa ?_
 refine Zp J (Zn (Za (Zh (Zh (Zi (Zo J (Z0 J J (Zn (Za (wC (fun h35=>?_) (fun h35=>?_)))))))))))
 refine Zh (Zi (Zo J (Zzc ?_)))
 exact ⟨(),trivial,by unfold instrF;rw [if_neg hir,if_pos h35];rfl,Lh⟩
 have hiR:=instrF_R hir (Classical.not_not.1 h35)
 rw [hca] at hiR
 generalize hs:refS f l (n:Int)=s at *
 refine Zj (Za (Zh (Zh (Zi (Zz (n:=0) (m:=0) J J J (Zld ?_))))))
 refine Zy J J (Zo J (ZS (ZT 40) (fun h40=>?_) (fun h40=>?_)))
 refine Zq J J (Zz (n:=3) (m:=3) J J J (Zzf ?_))
 refine Zq J J ?_
 (refine ZC0 rfl ZK (fun w hS=>frame hS ZQ (fun B' hB hS'=>ref5_Is hS' x.fC)) ?_;rintro ⟨⟩ -)
 refine Zq J J (Zno ?_)
 refine Zt J J (Zo J (ZS (ZT 46) (fun h46=>?_) (fun h46=>?_)))
 refine Zr J J J J (Zr J J J J (Zr J J J J (Zr J J J J (Zs J J J (Zs J J J (Zs J J J (Zs J J J (Zr J J J J (Zt J J (Zn (Za (wCondT J (Zh (Zi (Zzc ?_)))))))))))))))
 exact ⟨(),trivial,by rw [hiR,if_pos (by simp_all)];rfl,Lh⟩
 refine Zq J J (Zz (n:=0) (m:=0) J J J (Zzf ?_))
 refine Zq J J (Zy J J (Zq J J (Zo J (ZS (ZT 50) (fun h50=>?_) (fun h50=>?_)))))
 refine Zq J J (Zz (n:=3) (m:=3) J J J (Zzf ?_))
 refine Zq J J ?_
 (refine ZC0 rfl ZK (fun w hS=>frame hS ZQ (fun B' hB hS'=>ref5_Later hS' s.fKind)) ?_;rintro ⟨⟩ -)
 refine Zq J J (Zno ?_)
 refine Zq J J (Zt J J (Zu J J (Zn (Za (wC (fun h56=>?_) (fun h56=>?_))))))
 refine Zh (Zi (Zzc ?_))
 exact ⟨(),trivial,by rw [hiR,if_pos (by simp_all)];rfl,Lh⟩
 refine Zj (Za (Zh (Zi (Zz (n:=0) (m:=0) J J J (Zld ?_)))))
 (refine ZC0 rfl ZK (fun w hS=>frame hS ZQ (fun B' hB hS'=>ref7_Shape hS' x.fOp)) ?_;rintro ⟨⟩ -)
 rw [if_neg (by simp_all)] at hiR
 refine Zp J (Zn (Za (Zh (Zh (Zi (Zp J (Zn (Za (Zk (wLoop (ι:=Nat) (fun j=>[(3,.pointer (some ⟨b3,0,none⟩)),(7,.pointer (some ⟨b7,0,none⟩)),(8,.pointer (some ⟨b8,0,none⟩)),(10,.string (shapeF x.fOp)),(11,.int .i64 (j:Int))]) (fun j=>[blk b3 57 [.int .i64 f.fClass,.slice A0 f.fKinds.length c0,.int .i64 f.fPad,.bool f.fNosplit,.int .i64 f.fFrom,.int .i64 f.fTo,.slice A1 f.fLines.length c1,.slice A2 f.fCode.length c2,.slice A3 f.fRelocs.length c3],blk b7 67 [.int .i64 x.fOp,.int .i64 x.fA,.int .i64 x.fB,.int .i64 x.fC,.int .i64 x.fN],blk b8 37 (symL s)]) (fun j=>j≤(shapeF x.fOp).size∧fstE (((List.range (shapeF x.fOp).size).map (operR f x s)).take j)=0) (fun j=>(shapeF x.fOp).size-j) 0 ?_ cv (Leads.has ZQ) ?_))))))))))
 exact ⟨Nat.zero_le _,rfl⟩
 rintro j ⟨hj,hfs⟩
 try dsimp only
 refine Zh (Zh (Zi (Zo J (Zo J (oLenStr J J (Zx J J (Zn (Za (wC (fun h63=>?_) (fun h63=>?_))))))))))
 have hj4:j<(shapeF x.fOp).size:=by omega
 refine Zj (Za (Zh (Zk (Zh (wDrawG J [0,1,2,3,4,5,6,7] [(8,[0,1,2,3,4,5],[]),(9,[],[])] [10] 24 ZK J J (fun w0=>?_))))))
 refine Zla ?_
 refine Zla ?_
 refine Zla ?_
 refine Zo J (Zo J (oIndexStr J J J hj4 (Zla ?_)))
 refine Zo J (Z4 (Z5 J ?_))
 (refine ZC0 rfl ZK (fun w hS=>frame hS ZQ (fun B' hB hS'=>ref8_Operand hS' x _ (kApiInstr_mk _ x) (j:Int))) ?_;rintro ⟨⟩ -)
 refine ZG ?_ J (fun w0=>?_)
 refine Z8 J J J J (fun w0=>?_) ?_
 refine Zla ?_
 exact Z9 rfl
 refine Z8 J J J J (fun w0=>?_) ?_
 refine Zla ?_
 exact Z9 rfl
 refine Z8 J J J J (fun w0=>?_) ?_
 refine Zla ?_
 exact Z9 rfl
 refine Z8 J J J J (fun w0=>?_) ?_
 refine Zo J ?_
 exact Z9 rfl
 refine Z8 J J J J (fun w0=>?_) ?_
 refine Zo J ?_
 exact Z9 rfl
 refine Z8 J J J J (fun w0=>?_) ?_
 refine oIndexStr J J J hj4 ?_
 exact Z9 rfl
 exact AgainG.nil
 refine Z4 (Z5 J ?_)
 (refine ZC0 rfl ZK (fun w hS=>frame hS ZQ (fun B' hB hS'=>ref17_operand hS' f _ (kApiFunc.K_grow hB hf) x _ (kApiInstr_mk _ x) s (byteAt (shapeF x.fOp) j) (opdF x j))) ?_;rintro ⟨⟩ -)
 refine ZG ?_ J (fun w0=>?_)
 exact AgainG.nil
 refine Z6 (Zp J (Zn (Za (Zh (Zi (Zo J (Z0 J J (Zn (Za (wC (fun h77=>?_) (fun h77=>?_)))))))))))
 refine Zh (Zzz ?_)
 exact ⟨(),trivial,by rw [hiR,fstE_stop hfs (rmap_at hj4) h77];rfl,Lh⟩
 refine Zj (Zze ?_)
 refine Zp J (Zn (Za ?_))
 exact ⟨rfl,j+1,⟨by omega,fstE_next hfs (rmap_at hj4) (Classical.not_not.1 h77)⟩,by omega,cv,Lh⟩
 refine Zm (Zzg ?_)
 obtain rfl:j=(shapeF x.fOp).size:=by omega
 rw [rmap_all] at hfs
 exact ⟨(),trivial,by rw [hiR,hfs];rfl,Lh⟩
 refine Zr J J J J (Zr J J J J (Zr J J J J (Zr J J J J (Zq J J (Zu J J (Zu J J (Zn (Za (wCondF J (Zj (Za (Zh (Zi (Zz (n:=0) (m:=0) J J J (Zld ?_)))))))))))))))
 (refine ZC0 rfl ZK (fun w hS=>frame hS ZQ (fun B' hB hS'=>ref7_Shape hS' x.fOp)) ?_;rintro ⟨⟩ -)
 rw [if_neg (by simp_all)] at hiR
 refine Zp J (Zn (Za (Zh (Zh (Zi (Zp J (Zn (Za (Zk (wLoop (ι:=Nat) (fun j=>[(3,.pointer (some ⟨b3,0,none⟩)),(7,.pointer (some ⟨b7,0,none⟩)),(8,.pointer (some ⟨b8,0,none⟩)),(10,.string (shapeF x.fOp)),(11,.int .i64 (j:Int))]) (fun j=>[blk b3 57 [.int .i64 f.fClass,.slice A0 f.fKinds.length c0,.int .i64 f.fPad,.bool f.fNosplit,.int .i64 f.fFrom,.int .i64 f.fTo,.slice A1 f.fLines.length c1,.slice A2 f.fCode.length c2,.slice A3 f.fRelocs.length c3],blk b7 67 [.int .i64 x.fOp,.int .i64 x.fA,.int .i64 x.fB,.int .i64 x.fC,.int .i64 x.fN],blk b8 37 (symL s)]) (fun j=>j≤(shapeF x.fOp).size∧fstE (((List.range (shapeF x.fOp).size).map (operR f x s)).take j)=0) (fun j=>(shapeF x.fOp).size-j) 0 ?_ cv (Leads.has ZQ) ?_))))))))))
 exact ⟨Nat.zero_le _,rfl⟩
 rintro j ⟨hj,hfs⟩
 try dsimp only
 refine Zh (Zh (Zi (Zo J (Zo J (oLenStr J J (Zx J J (Zn (Za (wC (fun h63=>?_) (fun h63=>?_))))))))))
 have hj4:j<(shapeF x.fOp).size:=by omega
 refine Zj (Za (Zh (Zk (Zh (wDrawG J [0,1,2,3,4,5,6,7] [(8,[0,1,2,3,4,5],[]),(9,[],[])] [10] 24 ZK J J (fun w0=>?_))))))
 refine Zla ?_
 refine Zla ?_
 refine Zla ?_
 refine Zo J (Zo J (oIndexStr J J J hj4 (Zla ?_)))
 refine Zo J (Z4 (Z5 J ?_))
 (refine ZC0 rfl ZK (fun w hS=>frame hS ZQ (fun B' hB hS'=>ref8_Operand hS' x _ (kApiInstr_mk _ x) (j:Int))) ?_;rintro ⟨⟩ -)
 refine ZG ?_ J (fun w0=>?_)
 refine Z8 J J J J (fun w0=>?_) ?_
 refine Zla ?_
 exact Z9 rfl
 refine Z8 J J J J (fun w0=>?_) ?_
 refine Zla ?_
 exact Z9 rfl
 refine Z8 J J J J (fun w0=>?_) ?_
 refine Zla ?_
 exact Z9 rfl
 refine Z8 J J J J (fun w0=>?_) ?_
 refine Zo J ?_
 exact Z9 rfl
 refine Z8 J J J J (fun w0=>?_) ?_
 refine Zo J ?_
 exact Z9 rfl
 refine Z8 J J J J (fun w0=>?_) ?_
 refine oIndexStr J J J hj4 ?_
 exact Z9 rfl
 exact AgainG.nil
 refine Z4 (Z5 J ?_)
 (refine ZC0 rfl ZK (fun w hS=>frame hS ZQ (fun B' hB hS'=>ref17_operand hS' f _ (kApiFunc.K_grow hB hf) x _ (kApiInstr_mk _ x) s (byteAt (shapeF x.fOp) j) (opdF x j))) ?_;rintro ⟨⟩ -)
 refine ZG ?_ J (fun w0=>?_)
 exact AgainG.nil
 refine Z6 (Zp J (Zn (Za (Zh (Zi (Zo J (Z0 J J (Zn (Za (wC (fun h77=>?_) (fun h77=>?_)))))))))))
 refine Zh (Zzz ?_)
 exact ⟨(),trivial,by rw [hiR,fstE_stop hfs (rmap_at hj4) h77];rfl,Lh⟩
 refine Zj (Zze ?_)
 refine Zp J (Zn (Za ?_))
 exact ⟨rfl,j+1,⟨by omega,fstE_next hfs (rmap_at hj4) (Classical.not_not.1 h77)⟩,by omega,cv,Lh⟩
 refine Zm (Zzg ?_)
 obtain rfl:j=(shapeF x.fOp).size:=by omega
 rw [rmap_all] at hfs
 exact ⟨(),trivial,by rw [hiR,hfs];rfl,Lh⟩
 refine Zr J J J J (Zr J J J J (Zr J J J J (Zr J J J J (Zu J J (Zo J (Zq J J (Zz (n:=0) (m:=0) J J J (Zzf ?_))))))))
 refine Zq J J (Zy J J (Zq J J (Zo J (ZS (ZT 50) (fun h50=>?_) (fun h50=>?_)))))
 refine Zq J J (Zz (n:=3) (m:=3) J J J (Zzf ?_))
 refine Zq J J ?_
 (refine ZC0 rfl ZK (fun w hS=>frame hS ZQ (fun B' hB hS'=>ref5_Later hS' s.fKind)) ?_;rintro ⟨⟩ -)
 refine Zq J J (Zno ?_)
 refine Zq J J (Zt J J (Zu J J (Zn (Za (wC (fun h56=>?_) (fun h56=>?_))))))
 refine Zh (Zi (Zzc ?_))
 exact ⟨(),trivial,by rw [hiR,if_pos (by simp_all)];rfl,Lh⟩
 refine Zj (Za (Zh (Zi (Zz (n:=0) (m:=0) J J J (Zld ?_)))))
 (refine ZC0 rfl ZK (fun w hS=>frame hS ZQ (fun B' hB hS'=>ref7_Shape hS' x.fOp)) ?_;rintro ⟨⟩ -)
 rw [if_neg (by simp_all)] at hiR
 refine Zp J (Zn (Za (Zh (Zh (Zi (Zp J (Zn (Za (Zk (wLoop (ι:=Nat) (fun j=>[(3,.pointer (some ⟨b3,0,none⟩)),(7,.pointer (some ⟨b7,0,none⟩)),(8,.pointer (some ⟨b8,0,none⟩)),(10,.string (shapeF x.fOp)),(11,.int .i64 (j:Int))]) (fun j=>[blk b3 57 [.int .i64 f.fClass,.slice A0 f.fKinds.length c0,.int .i64 f.fPad,.bool f.fNosplit,.int .i64 f.fFrom,.int .i64 f.fTo,.slice A1 f.fLines.length c1,.slice A2 f.fCode.length c2,.slice A3 f.fRelocs.length c3],blk b7 67 [.int .i64 x.fOp,.int .i64 x.fA,.int .i64 x.fB,.int .i64 x.fC,.int .i64 x.fN],blk b8 37 (symL s)]) (fun j=>j≤(shapeF x.fOp).size∧fstE (((List.range (shapeF x.fOp).size).map (operR f x s)).take j)=0) (fun j=>(shapeF x.fOp).size-j) 0 ?_ cv (Leads.has ZQ) ?_))))))))))
 exact ⟨Nat.zero_le _,rfl⟩
 rintro j ⟨hj,hfs⟩
 try dsimp only
 refine Zh (Zh (Zi (Zo J (Zo J (oLenStr J J (Zx J J (Zn (Za (wC (fun h63=>?_) (fun h63=>?_))))))))))
 have hj4:j<(shapeF x.fOp).size:=by omega
 refine Zj (Za (Zh (Zk (Zh (wDrawG J [0,1,2,3,4,5,6,7] [(8,[0,1,2,3,4,5],[]),(9,[],[])] [10] 24 ZK J J (fun w0=>?_))))))
 refine Zla ?_
 refine Zla ?_
 refine Zla ?_
 refine Zo J (Zo J (oIndexStr J J J hj4 (Zla ?_)))
 refine Zo J (Z4 (Z5 J ?_))
 (refine ZC0 rfl ZK (fun w hS=>frame hS ZQ (fun B' hB hS'=>ref8_Operand hS' x _ (kApiInstr_mk _ x) (j:Int))) ?_;rintro ⟨⟩ -)
 refine ZG ?_ J (fun w0=>?_)
 refine Z8 J J J J (fun w0=>?_) ?_
 refine Zla ?_
 exact Z9 rfl
 refine Z8 J J J J (fun w0=>?_) ?_
 refine Zla ?_
 exact Z9 rfl
 refine Z8 J J J J (fun w0=>?_) ?_
 refine Zla ?_
 exact Z9 rfl
 refine Z8 J J J J (fun w0=>?_) ?_
 refine Zo J ?_
 exact Z9 rfl
 refine Z8 J J J J (fun w0=>?_) ?_
 refine Zo J ?_
 exact Z9 rfl
 refine Z8 J J J J (fun w0=>?_) ?_
 refine oIndexStr J J J hj4 ?_
 exact Z9 rfl
 exact AgainG.nil
 refine Z4 (Z5 J ?_)
 (refine ZC0 rfl ZK (fun w hS=>frame hS ZQ (fun B' hB hS'=>ref17_operand hS' f _ (kApiFunc.K_grow hB hf) x _ (kApiInstr_mk _ x) s (byteAt (shapeF x.fOp) j) (opdF x j))) ?_;rintro ⟨⟩ -)
 refine ZG ?_ J (fun w0=>?_)
 exact AgainG.nil
 refine Z6 (Zp J (Zn (Za (Zh (Zi (Zo J (Z0 J J (Zn (Za (wC (fun h77=>?_) (fun h77=>?_)))))))))))
 refine Zh (Zzz ?_)
 exact ⟨(),trivial,by rw [hiR,fstE_stop hfs (rmap_at hj4) h77];rfl,Lh⟩
 refine Zj (Zze ?_)
 refine Zp J (Zn (Za ?_))
 exact ⟨rfl,j+1,⟨by omega,fstE_next hfs (rmap_at hj4) (Classical.not_not.1 h77)⟩,by omega,cv,Lh⟩
 refine Zm (Zzg ?_)
 obtain rfl:j=(shapeF x.fOp).size:=by omega
 rw [rmap_all] at hfs
 exact ⟨(),trivial,by rw [hiR,hfs];rfl,Lh⟩
 refine Zr J J J J (Zr J J J J (Zr J J J J (Zr J J J J (Zq J J (Zu J J (Zu J J (Zn (Za (wCondF J (Zj (Za (Zh (Zi (Zz (n:=0) (m:=0) J J J (Zld ?_)))))))))))))))
 (refine ZC0 rfl ZK (fun w hS=>frame hS ZQ (fun B' hB hS'=>ref7_Shape hS' x.fOp)) ?_;rintro ⟨⟩ -)
 rw [if_neg (by simp_all)] at hiR
 refine Zp J (Zn (Za (Zh (Zh (Zi (Zp J (Zn (Za (Zk (wLoop (ι:=Nat) (fun j=>[(3,.pointer (some ⟨b3,0,none⟩)),(7,.pointer (some ⟨b7,0,none⟩)),(8,.pointer (some ⟨b8,0,none⟩)),(10,.string (shapeF x.fOp)),(11,.int .i64 (j:Int))]) (fun j=>[blk b3 57 [.int .i64 f.fClass,.slice A0 f.fKinds.length c0,.int .i64 f.fPad,.bool f.fNosplit,.int .i64 f.fFrom,.int .i64 f.fTo,.slice A1 f.fLines.length c1,.slice A2 f.fCode.length c2,.slice A3 f.fRelocs.length c3],blk b7 67 [.int .i64 x.fOp,.int .i64 x.fA,.int .i64 x.fB,.int .i64 x.fC,.int .i64 x.fN],blk b8 37 (symL s)]) (fun j=>j≤(shapeF x.fOp).size∧fstE (((List.range (shapeF x.fOp).size).map (operR f x s)).take j)=0) (fun j=>(shapeF x.fOp).size-j) 0 ?_ cv (Leads.has ZQ) ?_))))))))))
 exact ⟨Nat.zero_le _,rfl⟩
 rintro j ⟨hj,hfs⟩
 try dsimp only
 refine Zh (Zh (Zi (Zo J (Zo J (oLenStr J J (Zx J J (Zn (Za (wC (fun h63=>?_) (fun h63=>?_))))))))))
 have hj4:j<(shapeF x.fOp).size:=by omega
 refine Zj (Za (Zh (Zk (Zh (wDrawG J [0,1,2,3,4,5,6,7] [(8,[0,1,2,3,4,5],[]),(9,[],[])] [10] 24 ZK J J (fun w0=>?_))))))
 refine Zla ?_
 refine Zla ?_
 refine Zla ?_
 refine Zo J (Zo J (oIndexStr J J J hj4 (Zla ?_)))
 refine Zo J (Z4 (Z5 J ?_))
 (refine ZC0 rfl ZK (fun w hS=>frame hS ZQ (fun B' hB hS'=>ref8_Operand hS' x _ (kApiInstr_mk _ x) (j:Int))) ?_;rintro ⟨⟩ -)
 refine ZG ?_ J (fun w0=>?_)
 refine Z8 J J J J (fun w0=>?_) ?_
 refine Zla ?_
 exact Z9 rfl
 refine Z8 J J J J (fun w0=>?_) ?_
 refine Zla ?_
 exact Z9 rfl
 refine Z8 J J J J (fun w0=>?_) ?_
 refine Zla ?_
 exact Z9 rfl
 refine Z8 J J J J (fun w0=>?_) ?_
 refine Zo J ?_
 exact Z9 rfl
 refine Z8 J J J J (fun w0=>?_) ?_
 refine Zo J ?_
 exact Z9 rfl
 refine Z8 J J J J (fun w0=>?_) ?_
 refine oIndexStr J J J hj4 ?_
 exact Z9 rfl
 exact AgainG.nil
 refine Z4 (Z5 J ?_)
 (refine ZC0 rfl ZK (fun w hS=>frame hS ZQ (fun B' hB hS'=>ref17_operand hS' f _ (kApiFunc.K_grow hB hf) x _ (kApiInstr_mk _ x) s (byteAt (shapeF x.fOp) j) (opdF x j))) ?_;rintro ⟨⟩ -)
 refine ZG ?_ J (fun w0=>?_)
 exact AgainG.nil
 refine Z6 (Zp J (Zn (Za (Zh (Zi (Zo J (Z0 J J (Zn (Za (wC (fun h77=>?_) (fun h77=>?_)))))))))))
 refine Zh (Zzz ?_)
 exact ⟨(),trivial,by rw [hiR,fstE_stop hfs (rmap_at hj4) h77];rfl,Lh⟩
 refine Zj (Zze ?_)
 refine Zp J (Zn (Za ?_))
 exact ⟨rfl,j+1,⟨by omega,fstE_next hfs (rmap_at hj4) (Classical.not_not.1 h77)⟩,by omega,cv,Lh⟩
 refine Zm (Zzg ?_)
 obtain rfl:j=(shapeF x.fOp).size:=by omega
 rw [rmap_all] at hfs
 exact ⟨(),trivial,by rw [hiR,hfs];rfl,Lh⟩
theorem ref17_Check {B:Base}{w:World}(hS:St B [] w) (f:ApiFunc) (fc:List Value) (hf:kApiFunc.K B.e f fc) (hv:∀ y ∈ f.fKinds,in64 y) (Al:Option Addr) (cl:Nat) (l:List ApiSymbol) (hl:kApiSymbol.C B.e Al l) :
 CW 74 #[.agg fc.toArray,.slice Al l.length cl] w (Ret B (fun _:Unit=>True) (fun _=>.tuple #[.int .i64 (chkE f l),.int .i64 (chkI f l)]) (fun _=>[])):=by
 obtain ⟨A0,c0,A1,c1,A2,c2,A3,c3,rfl,l0,g0,l1,g1,l2,g2,l3,g3⟩:=kApiFunc_open hf
 have hcl:=g2.1
 have hil:(insL f l).length=f.fCode.length:=by simp [insL]
 refine ZX Tryz.func74 hS ?_
 refine Zh (Zi (oBox J ZP (fun b2=>?_)))
 refine Zp J (Zp J (Zn (Za (Zh (Zzs ?_)))))
 (refine ZC0 rfl ZK (fun w hS=>frame hS ZQ (fun B' hB hS'=>ref16_Check hS' f _ (kApiFunc.K_grow hB hf) hv)) ?_;rintro ⟨⟩ -)
 refine Zp J (Zn (Za (Zh (Zi (Zo J (Z0 J J (Zn (Za (wC (fun h12=>?_) (fun h12=>?_))))))))))
 refine Zh (Zi (Zo J (Zzo ?_)))
 refine ⟨rfl,_,(ResL.cons (ResR.tmp rfl) (ResL.cons (ResR.tmp rfl) ResL.nil)),?_⟩
 exact ⟨(),trivial,by unfold chkE chkI;rw [if_pos h12,if_pos h12];rfl,Lh⟩
 refine Zj (Za (Zh (Zh (Zi (Zp J (Zn (Za (Zk (wLoop (ι:=Nat) (fun i=>[(1,.slice Al l.length cl),(2,.pointer (some ⟨b2,0,none⟩)),(7,.int .i64 (i:Int))]) (fun i=>[blk b2 57 [.int .i64 f.fClass,.slice A0 f.fKinds.length c0,.int .i64 f.fPad,.bool f.fNosplit,.int .i64 f.fFrom,.int .i64 f.fTo,.slice A1 f.fLines.length c1,.slice A2 f.fCode.length c2,.slice A3 f.fRelocs.length c3]]) (fun i=>i≤f.fCode.length∧fstE ((insL f l).take i)=0∧∀ y ∈ (insL f l).take i,non0 y=false) (fun i=>f.fCode.length-i) 0 ?_ cv (Leads.has ZQ) ?_)))))))))
 exact ⟨Nat.zero_le _,rfl,by simp⟩
 rintro i ⟨hi,hs,hs2⟩
 try dsimp only
 refine Zh (Zh (Zi (Zo J (Zz (n:=7) (m:=7) J J J (Zld ?_)))))
 refine Zv J J (Zx J J (Zn (Za (wC (fun h18=>?_) (fun h18=>?_)))))
 have hxe:(insL f l)[i]?=some (instrF f l (i:Int)):=rmap_at (e:=fun i:Nat=>instrF f l (i:Int)) ZO
 refine Zj (Za (Zh (Zk (Zzs ?_))))
 refine Zo J (Zo J ?_)
 (refine ZC0 rfl ZK (fun w hS=>frame hS ZQ (fun B' hB hS'=>ref17_Instr hS' f _ (kApiFunc.K_grow hB hf) Al cl l (Kd.C_grow hB hl) (i:Int))) ?_;rintro ⟨⟩ -)
 refine Zp J (Zn (Za (Zh (Zi (Zo J (Z0 J J (Zn (Za (wC (fun h26=>?_) (fun h26=>?_))))))))))
 refine Zh (Zi (Zo J (Zo J (Zp J (Zp J (Zn (Za (Zl (Zf (Zc (Zc (Zf (Zc (Zw ?_))))))))))))))
 refine ⟨rfl,_,(ResL.cons (ResR.tmp rfl) (ResL.cons (ResR.tmp rfl) ResL.nil)),?_⟩
 exact ⟨(),trivial,by unfold chkE chkI;rw [if_neg h12,if_neg h12,fstE_stop hs hxe h26,idxI_stop hs2 hxe (decide_eq_true h26)];rfl,Lh⟩
 refine Zj (Zze ?_)
 refine Zp J (Zn (Za ?_))
 exact ⟨rfl,i+1,⟨by omega,fstE_next hs hxe (Classical.not_not.1 h26),take_not hs2 hxe (decide_eq_false h26)⟩,by omega,cv,Lh⟩
 refine Zm (Zb (Zb (Ze (Za (Zh (Zi (Zp J (Zp J (Zn (Za (Zl (Zw ?_))))))))))))
 refine ⟨rfl,_,(ResL.cons (ResR.tmp rfl) (ResL.cons (ResR.tmp rfl) ResL.nil)),?_⟩
 obtain rfl:i=f.fCode.length:=by omega
 rw [← hil,List.take_length] at hs hs2
 exact ⟨(),trivial,by unfold chkE chkI;rw [if_neg h12,if_neg h12,hs,idxI_none hs2];rfl,Lh⟩
end Go.Proofs.YtafiabekcekdbaaGreatV
namespace Go.Proofs.YtafiabekcekdbaaGreatW
set_option maxRecDepth 100000
set_option maxHeartbeats 4000000
open Go.RowKit Go.Proofs.YtafiabekcekdbaaGreatK Go.Proofs.YtafiabekcekdbaaGreatT Go.Proofs.YtafiabekcekdbaaGreatL Go.Proofs.YtafiabekcekdbaaGreatV

def mayF (b:Int) (first:Bool):Bool:=(decide (97≤b) && decide (b≤122)) || decide (b=95) || decide (b=46) || (decide (48≤b) && decide (b≤57) && !first)
def badC (s:ByteArray) (i:Nat):Bool:=!mayF (byteAt s i) (decide (i=0))
def nameF4 (s:ByteArray):Int:=if 24<s.size then 6 else if s.size=0 then 7 else if (List.range s.size).any (badC s) then 7 else 0
theorem size_zero {s:ByteArray} : s=ByteArray.empty↔s.size=0:=by
 constructor
 · rintro rfl;rfl
 · intro h
   cases s with
   | mk d=>
    have:d=#[]:=Array.eq_empty_of_size_eq_zero h
    subst this;rfl
theorem ref4_may {B:Base}{w:World}(hS:St B [] w) (b:Int) (first:Bool) :
 CW 104 #[.int .u8 b,.bool first] w (Ret B (fun _:Unit=>True) (fun _=>.bool (mayF b first)) (fun _=>[])):=by
 refine ZX Tryz.func104 hS ?_
 refine Zh (Zi (Zp J (Zn (Za (Zh (Zi (Zo J (Z2 J J (Zo J (ZS (ZT 7) (fun h7=>?_) (fun h7=>?_)))))))))))
 refine Zq J J (Zo J (Zq J J (oLeq J J (Zt J J (Zo J (ZS (ZT 11) (fun h11=>?_) (fun h11=>?_)))))))
 refine Zr J J J J (Zr J J J J (Zt J J (Zo J (Zr J J J J (Zr J J J J (Zt J J (Zo J (Zr J J J J (Zzq ?_)))))))))
 exact ⟨(),trivial,by simp_all [resVal,mayF] <;> omega,Lh⟩
 refine Zq J J (Zo J (Zq J J (Zy J J (Zu J J (Zo J (ZS (ZT 15) (fun h15=>?_) (fun h15=>?_)))))))
 refine Zr J J J J (Zr J J J J (Zt J J (Zo J (Zr J J J J (Zzq ?_)))))
 exact ⟨(),trivial,by simp_all [resVal,mayF] <;> omega,Lh⟩
 refine Zq J J (Zo J (Zq J J (Zy J J (Zu J J (Zo J (ZS (ZT 19) (fun h19=>?_) (fun h19=>?_)))))))
 refine Zr J J J J (Zzq ?_)
 exact ⟨(),trivial,by simp_all [resVal,mayF] <;> omega,Lh⟩
 refine Zq J J (Zo J (Zq J J (Z2 J J (Zq J J (Zo J (ZS (ZT 22) (fun h22=>?_) (fun h22=>?_)))))))
 refine Zq J J (Zo J (Zq J J (oLeq J J (Zq J J (Zt J J (Zq J J (Zo J (ZS (ZT 26) (fun h26=>?_) (fun h26=>?_)))))))))
 refine Zq J J (Zo J (Zq J J (Zno ?_)))
 refine Zq J J (Zt J J (Zu J J (Zza ?_)))
 exact ⟨(),trivial,by simp_all [resVal,mayF] <;> omega,Lh⟩
 refine Zr J J J J (Zr J J J J (Zq J J (Zu J J (Zu J J (Zza ?_)))))
 exact ⟨(),trivial,by simp_all [resVal,mayF] <;> omega,Lh⟩
 refine Zr J J J J (Zr J J J J (Zq J J (Zu J J (Zq J J (Zo J (Zr J J J J (Zr J J J J (Zq J J (Zu J J (Zu J J (Zza ?_)))))))))))
 exact ⟨(),trivial,by simp_all [resVal,mayF] <;> omega,Lh⟩
 refine Zr J J J J (Zr J J J J (Zu J J (Zo J (Zq J J (Zo J (Zq J J (Zy J J (Zu J J (Zo J (ZS (ZT 15) (fun h15=>?_) (fun h15=>?_)))))))))))
 refine Zr J J J J (Zr J J J J (Zt J J (Zo J (Zr J J J J (Zzq ?_)))))
 exact ⟨(),trivial,by simp_all [resVal,mayF] <;> omega,Lh⟩
 refine Zq J J (Zo J (Zq J J (Zy J J (Zu J J (Zo J (ZS (ZT 19) (fun h19=>?_) (fun h19=>?_)))))))
 refine Zr J J J J (Zzq ?_)
 exact ⟨(),trivial,by simp_all [resVal,mayF] <;> omega,Lh⟩
 refine Zq J J (Zo J (Zq J J (Z2 J J (Zq J J (Zo J (ZS (ZT 22) (fun h22=>?_) (fun h22=>?_)))))))
 refine Zq J J (Zo J (Zq J J (oLeq J J (Zq J J (Zt J J (Zq J J (Zo J (ZS (ZT 26) (fun h26=>?_) (fun h26=>?_)))))))))
 refine Zq J J (Zo J (Zq J J (Zno ?_)))
 refine Zq J J (Zt J J (Zu J J (Zza ?_)))
 exact ⟨(),trivial,by simp_all [resVal,mayF] <;> omega,Lh⟩
 refine Zr J J J J (Zr J J J J (Zq J J (Zu J J (Zu J J (Zza ?_)))))
 exact ⟨(),trivial,by simp_all [resVal,mayF] <;> omega,Lh⟩
 refine Zr J J J J (Zr J J J J (Zq J J (Zu J J (Zq J J (Zo J (Zr J J J J (Zr J J J J (Zq J J (Zu J J (Zu J J (Zza ?_)))))))))))
 exact ⟨(),trivial,by simp_all [resVal,mayF] <;> omega,Lh⟩
theorem ref4_Check {B:Base}{w:World}(hS:St B [] w) (s:ByteArray) :
 CW 70 #[.string s] w (Ret B (fun _:Unit=>True) (fun _=>.int .i64 (nameF4 s)) (fun _=>[])):=by
 refine ZX Tryz.func70 hS ?_
 refine Zh (Zi (Zp J (Zn (Za (Zh (Zh (Zi (Zo J (oLenStr J J (Z1 J J (Zn (Za (wC (fun h6=>?_) (fun h6=>?_))))))))))))))
 refine Zh (Zi (Zzc ?_))
 exact ⟨(),trivial,by unfold nameF4;rw [if_pos ZO];rfl,Lh⟩
 refine Zj (Za (Zh (Zh (Zi (Zo J (oSEq J J (Zn (Za (wC (fun h8=>?_) (fun h8=>?_))))))))))
 refine Zh (Zi (Zzc ?_))
 exact ⟨(),trivial,by unfold nameF4;rw [if_neg ZO,if_pos (size_zero.1 h8)];rfl,Lh⟩
 have hz:¬ s.size=0:=fun h=>h8 (size_zero.2 h)
 refine Zj (Za (Zh (Zh (Zi (Zp J (Zn (Za (Zk (wLoop (ι:=Nat) (fun i=>[(0,.string s),(3,.int .i64 (i:Int))]) (fun i=>[]) (fun i=>i≤s.size∧∀ j,j<i→badC s j=false) (fun i=>s.size-i) 0 ?_ cv (Leads.has ZQ) ?_)))))))))
 exact ⟨Nat.zero_le _,fun j hj=>by omega⟩
 rintro i ⟨hi,hs⟩
 try dsimp only
 refine Zh (Zh (Zi (Zo J (Zo J (oLenStr J J (Zx J J (Zn (Za (wC (fun h12=>?_) (fun h12=>?_))))))))))
 have hil:i<s.size:=by omega
 have hz0:decide ((i:Int)=0)=decide (i=0):=decide_eq_decide.2 ZO
 refine Zj (Za (Zh (Zk (Zh (Zi (Zo J (Zo J (oIndexStr J J J hil (Zo J (Zy J J ?_))))))))))
 (refine ZC0 rfl ZK (fun w hS=>frame hS ZQ (fun B' hB hS'=>ref4_may hS' (byteAt s i) (decide ((i:Int)=0)))) ?_;rintro ⟨⟩ -)
 refine Zno ?_
 refine Zn (Za (wC (fun h21=>?_) (fun h21=>?_)))
 refine Zh (Zi (Zzb ?_))
 exact ⟨(),trivial,by unfold nameF4;rw [if_neg ZO,if_neg hz,if_pos (any_T hil (by unfold badC;rw [← hz0];simpa using h21))];rfl,Lh⟩
 refine Zj (Zze ?_)
 refine Zp J (Zn (Za ?_))
 exact ⟨rfl,i+1,⟨by omega,fun j hj=>by
 by_cases e:j=i
 · subst e;unfold badC;rw [← hz0];simpa using h21
 · exact hs j ZO⟩,by omega,cv,Lh⟩
 refine Zm (Zzg ?_)
 obtain rfl:i=s.size:=by omega
 exact ⟨(),trivial,by unfold nameF4;rw [if_neg ZO,if_neg hz,if_neg (by rw [any_F hs];simp)];rfl,Lh⟩
def isG (s:ByteArray) (x:ApiSymbol):Bool:=(!x.fLocal && decide (x.fDef≠-1)) && decide (x.fName=s)
def glob (x:ApiSymbol):Bool:=!x.fLocal && decide (x.fDef≠-1)
def hasG (s:ByteArray) (o:ApiObject):Bool:=o.fSymbols.any (isG s)
def findI (l:List ApiObject) (s:ByteArray):Int:=idxI (hasG s) l
def symsAt (l:List ApiObject) (i:Int):List ApiSymbol:=(l.getD i.toNat default).fSymbols
def findK (l:List ApiObject) (s:ByteArray):Int:=idxI (isG s) (symsAt l (findI l s))
def fnd (l:List ApiObject) (s:ByteArray):Int×Int×Bool:=if 0≤findI l s then (findI l s,findK l s,true) else (0,0,false)
theorem symsAt_eq {l:List ApiObject}{i:Nat}{o:ApiObject}(h:l[i]?=some o):symsAt l (i:Int)=o.fSymbols:=by unfold symsAt;rw [Int.toNat_natCast,List.getD_eq_getElem?_getD,h];rfl
theorem fnd_some {l:List ApiObject}{s:ByteArray}(h:(fnd l s).2.2=true):∃ (i k:Nat) (o:ApiObject) (x:ApiSymbol),fnd l s=((i:Int),(k:Int),true)∧l[i]?=some o∧o.fSymbols[k]?=some x∧isG s x=true:=by
 unfold fnd at *
 by_cases h0:0≤findI l s
 · rw [if_pos h0] at *
   obtain ⟨i,o,hi,ho,hg⟩:=idxI_at (show 0≤idxI (hasG s) l from h0)
   have hfi:findI l s=(i:Int):=hi
   obtain ⟨k,x,hk,hx,hgx⟩:=idxI_at (idxI_iff.2 (show o.fSymbols.any (isG s)=true from hg))
   refine ⟨i,k,o,x,?_,ho,hx,hgx⟩
   have:findK l s=(k:Int):=by unfold findK;rw [hfi,symsAt_eq ho];exact hk
   rw [hfi,this]
 · rw [if_neg h0] at h;cases h
theorem ref23_global {B:Base}{w:World}(hS:St B [] w) (x:ApiSymbol) (xc:List Value) (hx:kApiSymbol.K B.e x xc) :
 CW 86 #[.agg xc.toArray] w (Ret B (fun _:Unit=>True) (fun _=>.bool (glob x)) (fun _=>[])):=by
 obtain rfl:=kApiSymbol_open hx
 refine ZX Tryz.func86 hS ?_
 refine Zh (Zi (oBox J ZP (fun b1=>?_)))
 refine Zp J (Zn (Za (Zh (Zi (Zz (n:=1) (m:=1) J J J (Zld ?_))))))
 refine Zno ?_
 refine Zo J (ZS (ZT 6) (fun h6=>?_) (fun h6=>?_))
 refine Zq J J (Zz (n:=4) (m:=4) J J J (Zzf ?_))
 refine Zq J J (Z0 J J (Zt J J (Zza ?_)))
 exact ⟨(),trivial,by simp_all [resVal,glob],Lh⟩
 refine Zr J J J J (Zzp ?_)
 exact ⟨(),trivial,by simp_all [resVal,glob],Lh⟩
structure FewO (l:List ApiObject):Prop where
  len:l.length≤9
  syms:∀ o ∈ l,o.fSymbols.length≤60
  funcs:∀ o ∈ l,o.fFuncs.length≤20
  datas:∀ o ∈ l,o.fDatas.length≤20
  fun_:∀ o ∈ l,∀ f ∈ o.fFuncs,f.fKinds.length≤100∧f.fLines.length≤100∧f.fCode.length≤100∧f.fRelocs.length≤100
  data:∀ o ∈ l,∀ d ∈ o.fDatas,d.fWords.length≤100∧d.fRelocs.length≤100
theorem ref23_Find {B:Base}{w:World}(hS:St B [] w) (A:Option Addr) (cp:Nat) (l:List ApiObject) (hC:kApiObject.C B.e A l) (hsm:FewO l) (s:ByteArray) :
 CW 45 #[.slice A l.length cp,.string s] w (Ret B (fun _:Unit=>True) (fun _=>.tuple #[.int .i64 (fnd l s).1,.int .i64 (fnd l s).2.1,.bool (fnd l s).2.2]) (fun _=>[])):=by
 have hln:=hsm.len
 refine ZX Tryz.func45 hS ?_
 refine Zh (Zi (Zp J (Zp J (Zp J (Zn (Za (Zh (Zh (Zi (Zp J (Zn (Za (Zk (wLoop (ι:=Nat) (fun i=>[(0,.slice A l.length cp),(1,.string s),(7,.int .i64 (i:Int))]) (fun i=>[]) (fun i=>i≤l.length∧∀ o ∈ l.take i,hasG s o=false) (fun i=>l.length-i) 0 ?_ cv (Leads.has ZQ) ?_))))))))))))))
 exact ⟨Nat.zero_le _,by simp⟩
 rintro i ⟨hi,hs⟩
 try dsimp only
 refine Zh (Zh (Zi (Zo J (Zo J (Zv J J (Zx J J (Zn (Za (wC (fun h13=>?_) (fun h13=>?_))))))))))
 obtain ⟨o,ho⟩:∃ o,l[i]?=some o:=⟨_,List.getElem?_eq_getElem ZO⟩
 have hol:=hsm.syms o (List.mem_of_getElem? ho)
 obtain ⟨e1,cs1,hE⟩:=hC.elm ho
 obtain ⟨B0,d0,B1,d1,B2,d2,rfl,m0,q0,m1,q1,m2,q2⟩:=kApiObject_open hE.K
 refine Zj (Za (Zh (Zk (Zh (Zi (Zp J (Zn (Za (Zk (wLoop (ι:=Nat) (fun k=>[(0,.slice A l.length cp),(1,.string s),(7,.int .i64 (i:Int)),(8,.int .i64 (k:Int))]) (fun k=>[]) (fun k=>k≤o.fSymbols.length∧∀ x ∈ o.fSymbols.take k,isG s x=false) (fun k=>o.fSymbols.length-k) 0 ?_ cv (Leads.has ZQ) ?_))))))))))
 exact ⟨Nat.zero_le _,by simp⟩
 rintro k ⟨hk,hs2⟩
 try dsimp only
 refine Zh (Zh (Zi (Zo J (Zo J (Zo J (oIdxE J J (hE) ZO J J ?_))))))
 have hc19:=(hE).cell
 refine ZF (ZT 0) (ZT 0) ?_
 refine Zlx hc19 ?_
 refine Zv J J (Zx J J (Zn (Za (wC (fun h23=>?_) (fun h23=>?_)))))
 obtain ⟨x,hx⟩:∃ x,o.fSymbols[k]?=some x:=⟨_,List.getElem?_eq_getElem ZO⟩
 obtain ⟨e2,cs2,hE2⟩:=q0.elm hx
 obtain rfl:=kApiSymbol_open hE2.K
 have hgx:isG s x=(glob x && decide (x.fName=s)):=rfl
 refine Zj (Za (Zh (Zk (Zh (Zi (Zo J (Zo J (oIdxE J J (hE) ZO J J ?_))))))))
 have hc28:=(hE).cell
 refine ZF (ZT 0) (ZT 0) ?_
 refine Zlx hc28 ?_
 refine Zo J (oIdxE J J (hE2) ZO J J ?_)
 have hc32:=(hE2).cell
 refine Zlx hc32 ?_
 refine oAlloc J ZP (fun b9=>?_)
 refine Zsa ?_
 refine Zn (Za (Zzs ?_))
 (refine ZC0 rfl ZK (fun w hS=>frame hS ZQ (fun B' hB hS'=>ref23_global hS' x _ (kApiSymbol_mk _ x))) ?_;rintro ⟨⟩ -)
 refine Zo J (ZS (ZT 36) (fun h36=>?_) (fun h36=>?_))
 refine Zq J J (Zz (n:=0) (m:=0) J J J (Zzf ?_))
 refine Zq J J (Zo J (Zq J J (oSEq J J (Zt J J (Zn (Za (wC (fun h41=>?_) (fun h41=>?_))))))))
 refine Zh (Zi (Zo J (Zo J (Zp J (Zp J (Zp J (Zn (Za (Zl (Zf (Zc (Zc (Zf (Zf (Zc (Zc (Zf (Zc (Zw ?_)))))))))))))))))))
 refine ⟨rfl,_,(ResL.cons (ResR.tmp rfl) (ResL.cons (ResR.tmp rfl) (ResL.cons (ResR.tmp rfl) ResL.nil))),?_⟩
 have hg:isG s x=true:=by rw [hgx];simp_all
 have hfi:findI l s=(i:Int):=idxI_stop hs ho (List.any_eq_true.2 ⟨x,List.mem_of_getElem? hx,hg⟩)
 have hfk:findK l s=(k:Int):=by unfold findK;rw [hfi,symsAt_eq ho];exact idxI_stop hs2 hx hg
 have hf:fnd l s=((i:Int),(k:Int),true):=by unfold fnd;rw [hfi,hfk,if_pos ZO]
 exact ⟨(),trivial,by rw [hf];rfl,Lh⟩
 refine Zj (Zze ?_)
 refine Zp J (Zn (Za ?_))
 exact ⟨rfl,k+1,⟨by omega,take_not hs2 hx (by rw [hgx];simp_all)⟩,by omega,cv,Lh⟩
 refine Zr J J J J (Zr J J J J (Zr J J J J (Zr J J J J (Zu J J (Zn (Za (wCondF J (Zj (Zze ?_)))))))))
 refine Zp J (Zn (Za ?_))
 exact ⟨rfl,k+1,⟨by omega,take_not hs2 hx (by rw [hgx];simp_all)⟩,by omega,cv,Lh⟩
 obtain rfl:k=o.fSymbols.length:=by omega
 rw [List.take_length] at hs2
 have hno:hasG s o=false:=by unfold hasG;rw [List.any_eq_false];intro y hy;rw [hs2 y hy];simp
 refine Zm (Zb (Zb (Ze (Zze ?_))))
 refine Zp J (Zn (Za ?_))
 exact ⟨rfl,i+1,⟨by omega,take_not hs ho hno⟩,by omega,cv,Lh⟩
 refine Zm (Zb (Zb (Ze (Za (Zh (Zi (Zp J (Zp J (Zp J (Zn (Za (Zl (Zw ?_)))))))))))))
 refine ⟨rfl,_,(ResL.cons (ResR.tmp rfl) (ResL.cons (ResR.tmp rfl) (ResL.cons (ResR.tmp rfl) ResL.nil))),?_⟩
 obtain rfl:i=l.length:=by omega
 rw [List.take_length] at hs
 have hf:fnd l s=(0,0,false):=by unfold fnd findI;rw [idxI_none hs];rfl
 exact ⟨(),trivial,by rw [hf];rfl,Lh⟩
def symOf (l:List ApiObject) (i k:Int):ApiSymbol:=(symsAt l i).getD k.toNat default
def bndF (l:List ApiObject) (i k:Int):Int×Int×Int:=
  if i<0∨(l.length:Int)≤i∨k<0∨((symsAt l i).length:Int)≤k then (0,0,2) else
  if (symOf l i k).fDef≠-1 then (i,k,0) else
  if (fnd l (symOf l i k).fName).2.2=false then (0,0,13) else
  if (symOf l (fnd l (symOf l i k).fName).1 (fnd l (symOf l i k).fName).2.1).fSort≠(symOf l i k).fSort∨(symOf l (fnd l (symOf l i k).fName).1 (fnd l (symOf l i k).fName).2.1).fKind≠(symOf l i k).fKind then (0,0,14) else ((fnd l (symOf l i k).fName).1,(fnd l (symOf l i k).fName).2.1,0)
theorem symOf_eq {l:List ApiObject}{i k:Nat}{o:ApiObject}{x:ApiSymbol}(h:l[i]?=some o) (hx:o.fSymbols[k]?=some x):symOf l (i:Int) (k:Int)=x:=by unfold symOf;rw [symsAt_eq h,Int.toNat_natCast,List.getD_eq_getElem?_getD,hx];rfl
theorem ref23_Bound {B:Base}{w:World}(hS:St B [] w) (A:Option Addr) (cp:Nat) (l:List ApiObject) (hC:kApiObject.C B.e A l) (hsm:FewO l) (i k:Int) :
 CW 85 #[.slice A l.length cp,.int .i64 i,.int .i64 k] w (Ret B (fun _:Unit=>True) (fun _=>.tuple #[.int .i64 (bndF l i k).1,.int .i64 (bndF l i k).2.1,.int .i64 (bndF l i k).2.2]) (fun _=>[])):=by
 have hln:=hsm.len
 refine ZX Tryz.func85 hS ?_
 refine Zh (Zi (Zp J (Zp J (Zp J (Zn (Za (Zh (Zh (Zi (Zo J (Zx J J (Zo J (ZS (ZT 16) (fun h16=>?_) (fun h16=>?_))))))))))))))
 refine Zr J J J J (Zr J J J J (Zr J J J J (Zr J J J J (Zt J J (Zo J (Zr J J J J (Zr J J J J (Zt J J (Zo J (Zr J J J J (Zr J J J J (Zr J J J J (Zr J J J J (Zr J J J J (Zr J J J J (Zr J J J J (Zr J J J J (Zt J J (Zn (Za (wCondT J (Zh (Zi (Zp J (Zp J (Zp J (Zn (Za (Zl ?_)))))))))))))))))))))))))))))
 refine Zc (Zw ?_)
 refine ⟨rfl,_,(ResL.cons (ResR.tmp rfl) (ResL.cons (ResR.tmp rfl) (ResL.cons (ResR.tmp rfl) ResL.nil))),?_⟩
 exact ⟨(),trivial,by unfold bndF;rw [if_pos ZO];rfl,Lh⟩
 refine Zq J J (Zo J (Zq J J (Zo J (Zq J J (Zv J J (Zq J J (Z2 J J (Zu J J (Zo J (ZS (ZT 22) (fun h22=>?_) (fun h22=>?_)))))))))))
 refine Zr J J J J (Zr J J J J (Zt J J (Zo J (Zr J J J J (Zr J J J J (Zr J J J J (Zr J J J J (Zr J J J J (Zr J J J J (Zr J J J J (Zr J J J J (Zt J J (Zn (Za (wCondT J (Zh (Zi (Zp J (Zzo ?_)))))))))))))))))))
 refine ⟨rfl,_,(ResL.cons (ResR.tmp rfl) (ResL.cons (ResR.tmp rfl) (ResL.cons (ResR.tmp rfl) ResL.nil))),?_⟩
 exact ⟨(),trivial,by unfold bndF;rw [if_pos ZO];rfl,Lh⟩
 refine Zq J J (Zo J (Zq J J (Zx J J (Zu J J (Zo J (ZS (ZT 26) (fun h26=>?_) (fun h26=>?_)))))))
 refine Zr J J J J (Zr J J J J (Zr J J J J (Zr J J J J (Zr J J J J (Zr J J J J (Zr J J J J (Zr J J J J (Zt J J (Zn (Za (wCondT J (Zh (Zi (Zp J (Zzo ?_)))))))))))))))
 refine ⟨rfl,_,(ResL.cons (ResR.tmp rfl) (ResL.cons (ResR.tmp rfl) (ResL.cons (ResR.tmp rfl) ResL.nil))),?_⟩
 exact ⟨(),trivial,by unfold bndF;rw [if_pos ZO];rfl,Lh⟩
 obtain ⟨i,rfl⟩:=Int.eq_ofNat_of_zero_le (show 0≤i by omega)
 obtain ⟨o,ho⟩:∃ o,l[i]?=some o:=⟨_,List.getElem?_eq_getElem ZO⟩
 have hsy:=symsAt_eq ho
 have hol:=hsm.syms o (List.mem_of_getElem? ho)
 obtain ⟨e1,cs1,hE⟩:=hC.elm ho
 obtain ⟨B0,d0,B1,d1,B2,d2,rfl,m0,q0,m1,q1,m2,q2⟩:=kApiObject_open hE.K
 refine Zq J J (Zo J (Zq J J (Zo J (Zq J J (Zo J (Zq J J (oIdxE J J (hE) ZO J J ?_)))))))
 have hc30:=(hE).cell
 refine Zq J J (ZF (ZT 0) (ZT 0) ?_)
 refine Zq J J (Zlx hc30 ?_)
 refine Zq J J (Zv J J (Zq J J (Z2 J J (Zu J J (Zn (Za (wC (fun h35=>?_) (fun h35=>?_))))))))
 refine Zh (Zi (Zp J (Zzo ?_)))
 refine ⟨rfl,_,(ResL.cons (ResR.tmp rfl) (ResL.cons (ResR.tmp rfl) (ResL.cons (ResR.tmp rfl) ResL.nil))),?_⟩
 exact ⟨(),trivial,by unfold bndF;rw [if_pos (.inr (.inr (.inr (by rw [hsy];omega))))];rfl,Lh⟩
 obtain ⟨k,rfl⟩:=Int.eq_ofNat_of_zero_le (show 0≤k by omega)
 obtain ⟨x,hx⟩:∃ x,o.fSymbols[k]?=some x:=⟨_,List.getElem?_eq_getElem ZO⟩
 obtain ⟨e2,cs2,hE2⟩:=q0.elm hx
 obtain rfl:=kApiSymbol_open hE2.K
 have hso:=symOf_eq ho hx
 have hin:¬ ((i:Int)<0∨(l.length:Int)≤(i:Int)∨(k:Int)<0∨((symsAt l (i:Int)).length:Int)≤(k:Int)):=by rw [hsy];omega
 refine Zj (Za (Zh (Zi (Zo J (Zo J (oIdxE J J (hE) ZO J J ?_))))))
 have hc38:=(hE).cell
 refine ZF (ZT 0) (ZT 0) ?_
 refine Zlx hc38 ?_
 refine Zo J (oIdxE J J (hE2) ZO J J ?_)
 have hc42:=(hE2).cell
 refine Zlx hc42 ?_
 refine oAlloc J ZP (fun b9=>?_)
 refine Zsa ?_
 refine Zn (Za (Zh (Zh (Zi (Zz (n:=4) (m:=4) J J J (Zld ?_))))))
 refine Z0 J J (Zn (Za (wC (fun h46=>?_) (fun h46=>?_))))
 refine Zh (Zi (Zo J (Zo J (Zp J (Zzo ?_)))))
 refine ⟨rfl,_,(ResL.cons (ResR.tmp rfl) (ResL.cons (ResR.tmp rfl) (ResL.cons (ResR.tmp rfl) ResL.nil))),?_⟩
 exact ⟨(),trivial,by unfold bndF;rw [if_neg hin,hso,if_pos h46];rfl,Lh⟩
 refine Zj (Za (Zh (Zi (Zo J (Zz (n:=0) (m:=0) J J J (Zld ?_))))))
 (refine ZC0 rfl ZK (fun w hS=>frame hS ZQ (fun B' hB hS'=>ref23_Find hS' A cp l (Kd.C_grow hB hC) hsm x.fName)) ?_;rintro ⟨⟩ -)
 refine Zo J (oExt J ZP ?_)
 refine oExt J ZP ?_
 refine oExt J ZP ?_
 refine Zp J (Zp J (Zp J (Zn (Za (Zh (Zh (Zi (Zo J (Zno ?_)))))))))
 refine Zn (Za (wC (fun h58=>?_) (fun h58=>?_)))
 refine Zh (Zi (Zp J (Zzo ?_)))
 refine ⟨rfl,_,(ResL.cons (ResR.tmp rfl) (ResL.cons (ResR.tmp rfl) (ResL.cons (ResR.tmp rfl) ResL.nil))),?_⟩
 have hn:(fnd l x.fName).2.2=false:=by simpa using h58
 exact ⟨(),trivial,by unfold bndF;rw [if_neg hin,hso,if_neg h46,if_pos hn];rfl,Lh⟩
 have hf:(fnd l x.fName).2.2=true:=by simpa using h58
 obtain ⟨i2,k2,o2,y,hfe,ho2,hy,hgy⟩:=fnd_some hf
 have hso2:=symOf_eq ho2 hy
 have hil2:=(List.getElem?_eq_some_iff.1 ho2).1
 have hkl2:=(List.getElem?_eq_some_iff.1 hy).1
 obtain ⟨e3,cs3,hE3⟩:=hC.elm ho2
 obtain ⟨C0,f0,C1,f1,C2,f2,rfl,n0,r0,n1,r1,n2,r2⟩:=kApiObject_open hE3.K
 obtain ⟨e4,cs4,hE4⟩:=r0.elm hy
 obtain rfl:=kApiSymbol_open hE4.K
 rw [hfe]
 dsimp only
 refine Zj (Za (Zh (Zh (Zi (Zo J (Zo J (oIdxE J J (hE3) ZO J J ?_)))))))
 have hc61:=(hE3).cell
 refine ZF (ZT 0) (ZT 0) ?_
 refine Zlx hc61 ?_
 refine Zo J (oIdxE J J (hE4) ZO J J ?_)
 have hc65:=(hE4).cell
 refine Zlx hc65 ?_
 refine oAlloc J ZP (fun b13=>?_)
 refine Zsa ?_
 refine Zn (Za (Zh (Zi (Zz (n:=2) (m:=2) J J J (Zld ?_)))))
 refine Zz (n:=2) (m:=2) J J J (Zld ?_)
 refine Z0 J J (Zo J (ZS (ZT 72) (fun h72=>?_) (fun h72=>?_)))
 refine Zr J J J J (Zr J J J J (Zr J J J J (Zr J J J J (Zr J J J J (Zt J J (Zn (Za (wCondT J (Zh (Zi (Zp J (Zzo ?_))))))))))))
 refine ⟨rfl,_,(ResL.cons (ResR.tmp rfl) (ResL.cons (ResR.tmp rfl) (ResL.cons (ResR.tmp rfl) ResL.nil))),?_⟩
 exact ⟨(),trivial,by unfold bndF;rw [if_neg hin,hso,if_neg h46,if_neg (by rw [hfe];simp),hfe];dsimp only;rw [hso2,if_pos (by simp_all <;> omega)];rfl,Lh⟩
 refine Zq J J (Zz (n:=3) (m:=3) J J J (Zzf ?_))
 refine Zq J J (Zz (n:=3) (m:=3) J J J (Zzf ?_))
 refine Zq J J (Z0 J J (Zu J J (Zn (Za (wC (fun h78=>?_) (fun h78=>?_))))))
 refine Zh (Zi (Zp J (Zzo ?_)))
 refine ⟨rfl,_,(ResL.cons (ResR.tmp rfl) (ResL.cons (ResR.tmp rfl) (ResL.cons (ResR.tmp rfl) ResL.nil))),?_⟩
 exact ⟨(),trivial,by unfold bndF;rw [if_neg hin,hso,if_neg h46,if_neg (by rw [hfe];simp),hfe];dsimp only;rw [hso2,if_pos (by simp_all <;> omega)];rfl,Lh⟩
 refine Zj (Za (Zh (Zi (Zo J (Zo J (Zp J (Zp J (Zp J (Zn (Za (Zl (Zw ?_))))))))))))
 refine ⟨rfl,_,(ResL.cons (ResR.tmp rfl) (ResL.cons (ResR.tmp rfl) (ResL.cons (ResR.tmp rfl) ResL.nil))),?_⟩
 exact ⟨(),trivial,by unfold bndF;rw [if_neg hin,hso,if_neg h46,if_neg (by rw [hfe];simp),hfe];dsimp only;rw [hso2,if_neg (by simp_all <;> omega)];rfl,Lh⟩
abbrev rejL (r:Int×Int×Int):List Value:=[.int .i64 r.1,.int .i64 r.2.1,.int .i64 r.2.2]
def rowP (l:List ApiObject) (p:Nat→Nat→Bool) (i:Nat):Bool:=(List.range (symsAt l (i:Int)).length).any (p i)
def fI (l:List ApiObject) (p:Nat→Nat→Bool):Int:=idxI (rowP l p) (List.range l.length)
def fK (l:List ApiObject) (p:Nat→Nat→Bool):Int:=idxI (p (fI l p).toNat) (List.range (symsAt l (fI l p)).length)
theorem rng {n i:Nat}(h:i<n):(List.range n)[i]?=some i:=List.getElem?_range h
theorem fI_stop {l:List ApiObject}{p:Nat→Nat→Bool}{i k:Nat}{o:ApiObject}(hs:∀ j ∈ (List.range l.length).take i,rowP l p j=false) (ho:l[i]?=some o) (hs2:∀ j ∈ (List.range o.fSymbols.length).take k,p i j=false) (hk:k<o.fSymbols.length) (hp:p i k=true):fI l p=(i:Int)∧fK l p=(k:Int):=by
 have hi:=(List.getElem?_eq_some_iff.1 ho).1
 have h1:fI l p=(i:Int):=idxI_stop hs (rng hi) (by unfold rowP;rw [symsAt_eq ho];exact any_T hk hp)
 refine ⟨h1,?_⟩
 unfold fK
 rw [h1,symsAt_eq ho,Int.toNat_natCast]
 exact idxI_stop hs2 (rng hk) hp
theorem fI_none {l:List ApiObject}{p:Nat→Nat→Bool}(hs:∀ j ∈ List.range l.length,rowP l p j=false):fI l p = -1:=idxI_none hs
theorem fI_all {l:List ApiObject}{p:Nat→Nat→Bool}(h:fI l p<0) {i k:Nat}{o:ApiObject}(ho:l[i]?=some o) (hk:k<o.fSymbols.length):p i k=false:=by
 cases hp:p i k with
 | false=>rfl
 | true=>
  have hi:=(List.getElem?_eq_some_iff.1 ho).1
  have:0≤fI l p:=idxI_iff.2 (List.any_eq_true.2 ⟨i,List.mem_range.2 hi,by unfold rowP;rw [symsAt_eq ho];exact any_T hk hp⟩)
  omega
def twP (l:List ApiObject) (i k:Nat):Bool:=glob (symOf l i k) && decide ((fnd l (symOf l i k).fName).1≠(i:Int)∨(fnd l (symOf l i k).fName).2.1≠(k:Int))
def unP (l:List ApiObject) (i k:Nat):Bool:=decide ((bndF l i k).2.2≠0)
def chk23 (l:List ApiObject):Int×Int×Int:=if l.length=0∨6<l.length then (19,-1,-1) else if 0≤fI l (twP l) then (12,fI l (twP l),fK l (twP l)) else if 0≤fI l (unP l) then ((bndF l (fI l (unP l)) (fK l (unP l))).2.2,fI l (unP l),fK l (unP l)) else (0,0,0)
theorem ref23_Twice {B:Base}{w:World}(hS:St B [] w) (A:Option Addr) (cp:Nat) (l:List ApiObject) (hC:kApiObject.C B.e A l) (hsm:FewO l) :
 CW 84 #[.slice A l.length cp] w (Ret B (fun _:Unit=>True) (fun _=>.tuple #[.agg (rejL (if 0≤fI l (twP l) then (12,fI l (twP l),fK l (twP l)) else (0,0,0))).toArray,.bool (decide (0≤fI l (twP l)))]) (fun _=>[])):=by
 have hln:=hsm.len
 refine ZX Tryz.func84 hS ?_
 refine Zh (Zi (oAlloc J ZP (fun b2=>?_)))
 refine Zp J (Zn (Za (Zh (Zh (Zi (Zp J (Zn (Za (Zk (wLoop (ι:=Nat) (fun i=>[(0,.slice A l.length cp),(2,.pointer (some ⟨b2,0,none⟩)),(4,.int .i64 (i:Int))]) (fun i=>[blk b2 45 [.int .i64 0,.int .i64 0,.int .i64 0]]) (fun i=>i≤l.length∧∀ j ∈ (List.range l.length).take i,rowP l (twP l) j=false) (fun i=>l.length-i) 0 ?_ cv (Leads.has ZQ) ?_))))))))))
 exact ⟨Nat.zero_le _,by simp⟩
 rintro i ⟨hi,hs⟩
 try dsimp only
 refine Zh (Zh (Zi (Zo J (Zo J (Zv J J (Zx J J (Zn (Za (wC (fun h13=>?_) (fun h13=>?_))))))))))
 obtain ⟨o,ho⟩:∃ o,l[i]?=some o:=⟨_,List.getElem?_eq_getElem ZO⟩
 have hil:i<l.length:=by omega
 have hol:=hsm.syms o (List.mem_of_getElem? ho)
 obtain ⟨e1,cs1,hE⟩:=hC.elm ho
 obtain ⟨B0,d0,B1,d1,B2,d2,rfl,m0,q0,m1,q1,m2,q2⟩:=kApiObject_open hE.K
 refine Zj (Za (Zh (Zk (Zh (Zi (Zp J (Zn (Za (Zk (wLoop (ι:=Nat) (fun k=>[(0,.slice A l.length cp),(2,.pointer (some ⟨b2,0,none⟩)),(4,.int .i64 (i:Int)),(5,.int .i64 (k:Int))]) (fun k=>[blk b2 45 [.int .i64 0,.int .i64 0,.int .i64 0]]) (fun k=>k≤o.fSymbols.length∧∀ j ∈ (List.range o.fSymbols.length).take k,twP l i j=false) (fun k=>o.fSymbols.length-k) 0 ?_ cv (Leads.has ZQ) ?_))))))))))
 exact ⟨Nat.zero_le _,by simp⟩
 rintro k ⟨hk,hs2⟩
 try dsimp only
 refine Zh (Zh (Zi (Zo J (Zo J (Zo J (oIdxE J J (hE) ZO J J ?_))))))
 have hc19:=(hE).cell
 refine ZF (ZT 0) (ZT 0) ?_
 refine Zlx hc19 ?_
 refine Zv J J (Zx J J (Zn (Za (wC (fun h23=>?_) (fun h23=>?_)))))
 obtain ⟨x,hx⟩:∃ x,o.fSymbols[k]?=some x:=⟨_,List.getElem?_eq_getElem ZO⟩
 have hkl:k<o.fSymbols.length:=by omega
 obtain ⟨e2,cs2,hE2⟩:=q0.elm hx
 obtain rfl:=kApiSymbol_open hE2.K
 have htp:twP l i k=(glob x && decide ((fnd l x.fName).1≠(i:Int)∨(fnd l x.fName).2.1≠(k:Int))):=by unfold twP;rw [symOf_eq ho hx]
 refine Zj (Za (Zh (Zk (Zh (Zi (Zo J (Zo J (oIdxE J J (hE) ZO J J ?_))))))))
 have hc28:=(hE).cell
 refine ZF (ZT 0) (ZT 0) ?_
 refine Zlx hc28 ?_
 refine Zo J (oIdxE J J (hE2) ZO J J ?_)
 have hc32:=(hE2).cell
 refine Zlx hc32 ?_
 refine oAlloc J ZP (fun b6=>?_)
 refine Zsa ?_
 refine Zn (Za (Zh (Zi (Zo J (Zz (n:=0) (m:=0) J J J (Zld ?_))))))
 (refine ZC0 rfl ZK (fun w hS=>frame hS ZQ (fun B' hB hS'=>ref23_Find hS' A cp l (Kd.C_grow hB hC) hsm x.fName)) ?_;rintro ⟨⟩ -)
 refine Zo J (oExt J ZP ?_)
 refine oExt J ZP ?_
 refine oExt J ZP ?_
 refine Zp J (Zp J (Zp J (Zn (Za (Zzs ?_)))))
 (refine ZC0 rfl ZK (fun w hS=>frame hS ZQ (fun B' hB hS'=>ref23_global hS' x _ (kApiSymbol_mk _ x))) ?_;rintro ⟨⟩ -)
 refine Zo J (ZS (ZT 44) (fun h44=>?_) (fun h44=>?_))
 refine Zq J J (Zo J (Zq J J (Zo J (Zq J J (Z0 J J (Zq J J (Zo J (ZS (ZT 48) (fun h48=>?_) (fun h48=>?_)))))))))
 refine Zr J J J J (Zr J J J J (Zr J J J J (Zq J J (Zt J J (Zt J J (Zn (Za (wCondT J (Zh (Zi (Zo J (Zo J (oBuild (Parts.cons J (Parts.cons J (Parts.cons J Parts.nil))) J J (Built.cons (off:=0) (s:=1) J ZP J ZP (Built.cons (off:=1) (s:=1) J ZP J ZP (Built.cons (off:=2) (s:=1) J ZP J ZP Built.nil))) ?_)))))))))))))
 refine Zsa ?_
 refine Zp J (Zn (Za (Zl (Zf (Zc (Zc (Zf (Zf (Zc (Zc (Zf (Zc (Zw (ZI2 ?_))))))))))))))
 have ht:twP l i k=true:=by rw [htp];simp_all
 obtain ⟨h1,h2⟩:=fI_stop hs ho hs2 hkl ht
 exact ⟨(),trivial,by rw [h1,h2,if_pos ZO,decide_eq_true ZO];rfl,Lh⟩
 refine Zq J J (Zo J (Zq J J (Zo J (Zq J J (Z0 J J (Zq J J (Zu J J (Zt J J (Zn (Za (wC (fun h53=>?_) (fun h53=>?_))))))))))))
 refine Zh (Zi (Zo J (Zo J (oBuild (Parts.cons J (Parts.cons J (Parts.cons J Parts.nil))) J J (Built.cons (off:=0) (s:=1) J ZP J ZP (Built.cons (off:=1) (s:=1) J ZP J ZP (Built.cons (off:=2) (s:=1) J ZP J ZP Built.nil))) ?_))))
 refine Zsa ?_
 refine Zp J (Zn (Za (Zl (Zf (Zc (Zc (Zf (Zf (Zc (Zc (Zf (Zc (Zw (ZI2 ?_))))))))))))))
 have ht:twP l i k=true:=by rw [htp];simp_all
 obtain ⟨h1,h2⟩:=fI_stop hs ho hs2 hkl ht
 exact ⟨(),trivial,by rw [h1,h2,if_pos ZO,decide_eq_true ZO];rfl,Lh⟩
 refine Zj (Zze ?_)
 refine Zp J (Zn (Za ?_))
 exact ⟨rfl,k+1,⟨by omega,take_not hs2 (rng hkl) (by rw [htp];simp_all)⟩,by omega,cv,Lh⟩
 refine Zr J J J J (Zr J J J J (Zr J J J J (Zr J J J J (Zs J J J (Zs J J J (Zs J J J (Zr J J J J (Zu J J (Zn (Za (wCondF J (Zj (Zze ?_)))))))))))))
 refine Zp J (Zn (Za ?_))
 exact ⟨rfl,k+1,⟨by omega,take_not hs2 (rng hkl) (by rw [htp];simp_all)⟩,by omega,cv,Lh⟩
 obtain rfl:k=o.fSymbols.length:=by omega
 rw [List.take_of_length_le (by simp)] at hs2
 have hno:rowP l (twP l) i=false:=by unfold rowP;rw [symsAt_eq ho,List.any_eq_false];intro y hy;rw [hs2 y hy];simp
 refine Zm (Zb (Zb (Ze (Zze ?_))))
 refine Zp J (Zn (Za ?_))
 exact ⟨rfl,i+1,⟨by omega,take_not hs (rng ZO) hno⟩,by omega,cv,Lh⟩
 refine Zm (Zb (Zb (Ze (Za (Zh (Zi (oBuild Parts.nil J J Built.nil (Zsa ?_))))))))
 refine Zp J (Zn (Za (Zl (Zw (ZI2 ?_)))))
 obtain rfl:i=l.length:=by omega
 rw [List.take_of_length_le (by simp)] at hs
 exact ⟨(),trivial,by rw [fI_none hs];rfl,Lh⟩
theorem ref23_Check {B:Base}{w:World}(hS:St B [] w) (A:Option Addr) (cp:Nat) (l:List ApiObject) (hC:kApiObject.C B.e A l) (hsm:FewO l) :
 CW 44 #[.slice A l.length cp] w (Ret B (fun _:Unit=>True) (fun _=>.agg (rejL (chk23 l)).toArray) (fun _=>[])):=by
 have hln:=hsm.len
 refine ZX Tryz.func44 hS ?_
 refine Zh (Zi (oAlloc J ZP (fun b2=>?_)))
 refine Zn (Za (Zh (Zh (Zi (Zo J (Zv J J (Zy J J (Zo J (ZS (ZT 13) (fun h13=>?_) (fun h13=>?_))))))))))
 refine Zr J J J J (Zr J J J J (Zr J J J J (Zt J J (Zn (Za (wCondT J (Zh (Zi (oBuild (Parts.cons J (Parts.cons J (Parts.cons J Parts.nil))) J J (Built.cons (off:=0) (s:=1) J ZP J ZP (Built.cons (off:=1) (s:=1) J ZP J ZP (Built.cons (off:=2) (s:=1) J ZP J ZP Built.nil))) ?_)))))))))
 refine Zsa ?_
 refine Zn (Za (Zl (Zc (Zw (ZI ?_)))))
 exact ⟨(),trivial,by unfold chk23;rw [if_pos ZO];rfl,Lh⟩
 refine Zq J J (Zo J (Zq J J (Zv J J (Zq J J (Z1 J J (Zu J J (Zn (Za (wC (fun h17=>?_) (fun h17=>?_))))))))))
 refine Zh (Zi (oBuild (Parts.cons J (Parts.cons J (Parts.cons J Parts.nil))) J J (Built.cons (off:=0) (s:=1) J ZP J ZP (Built.cons (off:=1) (s:=1) J ZP J ZP (Built.cons (off:=2) (s:=1) J ZP J ZP Built.nil))) ?_))
 refine Zsa ?_
 refine Zn (Za (Zl (Zc (Zw (ZI ?_)))))
 exact ⟨(),trivial,by unfold chk23;rw [if_pos ZO];rfl,Lh⟩
 have hl0:¬ (l.length=0∨6<l.length):=by omega
 refine Zj (Za (Zh (Zh (Zi (Zo J ?_)))))
 (refine ZC0 rfl ZK (fun w hS=>frame hS ZQ (fun B' hB hS'=>ref23_Twice hS' A cp l (Kd.C_grow hB hC) hsm)) ?_;rintro ⟨⟩ -)
 refine Zo J (oExt J ZP ?_)
 refine oExt J ZP ?_
 refine oAlloc J ZP (fun b3=>?_)
 refine Zsa ?_
 refine Zp J (Zn (Za (Zh (Zi (Zo J (Zn (Za (wC (fun h24=>?_) (fun h24=>?_)))))))))
 have ht:0≤fI l (twP l):=by first | exact h24 | exact of_decide_eq_true h24
 rw [if_pos ht]
 refine Zh (Zi (Zla ?_))
 refine Zsa ?_
 refine Zn (Za (Zl (Zc (Zw (ZI ?_)))))
 have ht:0≤fI l (twP l):=by first | exact h24 | exact of_decide_eq_true h24
 exact ⟨(),trivial,by unfold chk23;rw [if_neg hl0,if_pos ht];rfl,Lh⟩
 have ht:¬ 0≤fI l (twP l):=by first | exact h24 | exact of_decide_eq_false h24
 refine Zj (Za (Zh (Zh (Zi (Zp J (Zn (Za (Zk (wLoop (ι:=Nat) (fun i=>[(0,.slice A l.length cp),(2,.pointer (some ⟨b2,0,none⟩)),(5,.int .i64 (i:Int))]) (fun i=>[blk b2 45 [.int .i64 0,.int .i64 0,.int .i64 0]]) (fun i=>i≤l.length∧∀ j ∈ (List.range l.length).take i,rowP l (unP l) j=false) (fun i=>l.length-i) 0 ?_ cv (Leads.has ZQ) ?_)))))))))
 exact ⟨Nat.zero_le _,by simp⟩
 rintro i ⟨hi,hs⟩
 try dsimp only
 refine Zh (Zh (Zi (Zo J (Zo J (Zv J J (Zx J J (Zn (Za (wC (fun h29=>?_) (fun h29=>?_))))))))))
 obtain ⟨o,ho⟩:∃ o,l[i]?=some o:=⟨_,List.getElem?_eq_getElem ZO⟩
 have hil:i<l.length:=by omega
 have hol:=hsm.syms o (List.mem_of_getElem? ho)
 obtain ⟨e1,cs1,hE⟩:=hC.elm ho
 obtain ⟨B0,d0,B1,d1,B2,d2,rfl,m0,q0,m1,q1,m2,q2⟩:=kApiObject_open hE.K
 refine Zj (Za (Zh (Zk (Zh (Zi (Zp J (Zn (Za (Zk (wLoop (ι:=Nat) (fun k=>[(0,.slice A l.length cp),(2,.pointer (some ⟨b2,0,none⟩)),(5,.int .i64 (i:Int)),(6,.int .i64 (k:Int))]) (fun k=>[blk b2 45 [.int .i64 0,.int .i64 0,.int .i64 0]]) (fun k=>k≤o.fSymbols.length∧∀ j ∈ (List.range o.fSymbols.length).take k,unP l i j=false) (fun k=>o.fSymbols.length-k) 0 ?_ cv (Leads.has ZQ) ?_))))))))))
 exact ⟨Nat.zero_le _,by simp⟩
 rintro k ⟨hk,hs2⟩
 try dsimp only
 refine Zh (Zh (Zi (Zo J (Zo J (Zo J (oIdxE J J (hE) ZO J J ?_))))))
 have hc35:=(hE).cell
 refine ZF (ZT 0) (ZT 0) ?_
 refine Zlx hc35 ?_
 refine Zv J J (Zx J J (Zn (Za (wC (fun h39=>?_) (fun h39=>?_)))))
 have hkl:k<o.fSymbols.length:=by omega
 refine Zj (Za (Zh (Zk (Zh (Zi (Zo J (Zo J (Zo J ?_))))))))
 (refine ZC0 rfl ZK (fun w hS=>frame hS ZQ (fun B' hB hS'=>ref23_Bound hS' A cp l (Kd.C_grow hB hC) hsm (i:Int) (k:Int))) ?_;rintro ⟨⟩ -)
 refine Zo J (oExt J ZP ?_)
 refine oExt J ZP ?_
 refine oExt J ZP ?_
 refine Zp J (Zp J (Zp J (Zn (Za (Zh (Zi (Zo J (Z0 J J (Zn (Za (wC (fun h51=>?_) (fun h51=>?_))))))))))))
 refine Zh (Zi (Zo J (Zo J (Zo J (oBuild (Parts.cons J (Parts.cons J (Parts.cons J Parts.nil))) J J (Built.cons (off:=0) (s:=1) J ZP J ZP (Built.cons (off:=1) (s:=1) J ZP J ZP (Built.cons (off:=2) (s:=1) J ZP J ZP Built.nil))) ?_)))))
 refine Zsa ?_
 refine Zn (Za (Zl (Zf (Zc (Zc (Zf (Zf (Zc (Zc (Zf (Zc (Zw (ZI ?_)))))))))))))
 obtain ⟨h1,h2⟩:=fI_stop hs ho hs2 hkl (decide_eq_true h51)
 exact ⟨(),trivial,by unfold chk23;rw [if_neg hl0,if_neg ht,h1,h2,if_pos ZO];rfl,Lh⟩
 refine Zj (Zze ?_)
 refine Zp J (Zn (Za ?_))
 exact ⟨rfl,k+1,⟨by omega,take_not hs2 (rng hkl) (decide_eq_false h51)⟩,by omega,cv,Lh⟩
 obtain rfl:k=o.fSymbols.length:=by omega
 rw [List.take_of_length_le (by simp)] at hs2
 have hno:rowP l (unP l) i=false:=by unfold rowP;rw [symsAt_eq ho,List.any_eq_false];intro y hy;rw [hs2 y hy];simp
 refine Zm (Zb (Zb (Ze (Zze ?_))))
 refine Zp J (Zn (Za ?_))
 exact ⟨rfl,i+1,⟨by omega,take_not hs (rng ZO) hno⟩,by omega,cv,Lh⟩
 refine Zm (Zb (Zb (Ze (Za (Zh (Zi (oBuild Parts.nil J J Built.nil (Zsa ?_))))))))
 refine Zn (Za (Zl (Zw (ZI ?_))))
 obtain rfl:i=l.length:=by omega
 rw [List.take_of_length_le (by simp)] at hs
 exact ⟨(),trivial,by unfold chk23;rw [if_neg hl0,if_neg ht,fI_none hs];rfl,Lh⟩
theorem idxI_cons {α:Type}(p:α→Bool) (x:α) (t:List α):idxI p (x :: t)=if p x=true then 0 else if 0≤idxI p t then idxI p t+1 else -1:=by
 by_cases h:p x=true
 · rw [if_pos h]
   exact idxI_stop (i:=0) (by simp) rfl h
 · rw [if_neg h]
   by_cases h1:0≤idxI p t
   · rw [if_pos h1]
     obtain ⟨k,y,hk,hy,hp⟩:=idxI_at h1
     have hb:∀ z ∈ (x :: t).take (k+1),p z=false:=by
      intro z hz
      rw [List.take_succ_cons] at hz
      rcases List.mem_cons.1 hz with e | hz
      · rw [e];simpa using h
      · obtain ⟨j,hj⟩:=List.mem_iff_getElem?.1 hz
        have hjk:j<k:=by
         have:=(List.getElem?_eq_some_iff.1 hj).1
         rw [List.length_take] at this;omega
        rw [List.getElem?_take,if_pos hjk] at hj
        cases hpz:p z with
        | false=>rfl
        | true=>
         unfold idxI at hk
         rw [if_pos (List.any_eq_true.2 ⟨y,List.mem_of_getElem? hy,hp⟩)] at hk
         have hjl:=(List.getElem?_eq_some_iff.1 hj).1
         have h2:=List.not_of_lt_findIdx (p:=p) (xs:=t) (i:=j) ZO
         rw [(List.getElem?_eq_some_iff.1 hj).2,hpz] at h2
         simp at h2
     have:=idxI_stop (l:=x :: t) (i:=k+1) hb (by rw [List.getElem?_cons_succ];exact hy) hp
     rw [this,hk];simp
   · rw [if_neg h1]
     refine idxI_none (fun y hy=>?_)
     rcases List.mem_cons.1 hy with e | hy
     · rw [e];simpa using h
     · cases hp:p y with
       | false=>rfl
       | true=>exact absurd (idxI_iff.2 (List.any_eq_true.2 ⟨y,hy,hp⟩)) h1
theorem idxI_ge {α:Type}(p:α→Bool) (l:List α):0≤idxI p l∨idxI p l = -1:=by
 by_cases h:l.any p=true
 · exact .inl (idxI_iff.2 h)
 · right;unfold idxI;rw [if_neg h]
def offI {α:Type}(p:α→Bool) (l:List α) (k:Nat):Int:=if 0≤idxI p (l.drop k) then (k:Int)+idxI p (l.drop k) else -1
theorem offI_end {α:Type}(p:α→Bool) (l:List α):offI p l l.length = -1:=by
 unfold offI;rw [List.drop_length];rfl
theorem offI_zero {α:Type}(p:α→Bool) (l:List α):offI p l 0=idxI p l:=by
 unfold offI
 rw [List.drop_zero]
 rcases idxI_ge p l with h | h
 · rw [if_pos h];omega
 · rw [if_neg ZO,h]
theorem offI_step {α:Type}(p:α→Bool) {l:List α}{k:Nat}{x:α}(hx:l[k]?=some x):offI p l k=if p x=true then (k:Int) else offI p l (k+1):=by
 obtain ⟨hk,rfl⟩:=List.getElem?_eq_some_iff.1 hx
 have e:l.drop k=l[k] :: l.drop (k+1):=List.drop_eq_getElem_cons hk
 unfold offI
 rw [e,idxI_cons]
 by_cases h:p l[k]=true
 · rw [if_pos h,if_pos ZO,if_pos h];omega
 · rw [if_neg h,if_neg h]
   by_cases h1:0≤idxI p (l.drop (k+1))
   · rw [if_pos h1,if_pos ZO,if_pos h1];push_cast;omega
   · rw [if_neg h1,if_neg ZO,if_neg h1]
def atP (i:Nat) (x:ApiReloc):Bool:=decide (x.fAt=(i:Int))
def marksL (l:List ApiReloc) (n:Nat):List Int:=(List.range n).map fun i=>idxI (atP i) l
theorem marksL_len (l:List ApiReloc) (n:Nat):(marksL l n).length=n:=by simp [marksL]
theorem marksL_succ (l:List ApiReloc) (n:Nat):marksL l (n+1)=marksL l n++[idxI (atP n) l]:=by
 unfold marksL;rw [List.range_succ,List.map_append];rfl
theorem ref15_Marks {B:Base}{w:World}(hS:St B [] w) (A:Option Addr) (cp:Nat) (l:List ApiReloc) (hC:kApiReloc.C B.e A l) (hl:l.length≤100000) (n:Nat) (hn:n≤4000) (W0:World) :
 CW 122 #[.slice A l.length cp,.int .i64 (n:Int)] w (Ret B (fun _:Option Addr×Nat=>True) (fun z=>.slice z.1 n z.2) (fun z=>[row (Kd.int .i64) W0 3 (.slice z.1 n z.2) (marksL l n)])):=by
 refine ZX Tryz.func122 hS ?_
 refine Zh (Zi (Zp J (Zn (Za (Zh (Zi (Zp J (Zn (Za (Zh (Zh (Zi (Zp J (Zn (Za (Zk (wLoop (ι:=Nat×Option Addr×Nat) (fun z=>[(0,.slice A l.length cp),(1,.int .i64 (n:Int)),(5,.slice z.2.1 z.1 z.2.2),(6,.int .i64 (z.1:Int))]) (fun z=>[row (Kd.int .i64) W0 3 (.slice z.2.1 z.1 z.2.2) (marksL l z.1)]) (fun z=>z.1≤n) (fun z=>n-z.1) (0,none,0) ?_ cv (Leads.nilrow.trans Lh) ?_)))))))))))))))))
 exact Nat.zero_le _
 rintro ⟨i,A2,c2⟩ hi
 dsimp only at hi
 have hml:=marksL_len l i
 try dsimp only
 refine Zh (Zh (Zi (Zo J (Zo J (Zx J J (Zo J (ZS (ZT 12) (fun h12=>?_) (fun h12=>?_))))))))
 refine Zq J J (Zo J (Zq J J (Zx J J (Zt J J (Zn (Za (wC (fun h15=>?_) (fun h15=>?_))))))))
 refine Zj (Za (Zh (Zk (Zh (Zi (Zp J (Zn (Za (Zh (Zh (Zi (Zo J (Zv J J (oSub J J ZO ?_))))))))))))))
 refine ZS0 (t:=7) (v':=.int .i64 (offI (atP i) l l.length)) rfl (by rw [offI_end]) ?_
 refine Zp J (Zn (Za (Zk (wLoop (ι:=Nat) (fun k=>[(0,.slice A l.length cp),(1,.int .i64 (n:Int)),(5,.slice A2 i c2),(6,.int .i64 (i:Int)),(7,.int .i64 (offI (atP i) l k)),(8,.int .i64 ((k:Int)-1))]) (fun k=>[row (Kd.int .i64) W0 3 (.slice A2 i c2) (marksL l i)]) (fun k=>k≤l.length) (fun k=>k) l.length ?_ cv (Leads.has ZQ) ?_))))
 exact Nat.le_refl _
 rintro k hk
 try dsimp only
 refine Zh (Zh (Zi (Zo J (Z2 J J (Zn (Za (wC (fun h22=>?_) (fun h22=>?_))))))))
 obtain ⟨m,rfl⟩:∃ m,k=m+1:=⟨k-1,by omega⟩
 obtain ⟨x,hx⟩:∃ x,l[m]?=some x:=⟨_,List.getElem?_eq_getElem ZO⟩
 obtain ⟨e1,cs1,hE⟩:=hC.elm hx
 obtain rfl:=kApiReloc_open hE.K
 refine Zj (Za (Zh (Zk (Zh (Zi (Zo J (Zo J ?_)))))))
 refine ZS0 (t:=26) (v':=.int .i64 ((m:Nat):Int)) J (by congr 1;omega) ?_
 refine oIdxE J J (hE) ZO J J ?_
 have hc27:=(hE).cell
 refine ZF (ZT 0) (ZT 0) ?_
 refine Zlx hc27 ?_
 refine Zo J (Zy J J (Zn (Za (wC (fun h31=>?_) (fun h31=>?_)))))
 refine Zi (Zo J ?_)
 refine ZS0 (t:=32) (v':=.int .i64 (offI (atP i) l m)) rfl (by rw [offI_step (atP i) hx,if_pos (by simpa [atP] using h31)];congr 1;omega) ?_
 refine Zp J (Zn (Zd (Za (Zi (Zo J (oSub J J ZO ?_))))))
 refine ZS0 (t:=24) (v':=.int .i64 ((m:Int)-1)) J (by congr 1;omega) ?_
 refine Zp J (Zn (Za ?_))
 exact ⟨rfl,m,by omega,by omega,cv,Lh⟩
 refine Zj (Zd (Za (Zi (Zo J (oSub J J ZO ?_)))))
 refine ZS0 (t:=24) (v':=.int .i64 ((m:Int)-1)) J (by congr 1;omega) ?_
 refine Zp J (Zn (Za ?_))
 rw [show offI (atP i) l (m+1)=offI (atP i) l m by rw [offI_step (atP i) hx,if_neg (by simpa [atP] using h31)]]
 exact ⟨rfl,m,by omega,by omega,cv,Lh⟩
 obtain rfl:k=0:=by omega
 rw [offI_zero]
 refine Zm (Zb (Zb (Ze (Za (Zi (Zo J (Zo J (oBuildSlice1 J J J J J ZP J (fun b35=>?_)))))))))
 refine oApp1 (idxI (atP i) l) J J J J ZP ZP J ZO J (fun g36 cp36=>?_)
 rw [← marksL_succ,marksL_len l i]
 refine Zp J (Zn (Zze ?_))
 refine Zp J (Zn (Za ?_))
 exact ⟨rfl,(i+1,some ⟨g36,0,none⟩,cp36),by show i+1≤_;omega,by show n-(i+1)<n-i;omega,cv,Lh⟩
 omega
 refine Zr J J J J (Zr J J J J (Zu J J (Zn (Za (wCondF J (Zm (Zzr ?_)))))))
 obtain rfl:i=n:=by omega
 exact ⟨(A2,c2),trivial,rfl,Lh⟩
theorem ref15_Few {B:Base}{w:World}(hS:St B [] w) (d:ApiData) (dc:List Value) (hd:kApiData.K B.e d dc) :
 CW 27 #[.agg dc.toArray] w (Ret B (fun r:Bool=>r=true→d.fWords.length≤100∧d.fRelocs.length≤100) (fun r=>.bool r) (fun _=>[])):=by
 obtain ⟨A0,c0,A1,c1,rfl,l0,g0,l1,g1⟩:=kApiData_open hd
 refine ZX Tryz.func27 hS ?_
 refine Zh (Zi (oBox J ZP (fun b1=>?_)))
 refine Zp J (Zn (Za (Zh (Zi (Zz (n:=1) (m:=1) J J J (Zld ?_))))))
 refine Zv J J (oLeq J J (Zo J (ZS (ZT 7) (fun h7=>?_) (fun h7=>?_))))
 refine Zq J J (Zz (n:=2) (m:=2) J J J (Zzf ?_))
 refine Zq J J (Zv J J (Zq J J (oLeq J J (Zt J J (Zza ?_)))))
 exact ⟨_,(by intro h;first | focus (simp at h;done) | (have:=of_decide_eq_true h;constructor <;> omega)),rfl,Lh⟩
 refine Zr J J J J (Zr J J J J (Zzp ?_))
 exact ⟨_,(by intro h;first | focus (simp at h;done) | (have:=of_decide_eq_true h;constructor <;> omega)),rfl,Lh⟩
def mix {α:Type}(a b:List α) (i:Nat):List α:=a.take i++b.drop i
theorem mix_len {α:Type}{a b:List α}(h:a.length=b.length) (i:Nat):(mix a b i).length=b.length:=by
 unfold mix;rw [List.length_append,List.length_take,List.length_drop];omega
theorem mix_get {α:Type}{a b:List α}(h:a.length=b.length) (i j:Nat):(mix a b i)[j]?=if j<i then a[j]? else b[j]?:=by
 unfold mix
 by_cases hj:j<i
 · rw [if_pos hj]
   by_cases hl:j<a.length
   · rw [List.getElem?_append_left (by rw [List.length_take];omega),List.getElem?_take,if_pos hj]
   · rw [List.getElem?_eq_none (by rw [List.length_append,List.length_take,List.length_drop];omega),List.getElem?_eq_none ZO]
 · rw [if_neg hj]
   by_cases hl:i≤a.length
   · rw [List.getElem?_append_right (by rw [List.length_take];omega),List.length_take,Nat.min_eq_left hl,List.getElem?_drop]
     congr 1;omega
   · rw [List.getElem?_eq_none (by rw [List.length_append,List.length_take,List.length_drop];omega),List.getElem?_eq_none ZO]
theorem mix_set {α:Type}{a b:List α}(h:a.length=b.length) {i:Nat}{x:α}(hx:a[i]?=some x):(mix a b i).set i x=mix a b (i+1):=by
 have hi:=(List.getElem?_eq_some_iff.1 hx).1
 apply List.ext_getElem?
 intro j
 rw [List.getElem?_set,mix_get h,mix_get h,mix_len h]
 by_cases e:i=j
 · subst e;rw [if_pos rfl,if_pos ZO,if_pos ZO,hx]
 · rw [if_neg e]
   by_cases h1:j<i
   · rw [if_pos h1,if_pos ZO]
   · rw [if_neg h1,if_neg ZO]
theorem mix_same {α:Type}{a b:List α}(h:a.length=b.length) {i:Nat}(hx:a[i]?=b[i]?):mix a b (i+1)=mix a b i:=by
 apply List.ext_getElem?
 intro j
 rw [mix_get h,mix_get h]
 by_cases e:i=j
 · subst e;rw [if_pos ZO,if_neg ZO,hx]
 · by_cases h1:j<i
   · rw [if_pos h1,if_pos ZO]
   · rw [if_neg h1,if_neg ZO]
theorem mix_all {α:Type}{a b:List α}(h:a.length=b.length):mix a b b.length=a:=by
 unfold mix;rw [List.drop_length,List.append_nil,← h,List.take_length]
theorem mix_zero {α:Type}(a b:List α):mix a b 0=b:=by unfold mix;simp
def refD (d:ApiData) (m:Int):Int:=if 0≤m then (d.fRelocs.getD m.toNat default).fSym else -1
def refsD (d:ApiData):List Int:=(marksL d.fRelocs d.fWords.length).map (refD d)
theorem refsD_len (d:ApiData):(refsD d).length=(marksL d.fRelocs d.fWords.length).length:=by unfold refsD;rw [List.length_map]
theorem marksL_at {l:List ApiReloc}{n i:Nat}{m:Int}(h:(marksL l n)[i]?=some m):m=idxI (atP i) l:=by
 unfold marksL at h
 rw [List.getElem?_map] at h
 obtain ⟨j,hj,rfl⟩:=Option.map_eq_some_iff.1 h
 obtain ⟨hj1,rfl⟩:=List.getElem?_eq_some_iff.1 hj
 simp
theorem refsD_T {d:ApiData}{n i k:Nat}{x:ApiReloc}(hn:n=d.fWords.length) (h:(marksL d.fRelocs n)[i]?=some (k:Int)) (hx:d.fRelocs[k]?=some x):(refsD d)[i]?=some x.fSym:=by
 subst hn
 unfold refsD
 rw [List.getElem?_map,h]
 show some (refD d (k:Int))=_
 unfold refD
 rw [if_pos ZO,Int.toNat_natCast,List.getD_eq_getElem?_getD,hx];rfl
theorem refsD_F {d:ApiData}{i:Nat}{m:Int}(h:(marksL d.fRelocs d.fWords.length)[i]?=some m) (hm:¬ 0≤m):(refsD d)[i]?=(marksL d.fRelocs d.fWords.length)[i]?:=by
 unfold refsD
 rw [List.getElem?_map,h]
 show some (refD d m)=_
 unfold refD
 rw [if_neg hm]
 have h1:=marksL_at h
 rcases idxI_ge (atP i) d.fRelocs with h2 | h2
 · rw [← h1] at h2;exact absurd h2 hm
 · rw [h1,h2]
theorem ref15_Refs {B:Base}{w:World}(hS:St B [] w) (d:ApiData) (dc:List Value) (hd:kApiData.K B.e d dc) (h1:d.fWords.length≤4000) (h2:d.fRelocs.length≤100000) (W0:World) :
 CW 90 #[.agg dc.toArray] w (Ret B (fun _:Option Addr×Nat=>True) (fun z=>.slice z.1 d.fWords.length z.2) (fun z=>[row (Kd.int .i64) W0 3 (.slice z.1 d.fWords.length z.2) (refsD d)])):=by
 obtain ⟨A0,c0,A1,c1,rfl,l0,g0,l1,g1⟩:=kApiData_open hd
 have hml:=marksL_len d.fRelocs d.fWords.length
 have hrl:=refsD_len d
 refine ZX Tryz.func90 hS ?_
 refine Zh (Zi (oBox J ZP (fun b1=>?_)))
 refine Zp J (Zn (Za (Zh (Zi (Zz (n:=2) (m:=2) J J J (Zld ?_))))))
 refine Zz (n:=1) (m:=1) J J J (Zld ?_)
 refine Zv J J ?_
 (refine ZC0 rfl ZK (fun w hS=>frame hS ZQ (fun B' hB hS'=>ref15_Marks hS' A1 c1 d.fRelocs (Kd.C_grow hB g1) h2 d.fWords.length h1 W0)) ?_;rintro ⟨A10,c10⟩ -)
 refine Zp J (Zn (Za (Zh (Zh (Zi (Zp J (Zn (Za (Zk ?_)))))))))
 refine wLoop (ι:=Nat) (fun i=>[(1,.pointer (some ⟨b1,0,none⟩)),(3,.slice A10 d.fWords.length c10),(4,.int .i64 (i:Int))]) (fun i=>[blk b1 62 [.int .i64 d.fKind,.slice A0 d.fWords.length c0,.slice A1 d.fRelocs.length c1],row (Kd.int .i64) W0 3 (.slice A10 d.fWords.length c10) (mix (refsD d) (marksL d.fRelocs d.fWords.length) i)]) (fun i=>i≤d.fWords.length) (fun i=>d.fWords.length-i) 0 ?_ cv (by rw [mix_zero];exact Lh) ?_
 exact Nat.zero_le _
 rintro i hi
 have hxl:(mix (refsD d) (marksL d.fRelocs d.fWords.length) i).length=d.fWords.length:=(mix_len hrl i).trans hml
 try dsimp only
 refine Zh (Zh (Zi (Zo J (Zo J (Zv J J (Zx J J (Zn (Za (wC (fun h14=>?_) (fun h14=>?_))))))))))
 refine Zj (Za (Zh (Zk (Zh (Zi (Zo J (Zo J (ZR J J ZP ZO J J (fun g19 hg19=>?_)))))))))
 first | subst hg19 | (injection hg19 with hg19;injection hg19 with hg19;subst hg19)
 refine ZR1 J ZP ZO J (fun u20 hu20=>?_)
 rw [mix_get hrl,if_neg (Nat.lt_irrefl i)] at hu20
 refine Z2 J J (Zn (Za (wC (fun h21=>?_) (fun h21=>?_))))
 obtain ⟨k,x,hk,hx,hp⟩:=idxI_at (show 0≤idxI (atP i) d.fRelocs by rw [← marksL_at hu20];exact h21)
 obtain rfl:u20=(k:Int):=(marksL_at hu20).trans hk
 have hkl:=(List.getElem?_eq_some_iff.1 hx).1
 obtain ⟨e1,cs1,hE⟩:=g1.elm hx
 obtain rfl:=kApiReloc_open hE.K
 refine wDraw2 J J [0,1,4,5] [2,3,6,7,8,9,10,11] 12 ZK J J J (fun w0=>?_)
 refine Zz (n:=2) (m:=2) J J J (Zld ?_)
 refine ZR J J ZP ZO J J (fun g28 hg28=>?_)
 first | subst hg28 | (injection hg28 with hg28;injection hg28 with hg28;subst hg28)
 refine ZR1 J ZP ZO J (fun u29 hu29=>?_)
 rw [mix_get hrl,if_neg (Nat.lt_irrefl i),hu20] at hu29
 obtain rfl:=Option.some.inj hu29
 refine oIdxE J J (hE) ZO J J ?_
 have hc30:=(hE).cell
 refine ZF (ZT 1) (ZT 1) ?_
 refine Zlx hc30 ?_
 refine ZR J J ZP ZO J J (fun g33 hg33=>?_)
 first | subst hg33 | (injection hg33 with hg33;injection hg33 with hg33;subst hg33)
 refine oHead (oStR (enc:=Value.int .i64) x.fSym J J J J ZP ZO ?_)
 rw [mix_set hrl (refsD_T rfl hu20 hx)]
 refine oNilT (Zze ?_)
 refine Zp J (Zn (Za ?_))
 exact ⟨rfl,i+1,by omega,by omega,cv,Lh⟩
 refine Zj (Zze ?_)
 refine Zp J (Zn (Za ?_))
 exact ⟨rfl,i+1,by omega,by omega,cv,by rw [mix_same hrl (refsD_F hu20 h21)];exact Lh⟩
 obtain rfl:i=d.fWords.length:=by omega
 have hma:mix (refsD d) (marksL d.fRelocs d.fWords.length) d.fWords.length=refsD d:=by have:=mix_all hrl;rw [hml] at this;exact this
 rw [hma]
 refine Zm (Zzr ?_)
 exact ⟨(_,c10),trivial,rfl,Lh⟩
def dP (code:List ApiInstr) (k:Nat):Bool:=decide ((code.getD k default).fOp=21)
def dfr (code:List ApiInstr) (n:Nat):List Int:=((List.range n).filter (dP code)).map fun k=>((k:Nat):Int)
theorem dfr_succ (code:List ApiInstr) (n:Nat):dfr code (n+1)=dfr code n++(if dP code n=true then [(n:Int)] else []):=by
 unfold dfr
 rw [List.range_succ,List.filter_append,List.map_append]
 congr 1
 simp only [List.filter_cons,List.filter_nil]
 split <;> rfl
theorem dfr_len (code:List ApiInstr) (n:Nat):(dfr code n).length≤n:=by
 unfold dfr
 rw [List.length_map]
 exact Nat.le_trans (List.length_filter_le _ _) (by simp)
theorem dP_at {code:List ApiInstr}{k:Nat}{x:ApiInstr}(h:code[k]?=some x):dP code k=decide (x.fOp=21):=by
 unfold dP;rw [List.getD_eq_getElem?_getD,h];rfl
theorem ref18_Marks {B:Base}{w:World}(hS:St B [] w) (A:Option Addr) (cp:Nat) (code:List ApiInstr) (hC:kApiInstr.C B.e A code) (hl:code.length≤100000) (W0:World) :
 CW 110 #[.slice A code.length cp] w (Ret B (fun _:Option Addr×Nat=>True) (fun z=>.slice z.1 (dfr code code.length).length z.2) (fun z=>[row (Kd.int .i64) W0 3 (.slice z.1 (dfr code code.length).length z.2) (dfr code code.length)])):=by
 refine ZX Tryz.func110 hS ?_
 refine Zh (Zi (Zp J (Zn (Za (Zh (Zi (Zp J (Zn (Za (Zh (Zh (Zi (Zp J (Zn (Za (Zk (wLoop (ι:=Nat×Option Addr×Nat) (fun z=>[(0,.slice A code.length cp),(3,.slice z.2.1 (dfr code z.1).length z.2.2),(4,.int .i64 (z.1:Int))]) (fun z=>[row (Kd.int .i64) W0 3 (.slice z.2.1 (dfr code z.1).length z.2.2) (dfr code z.1)]) (fun z=>z.1≤code.length) (fun z=>code.length-z.1) (0,none,0) ?_ cv (Leads.nilrow.trans Lh) ?_)))))))))))))))))
 exact Nat.zero_le _
 rintro ⟨i,A2,c2⟩ hi
 dsimp only at hi
 have hle:=dfr_len code i
 try dsimp only
 refine Zh (Zh (Zi (Zo J (Zo J (Zv J J (Zx J J (Zn (Za (wC (fun h8=>?_) (fun h8=>?_))))))))))
 obtain ⟨x,hx⟩:∃ x,code[i]?=some x:=⟨_,List.getElem?_eq_getElem ZO⟩
 obtain ⟨e1,cs1,hE⟩:=hC.elm hx
 obtain rfl:=kApiInstr_open hE.K
 have hdp:=dP_at hx
 refine Zj (Za (Zh (Zk (Zh (Zi (Zo J (Zo J (oIdxE J J (hE) ZO J J ?_))))))))
 have hc13:=(hE).cell
 refine ZF (ZT 0) (ZT 0) ?_
 refine Zlx hc13 ?_
 refine Zy J J (Zn (Za (wC (fun h16=>?_) (fun h16=>?_))))
 refine Zi (Zo J (Zo J (oBuildSlice1 J J J J J ZP J (fun b19=>?_))))
 refine oApp1 (i:Int) J J J J ZP ZP J ZO J (fun g20 cp20=>?_)
 have hft:dfr code (i+1)=dfr code i++[(i:Int)]:=by rw [dfr_succ,hdp,if_pos (by simpa using h16)]
 rw [show (dfr code i).length+1=(dfr code (i+1)).length by rw [hft,List.length_append];rfl,← hft]
 refine Zp J (Zn (Zze ?_))
 refine Zp J (Zn (Za ?_))
 exact ⟨rfl,(i+1,some ⟨g20,0,none⟩,cp20),by show i+1≤_;omega,by show code.length-(i+1)<code.length-i;omega,cv,Lh⟩
 refine Zj (Zze ?_)
 refine Zp J (Zn (Za ?_))
 have hft:dfr code (i+1)=dfr code i:=by rw [dfr_succ,hdp,if_neg (by simpa using h16),List.append_nil]
 exact ⟨rfl,(i+1,A2,c2),by show i+1≤_;omega,by show code.length-(i+1)<code.length-i;omega,by dsimp only;rw [hft];exact cv,by dsimp only;rw [hft];exact Lh⟩
 obtain rfl:i=code.length:=by omega
 refine Zm (Zzr ?_)
 exact ⟨(A2,c2),trivial,rfl,Lh⟩
def rg (code:List ApiInstr):List (List Int):=(List.range code.length).map fun k=>rnext (code.getD k default) k
theorem rg_len (code:List ApiInstr):(rg code).length=code.length:=by simp [rg]
theorem rg_at {code:List ApiInstr}{k:Nat}{x:ApiInstr}(h:code[k]?=some x):(rg code)[k]?=some (rnext x k):=by
 obtain ⟨hk,rfl⟩:=List.getElem?_eq_some_iff.1 h
 unfold rg
 rw [List.getElem?_map,List.getElem?_range hk]
 show some (rnext (code.getD k default) k)=_
 rw [List.getD_eq_getElem?_getD,h];rfl
theorem take_atW {α:Type}{l:List α}{k:Nat}{x:α}(h:l[k]?=some x):l.take k++[x]=l.take (k+1):=by
 rw [List.take_add_one,h];rfl
theorem ref14_Graph {B:Base}{w:World}(hS:St B [] w) (A:Option Addr) (cp:Nat) (code:List ApiInstr) (hC:kApiInstr.C B.e A code) (hl0:code.length≤100000) (W0:World) :
 CW 155 #[.slice A code.length cp] w (Ret B (fun z:Option Addr×Nat×List Hdr=>z.2.2.length=code.length) (fun z=>.slice z.1 code.length z.2.1) (fun z=>[row kHdr W0 35 (.slice z.1 code.length z.2.1) z.2.2,bun (rws (Kd.int .i64) W0 3 z.2.2 (rg code))])):=by
 refine ZX Tryz.func155 hS ?_
 refine Zh (Zi (Zp J (Zn (Za (Zh (Zi (Zp J (Zn (Za (Zh (Zh (Zi (Zp J (Zn (Za (Zk (wLoop (ι:=Nat×List Hdr×Option Addr×Nat) (fun z=>[(0,.slice A code.length cp),(3,.slice z.2.2.1 z.1 z.2.2.2),(4,.int .i64 (z.1:Int))]) (fun z=>[row kHdr W0 35 (.slice z.2.2.1 z.1 z.2.2.2) z.2.1,bun (rws (Kd.int .i64) W0 3 z.2.1 ((rg code).take z.1))]) (fun z=>z.1≤code.length∧z.2.1.length=z.1) (fun z=>code.length-z.1) (0,[],none,0) ?_ cv (Leads.nilrow.trans (bun_nil.trans Lh)) ?_)))))))))))))))))
 exact ⟨Nat.zero_le _,rfl⟩
 rintro ⟨a,hs,A5,c5⟩ ⟨ha,hl⟩
 dsimp only at ha hl
 have hxl:((rg code).take a).length=a:=by rw [List.length_take,rg_len];omega
 try dsimp only
 refine Zh (Zh (Zi (Zo J (Zo J (Zv J J (Zx J J (Zn (Za (wC (fun h8=>?_) (fun h8=>?_))))))))))
 obtain ⟨x,hx⟩:∃ x,code[a]?=some x:=⟨_,List.getElem?_eq_getElem ZO⟩
 refine Zj (Za (Zh (Zk (Zi (Zo J (Zo J (Zo J ?_)))))))
 (refine ZC0 rfl ZK (fun w hS=>frame hS ZQ (fun B' hB hS'=>ref14_Next hS' A cp code (Kd.C_grow hB hC) a x hx W0)) ?_;rintro ⟨A14,c14⟩ -)
 refine oBuildSlice1 J J J J J ZP J (fun b15=>?_)
 refine oApp1 (kd:=kHdr) ((A14,(rnext x a).length,c14):Hdr) J J J J ZP ZP J ZO J (fun g16 cp16=>?_)
 refine oSnoc (kd:=Kd.int .i64) (W:=W0) (ei:=3) (u:=(A14,(rnext x a).length,c14)) (l:=rnext x a) (hs:=hs) (xss:=(rg code).take a) ZP ZP ZO ?_
 rw [take_atW (rg_at hx),hl]
 refine Zp J (Zn (Zze ?_))
 refine Zp J (Zn (Za ?_))
 exact ⟨rfl,(a+1,hs++[(A14,(rnext x a).length,c14)],some ⟨g16,0,none⟩,cp16),⟨by show a+1≤_;omega,by show (hs++_).length=a+1;rw [List.length_append,hl];rfl⟩,by show code.length-(a+1)<code.length-a;omega,cv,Lh⟩
 obtain rfl:a=code.length:=by omega
 rw [show (rg code).take code.length=rg code by rw [← rg_len code,List.take_length]]
 refine Zm (Zzr ?_)
 exact ⟨(A5,c5,hs),hl,rfl,Lh⟩
end Go.Proofs.YtafiabekcekdbaaGreatW
/-
  Package digraph: ends and its iterator; the library's AppendSeq and Collect over it.
-/
namespace Go.Proofs.YtafiabekcekdbaaGreatG
set_option maxRecDepth 100000
set_option maxHeartbeats 4000000
open Go.RowKit Go.Proofs.YtafiabekcekdbaaGreatK Go.Proofs.YtafiabekcekdbaaGreatT

abbrev kII:Kd (List Int):=Kd.slice (Kd.int .i64)
abbrev Graph:=List (List Int)
def inG (g:Graph) (x:Int):Bool:=decide (0≤x) && decide (x<(g.length:Int))
def endsOf (g:Graph) (a:Nat):List Int:=(g.getD a []).filter (inG g)
def intV (x:Int):List Value:=[.int .i64 x]
theorem getD_at {α:Type}{l:List α}{i:Nat}{o d:α}(h:l[i]?=some o):l.getD i d=o:=by rw [List.getD_eq_getElem?_getD,h];rfl
theorem filter_drop {u:List Int}{i:Nat}{x:Int}{P:Int→Bool}(h:u[i]?=some x):(u.drop i).filter P=if P x=true then x :: (u.drop (i+1)).filter P else (u.drop (i+1)).filter P:=by
 obtain ⟨hi,rfl⟩:=List.getElem?_eq_some_iff.1 h
 rw [List.drop_eq_getElem_cons hi,List.filter_cons]
theorem drop_cons {α:Type}{l:List α}{j:Nat}{y:α}{r:List α}(h:l.drop j=y :: r):∃ hj:j<l.length,l[j]=y∧l.drop (j+1)=r:=by
 have hj:j<l.length:=by
  rcases Nat.lt_or_ge j l.length with hj | hj
  · exact hj
  · rw [List.drop_of_length_le hj] at h;cases h
 rw [List.drop_eq_getElem_cons hj] at h
 injection h with h1 h2
 exact ⟨hj,h1,h2⟩

theorem ends_any {B:Base}{w:World}(hS:St B [] w) (A:Option Addr) (n cp:Nat) (a:Int) :
 CW 197 #[.slice A n cp,.int .i64 a] w (Ret B (fun _:Nat×Nat=>True) (fun p=>.func (.func 203) #[] #[.pointer (some ⟨p.1,0,none⟩),.pointer (some ⟨p.2,0,none⟩)]) (fun p=>[blk p.1 183 [.slice A n cp],blk p.2 3 [.int .i64 a]])):=by
 refine ZX Tryz.func197 hS ?_
 refine Zh (Zi (oBox J ZP (fun b2=>?_)))
 refine oBox J ZP (fun b3=>?_)
 refine Zp J (Zn (Za (Zh (Zi (oMakeFunc J (Zza ?_))))))
 exact ⟨(b2,b3),trivial,rfl,Lh⟩

theorem ends1 {B:Base}(g:Graph) (A:Option Addr) (cp a p2 p3:Nat) (hC:kII.C B.e A g) (ha:a<g.length) :
 IterC Tryz.prog 203 #[.pointer (some ⟨p2,0,none⟩),.pointer (some ⟨p3,0,none⟩)] B ((endsOf g a).map intV) [blk p2 183 [.slice A g.length cp],blk p3 3 [.int .i64 (a:Int)]]:=by
 intro lp AI Ax r0 w hbody hA hS
 have hl1:=hC.1
 show CW 203 #[.func (.yield lp) #[] #[],.pointer (some ⟨p2,0,none⟩),.pointer (some ⟨p3,0,none⟩)] w _
 refine ZX Tryz.func203 hS ?_
 refine Zh (Zi (Zld ?_))
 refine Zld ?_
 refine oIdx J J (hC) J ZO J J (fun e8 u8 cs8 hu8 hk8 hc8=>?_)
 obtain ⟨A0,c0,rfl,hle8,g0⟩:=hk8
 have hbig8:=g0.1
 have hends:endsOf g a=u8.filter (inG g):=by unfold endsOf;rw [getD_at hu8]
 refine Zlx hc8 ?_
 refine Zv J J (Zo J (Zn (Za (Zk (wLoop (ι:=Nat×Nat×Res) (fun z=>[(0,.func (.yield lp) #[] #[]),(1,.pointer (some ⟨p2,0,none⟩)),(9,.slice A0 u8.length c0),(10,.int .i64 (u8.length:Int)),(11,.int .i64 (z.1:Int))]) (fun z=>[z.2.2,blk p2 183 [.slice A g.length cp],blk p3 3 [.int .i64 (a:Int)]]) (fun z=>z.1≤u8.length∧z.2.1≤(endsOf g a).length∧AI z.2.1 z.2.2∧(endsOf g a).drop z.2.1=(u8.drop z.1).filter (inG g)) (fun z=>u8.length-z.1) (0,0,r0) ?_ cv (Leads.has ZQ) ?_)))))
 exact ⟨Nat.zero_le _,Nat.zero_le _,hA,hends⟩
 rintro ⟨i,j,r⟩ ⟨hi,hj,hA,hd⟩
 dsimp only at hi hj hA hd
 try dsimp only
 refine Zh (Zi (Zx J J (Zn (Za (Zh (wC (fun h12=>?_) (fun h12=>?_)))))))
 refine Zj (Za (Zh (Zk (Zh (Zi (oIdx J J (g0) J ZO J J (fun e13 u13 cs13 hu13 hk13 hc13=>?_)))))))
 obtain rfl:=hk13
 have hfd:=filter_drop (P:=inG g) hu13
 refine Zlx hc13 ?_
 refine Zp J (Zn (Za (Zh (Zi (Zo J (Z2 J J (Zo J (ZS (ZT 17) (fun h17=>?_) (fun h17=>?_)))))))))
 refine Zq J J (Zo J (Zzf ?_))
 refine Zq J J (Zv J J (Zq J J (Zx J J (Zt J J (Zo J (ZS (ZT 23) (fun h23=>?_) (fun h23=>?_)))))))
 rw [if_pos (by simp [inG];omega)] at hfd
 obtain ⟨hjlt,hjg,hjd⟩:=drop_cons (hd.trans hfd)
 have hY:∀ Fr W1,St B (r :: Fr) W1→YieldAt Fence.wide 0 Tryz.prog lp (intV u13).toArray W1 (YEnd B j AI Ax Fr):=by
  intro Fr W1 h1
  have:=hbody j (by simpa using hjlt) r Fr W1 hA h1
  rwa [List.getElem_map,hjg] at this
 refine Zq J J (Zo J (Zq J J (Zo J (Zq J J (oYield J J J (fun w hS=>hY _ w (hS.perm (Pick.perm ZP))) ?_)))))
 rintro ⟨bb,r'⟩ hr'
 dsimp only at hr' ⊢
 refine Zq J J (Zno ?_)
 refine Zt J J (Zn (Za (wC (fun h28=>?_) (fun h28=>?_))))
 refine Zl (Zf (Zc (Zc (Zf (Zw ?_)))))
 refine ⟨rfl,_,ResL.nil,?_⟩
 exact ⟨r',.inr ⟨j,by simpa using hjlt,by rw [if_neg (by simpa using h28)] at hr';exact hr'⟩,rfl,Lh⟩
 refine Zj (Zzi ?_)
 refine Zo J (Zn (Za ?_))
 exact ⟨rfl,(i+1,j+1,r'),⟨by show i+1≤_;omega,hjlt,by rw [if_pos (by simpa using h28)] at hr';exact hr',hjd⟩,by show u8.length-(i+1)<u8.length-i;omega,cv,Lh⟩
 refine Zr J J J J (Zr J J J J (Zr J J J J (Zr J J J J (Zu J J (Zn (Za (wCondF J (Zj (Zzi ?_)))))))))
 refine Zo J (Zn (Za ?_))
 exact ⟨rfl,(i+1,j,r),⟨by show i+1≤_;omega,hj,hA,by rw [hd,hfd,if_neg (by simp [inG];omega)]⟩,by show u8.length-(i+1)<u8.length-i;omega,cv,Lh⟩
 refine Zr J J J J (Zr J J J J (Zr J J J J (Zr J J J J (Zu J J (Zo J (Zr J J J J (Zr J J J J (Zr J J J J (Zr J J J J (Zu J J (Zn (Za (wCondF J (Zj (Zzi ?_)))))))))))))))
 refine Zo J (Zn (Za ?_))
 exact ⟨rfl,(i+1,j,r),⟨by show i+1≤_;omega,hj,hA,by rw [hd,hfd,if_neg (by simp [inG];omega)]⟩,by show u8.length-(i+1)<u8.length-i;omega,cv,Lh⟩
 refine Zm (Zb (Zb (Ze (fin_n ?_))))
 refine ⟨rfl,_,ResL.nil,?_⟩
 have hj:j=((endsOf g a).map intV).length:=by
  obtain rfl:i=u8.length:=by omega
  rw [List.drop_length] at hd
  have:=List.drop_eq_nil_iff.1 hd
  rw [List.length_map];omega
 exact ⟨r,.inl (hj ▸ hA),rfl,Lh⟩

end Go.Proofs.YtafiabekcekdbaaGreatG


/-
  Package digraph: Clean; the library's Sorted.
-/
namespace Go.Proofs.YtafiabekcekdbaaGreatG
set_option maxRecDepth 100000
set_option maxHeartbeats 4000000
open Go.RowKit Go.Proofs.YtafiabekcekdbaaGreatK Go.Proofs.YtafiabekcekdbaaGreatT Go.Proofs.YtafiabekcekdbaaGreatL

def SmallG (g:Graph):Prop:=g.length≤1000∧∀ l ∈ g,l.length≤1000
theorem ends_le {g:Graph}(h:SmallG g) (a:Nat):(endsOf g a).length≤1000:=by
 unfold endsOf
 refine Nat.le_trans (List.length_filter_le _ _) ?_
 by_cases ha:a<g.length
 · rw [getD_at (List.getElem?_eq_getElem ha)]
   exact h.2 _ (List.getElem_mem ha)
 · rw [List.getD_eq_getElem?_getD,List.getElem?_eq_none ZO];simp
def cl (g:Graph) (a:Nat):List Int:=Lib.compact ((endsOf g a).mergeSort leI)
end Go.Proofs.YtafiabekcekdbaaGreatG


/-
  Package digraph: Reach.
-/
namespace Go.Proofs.YtafiabekcekdbaaGreatG
set_option maxRecDepth 100000
set_option maxHeartbeats 4000000
open Go.RowKit Go.Proofs.YtafiabekcekdbaaGreatK Go.Proofs.YtafiabekcekdbaaGreatT Go.Proofs.YtafiabekcekdbaaGreatL

inductive RP (g:Graph) (from_:List Int):Int→Prop
  | start {a:Int} : a ∈ from_→inG g a=true→RP g from_ a
  | step {a:Nat}{b:Int} : RP g from_ (a:Int)→b ∈ endsOf g a→RP g from_ b
theorem inG_iff {g:Graph}{x:Int} : inG g x=true↔0≤x∧x<(g.length:Int):=by simp [inG]
theorem ends_in {g:Graph}{a:Nat}{b:Int}(h:b ∈ endsOf g a):inG g b=true:=(List.mem_filter.1 h).2
theorem RP.inG {g:Graph}{f:List Int}{x:Int}(h:RP g f x):inG g x=true:=by
 cases h with
 | start _ h=>exact h
 | step _ h=>exact ends_in h
structure RS (g:Graph) (from_:List Int) (out:List Bool) (wait:List Int):Prop where
  len:out.length=g.length
  sound:∀ i:Nat,out[i]?=some true→RP g from_ (i:Int)
  waits:∀ x ∈ wait,RP g from_ x
  starts:∀ x ∈ from_,inG g x=true→out[x.toNat]?=some true∨x ∈ wait
  closed:∀ i:Nat,out[i]?=some true→∀ b ∈ endsOf g i,out[b.toNat]?=some true∨b ∈ wait
theorem RS.done {g:Graph}{f:List Int}{out:List Bool}(h:RS g f out []):∀ x,RP g f x→out[x.toNat]?=some true:=by
 intro x hx
 induction hx with
 | start h1 h2=>
  rcases h.starts _ h1 h2 with h | h
  · exact h
  · cases h
 | step h1 h2 ih=>
  rcases h.closed _ (by simpa using ih) _ h2 with h | h
  · exact h
  · cases h
theorem RS.skip {g:Graph}{f:List Int}{out:List Bool}{wait:List Int}{x:Int}(h:RS g f out (wait++[x])) (hx:out[x.toNat]?=some true):RS g f out wait:=by
 refine ⟨h.len,h.sound,fun y hy=>h.waits y (List.mem_append_left _ hy),fun y hy hi=>?_,fun i hi b hb=>?_⟩
 · rcases h.starts y hy hi with h | h
   · exact .inl h
   · rcases List.mem_append.1 h with h | h
     · exact .inr h
     · rw [List.mem_singleton.1 h];exact .inl hx
 · rcases h.closed i hi b hb with h | h
   · exact .inl h
   · rcases List.mem_append.1 h with h | h
     · exact .inr h
     · rw [List.mem_singleton.1 h];exact .inl hx
theorem RS.take {g:Graph}{f:List Int}{out:List Bool}{wait:List Int}{a:Nat}(h:RS g f out (wait++[(a:Int)])) (ha:a<out.length):RS g f (out.set a true) (wait++endsOf g a):=by
 have hR:RP g f (a:Int):=h.waits _ (by simp)
 have hset:∀ i:Nat,out[i]?=some true→(out.set a true)[i]?=some true:=fun i hi=>by
  rw [List.getElem?_set]
  split
  · rename_i e;subst e;simp [ha]
  · exact hi
 have haa:(out.set a true)[a]?=some true:=by simp [ha]
 refine ⟨by rw [List.length_set];exact h.len,fun i hi=>?_,fun x hx=>?_,fun x hx hi=>?_,fun i hi b hb=>?_⟩
 · rw [List.getElem?_set] at hi
   split at hi
   · rename_i e;subst e;exact hR
   · exact h.sound i hi
 · rcases List.mem_append.1 hx with hx | hx
   · exact h.waits x (List.mem_append_left _ hx)
   · exact .step hR hx
 · rcases h.starts x hx hi with h | h
   · exact .inl (hset _ h)
   · rcases List.mem_append.1 h with h | h
     · exact .inr (List.mem_append_left _ h)
     · rw [List.mem_singleton.1 h];exact .inl (by simpa using haa)
 · by_cases e:i=a
   · subst e;exact .inr (List.mem_append_right _ hb)
   · have hi':out[i]?=some true:=by rw [List.getElem?_set,if_neg (fun h=>e h.symm)] at hi;exact hi
     rcases h.closed i hi' b hb with h | h
     · exact .inl (hset _ h)
     · rcases List.mem_append.1 h with h | h
       · exact .inr (List.mem_append_left _ h)
       · rw [List.mem_singleton.1 h];exact .inl (by simpa using haa)
theorem RS.init (g:Graph) (f:List Int):RS g f (List.replicate g.length false) (f.filter (inG g)):=by
 refine ⟨by simp,fun i h=>?_,fun x hx=>?_,fun x hx hi=>.inr (List.mem_filter.2 ⟨hx,hi⟩),fun i h=>?_⟩
 · rw [List.getElem?_replicate] at h;split at h <;> simp at h
 · obtain ⟨h1,h2⟩:=List.mem_filter.1 hx;exact .start h1 h2
 · rw [List.getElem?_replicate] at h;split at h <;> simp at h
def falses (out:List Bool):Nat:=(out.filter (fun b=>!b)).length
theorem falses_set {out:List Bool}{a:Nat}(h:out[a]?=some false):falses (out.set a true)+1=falses out:=by
 unfold falses
 induction out generalizing a with
 | nil=>simp at h
 | cons b out ih=>
  cases a with
  | zero=>simp at h;subst h;simp
  | succ a=>
   have:=ih (a:=a) (by simpa using h)
   cases b <;> simp_all <;> omega
theorem falses_le (out:List Bool):falses out≤out.length:=List.length_filter_le _ _
theorem filter_take {u:List Int}{i:Nat}{x:Int}{P:Int→Bool}(h:u[i]?=some x):(u.take (i+1)).filter P=(u.take i).filter P++(if P x=true then [x] else []):=by
 obtain ⟨hi,rfl⟩:=List.getElem?_eq_some_iff.1 h
 rw [List.take_succ_eq_append_getElem hi,List.filter_append,List.filter_cons,List.filter_nil]

theorem reach_any {B:Base}{w:World}(hS:St B [] w) (g:Graph) (A:Option Addr) (cp:Nat) (hC:kII.C B.e A g) (hsm:SmallG g) (from_:List Int) (A1:Option Addr) (cp1:Nat) (hC1:(Kd.int .i64).C B.e A1 from_) (hf:from_.length≤1000) (W0:World) :
 CW 170 #[.slice A g.length cp,.slice A1 from_.length cp1] w
  (Ret B (fun z:Option Addr×Nat×List Bool=>z.2.2.length=g.length∧∀ i:Nat,z.2.2[i]?=some true↔RP g from_ (i:Int)) (fun z=>.slice z.1 g.length z.2.1) (fun z=>[row Kd.bool W0 4 (.slice z.1 g.length z.2.1) z.2.2])):=by
 have hn:=hsm.1
 (refine enterM Tryz.func170 J J hS ?_;simp only [List.zipIdx_cons,List.zipIdx_nil,List.map_cons,List.map_nil,Nat.reduceAdd,Nat.zero_add])
 refine Zh (Zi (Zp J (Zn (Za (Zh (Zi (Zo J (Zv J J (oMake (kd:=Kd.bool) (W:=W0) false J J J J J J ZO J (fun g13=>?_))))))))))
 refine Zp J (Zn (Za (Zh (Zi (oAlloc J ZP (fun b6=>?_))))))
 refine Zn (Za (Zh (Zh (Zi (Zo J (Zv J J (Zo J (Zn (Za (Zk (wLoop (ι:=Nat×Option Addr×Nat) (fun z=>[(0,.slice A g.length cp),(5,.slice (some ⟨g13,0,none⟩) g.length g.length),(6,.pointer (some ⟨b6,0,none⟩)),(14,.slice A1 from_.length cp1),(15,.int .i64 (from_.length:Int)),(16,.int .i64 (z.1:Int))]) (fun z=>[row Kd.bool W0 4 (.slice (some ⟨g13,0,none⟩) g.length g.length) (List.replicate g.length false),blk b6 35 [.slice z.2.1 ((from_.take z.1).filter (inG g)).length z.2.2],row (Kd.int .i64) W0 3 (.slice z.2.1 ((from_.take z.1).filter (inG g)).length z.2.2) ((from_.take z.1).filter (inG g))]) (fun z=>z.1≤from_.length) (fun z=>from_.length-z.1) (0,none,0) ?_ cv (Leads.nilrow.trans Lh) ?_)))))))))))
 exact Nat.zero_le _
 rintro ⟨i,A2,c2⟩ hi
 dsimp only at hi
 have hle:((from_.take i).filter (inG g)).length≤1000:=Nat.le_trans (List.length_filter_le _ _) (by rw [List.length_take];omega)
 try dsimp only
 refine Zh (Zi (Zx J J (Zn (Za (Zh (wC (fun h17=>?_) (fun h17=>?_)))))))
 refine Zj (Za (Zh (Zk (Zh (Zi (oIdx J J (hC1) J ZO J J (fun e18 u18 cs18 hu18 hk18 hc18=>?_)))))))
 obtain rfl:=hk18
 have hft:=filter_take (P:=inG g) hu18
 refine Zlx hc18 ?_
 refine Zp J (Zn (Za (Zh (Zi (Zo J (Z2 J J (Zo J (ZS (ZT 22) (fun h22=>?_) (fun h22=>?_)))))))))
 refine Zq J J (Zo J (Zq J J (Zo J (Zq J J (Zv J J (Zq J J (Zx J J (Zt J J (Zn (Za (wC (fun h27=>?_) (fun h27=>?_))))))))))))
 refine Zi (Zld ?_)
 refine Zo J (oBuildSlice1 J J J J J ZP J (fun b30=>?_))
 refine oApp1 u18 J J J J ZP ZP J ZO J (fun g31 cp31=>?_)
 rw [if_pos (by simp [inG];omega)] at hft
 rw [show ((from_.take i).filter (inG g)).length+1=((from_.take (i+1)).filter (inG g)).length by rw [hft,List.length_append];rfl,← hft]
 refine Zst ?_
 refine Zn (Zzi ?_)
 refine Zo J (Zn (Za ?_))
 exact ⟨rfl,(i+1,some ⟨g31,0,none⟩,cp31),by show i+1≤_;omega,by show from_.length-(i+1)<from_.length-i;omega,cv,Lh⟩
 refine Zj (Zzi ?_)
 refine Zo J (Zn (Za ?_))
 rw [show (if inG g u18=true then [u18] else [])=[] by rw [if_neg];simp [inG];omega,List.append_nil] at hft
 exact ⟨rfl,(i+1,A2,c2),by show i+1≤_;omega,by show from_.length-(i+1)<from_.length-i;omega,cv,by dsimp only;rw [hft];exact Lh⟩
 refine Zr J J J J (Zr J J J J (Zr J J J J (Zr J J J J (Zu J J (Zn (Za (wCondF J (Zj (Zzi ?_)))))))))
 refine Zo J (Zn (Za ?_))
 rw [show (if inG g u18=true then [u18] else [])=[] by rw [if_neg];simp [inG];omega,List.append_nil] at hft
 exact ⟨rfl,(i+1,A2,c2),by show i+1≤_;omega,by show from_.length-(i+1)<from_.length-i;omega,cv,by dsimp only;rw [hft];exact Lh⟩
 obtain rfl:i=from_.length:=by omega
 rw [List.take_length]
 refine Zm (Zb (Zb (Ze (Za (Zh (Zk (wLoopM (ι:=List Bool×List Int×Option Addr×Nat) (fun z=>[(0,.slice A g.length cp),(5,.slice (some ⟨g13,0,none⟩) g.length g.length),(6,.pointer (some ⟨b6,0,none⟩))]) (fun z=>[row Kd.bool W0 4 (.slice (some ⟨g13,0,none⟩) g.length g.length) z.1,blk b6 35 [.slice z.2.2.1 z.2.1.length z.2.2.2],row (Kd.int .i64) W0 3 (.slice z.2.2.1 z.2.1.length z.2.2.2) z.2.1]) (fun z=>RS g from_ z.1 z.2.1∧z.2.1.length+falses z.1 * 1000≤2000000) (fun z=>falses z.1 * 1001+z.2.1.length) (List.replicate g.length false,from_.filter (inG g),A2,c2) ?_ cv [] J (marks_nil.trans Lh) ?_)))))))
 exact ⟨RS.init g from_,by have h1:falses (List.replicate g.length false)≤g.length:=Nat.le_trans (falses_le _) (by simp);have h2:(from_.filter (inG g)).length≤from_.length:=List.length_filter_le _ _;show (from_.filter (inG g)).length+falses (List.replicate g.length false) * 1000≤2000000;omega⟩
 rintro ⟨out,wait,A3,c3⟩ Ms ⟨hrs,hbd⟩
 dsimp only at hrs hbd
 have hol:=hrs.len
 try dsimp only
 refine Zh (Zh (Zi (Zld ?_)))
 refine Zv J J (Z1 J J (Zn (Za (wC (fun h35=>?_) (fun h35=>?_)))))
 refine Zj (Za (Zk (Zh (Zi (Zld ?_)))))
 refine Zld ?_
 refine Zv J J ?_
 first | refine oSub rfl rfl ZO ?_ | refine oSubW rfl rfl ?_
 refine ZS0 (t:=39) (v':=.int .i64 ((wait.length-1:Nat):Int)) J (by congr 1;omega) ?_
 refine ZR J J ZP ZO J J (fun g40 hg40=>?_)
 first | subst hg40 | (injection hg40 with hg40;injection hg40 with hg40;subst hg40)
 refine ZR1 J ZP ZO J (fun u41 hu41=>?_)
 have hW:(wait.take (wait.length-1)).length=wait.length-1:=by simp
 have hw:wait=wait.take (wait.length-1)++[u41]:=by
  have h1:wait.length-1<wait.length:=by omega
  have h2:=(List.getElem?_eq_some_iff.1 hu41).2
  rw [← h2,← List.take_succ_eq_append_getElem h1,show wait.length-1+1=wait.length by omega,List.take_length]
 have hin:=inG_iff.1 (hrs.waits u41 (by rw [hw];simp)).inG
 obtain ⟨a,rfl⟩:=Int.eq_ofNat_of_zero_le hin.1
 have ha:a<g.length:=by omega
 have hel:=ends_le hsm a
 have hrs':RS g from_ out (wait.take (wait.length-1)++[(a:Int)]):=by rw [← hw];exact hrs
 refine Zp J (Zn (Za (Zh (Zi (Zld ?_)))))
 refine Zld ?_
 refine Zv J J ?_
 first | refine oSub rfl rfl ZO ?_ | refine oSubW rfl rfl ?_
 refine ZS0 (t:=45) (v':=.int .i64 ((wait.length-1:Nat):Int)) J (by congr 1;omega) ?_
 refine oSliceTo J J ZO J ZP ?_
 refine Zst ?_
 refine Zn (Za (Zh (Zh (Zi (Zo J (Zo J (ZR J J ZP ZO J J (fun g49 hg49=>?_))))))))
 first | subst hg49 | (injection hg49 with hg49;injection hg49 with hg49;subst hg49)
 refine ZR1 J ZP ZO J (fun u50 hu50=>?_)
 refine Zn (Za (wC (fun h50=>?_) (fun h50=>?_)))
 refine Zm (Zb (Ze (Za ?_)))
 exact ⟨Ms,rfl,(out,wait.take (wait.length-1),some ⟨g40,0,none⟩,c3),⟨hrs'.skip (by rw [Int.toNat_natCast,hu50,h50]),by show (wait.take (wait.length-1)).length+falses out * 1000≤2000000;rw [hW];omega⟩,by show falses out * 1001+(wait.take (wait.length-1)).length<falses out * 1001+wait.length;rw [hW];omega,cv,by (try dsimp only);rw [hW];exact Lh⟩
 have hfs:=falses_set (out:=out) (a:=a) (by rw [hu50,h50])
 refine Zj (Za (Zh (Zi (Zo J (Zo J (ZR J J ZP ZO J J (fun g53 hg53=>?_)))))))
 first | subst hg53 | (injection hg53 with hg53;injection hg53 with hg53;subst hg53)
 refine oStR _ J J J J ZP (by first | omega | (simp only [List.length_set];omega)) ?_
 refine Zn (Zzv ?_)
 (refine ZC0 rfl ZK (fun w hS=>frame hS ZQ (fun B' hB hS'=>ends_any hS' A g.length cp (a:Int))) ?_;rintro ⟨p2,p3⟩ -)
 refine Zn (Za (Zk ?_))
 refine wRange rfl rfl ZK (ends1 g A cp a p2 p3 hC ha) (by rintro _ h;obtain ⟨y,_,rfl⟩:=List.mem_map.1 h;rfl) rfl (ι:=Nat×Option Addr×Nat) (κ:=Unit) (fun j z=>z.1=j) (fun z=>[marksR Ms,row Kd.bool W0 4 (.slice (some ⟨g13,0,none⟩) g.length g.length) (out.set a true),blk b6 35 [.slice z.2.1 (wait.length-1+z.1) z.2.2],row (Kd.int .i64) W0 3 (.slice z.2.1 (wait.length-1+z.1) z.2.2) (wait.take (wait.length-1)++(endsOf g a).take z.1)]) (fun x z=>False) (fun x z=>[]) (0,some ⟨g40,0,none⟩,c3) rfl (by dsimp only;rw [List.take_zero,List.append_nil,Nat.add_zero];exact Lh) ?_ ?_ ?_
 intro lp4 B' R1 R2 j hj
 rintro ⟨i,A2,c2⟩ hB rfl
 dsimp only
 have hj':i<(endsOf g a).length:=by simpa using hj
 have hlt:(wait.take (wait.length-1)++(endsOf g a).take i).length=wait.length-1+i:=by rw [List.length_append,hW,List.length_take];omega
 have htk:wait.take (wait.length-1)++(endsOf g a).take i++[(endsOf g a)[i]]=wait.take (wait.length-1)++(endsOf g a).take (i+1):=by rw [List.append_assoc,List.take_succ_eq_append_getElem hj']
 rw [List.getElem_map]
 generalize (endsOf g a)[i]=x at *
 dsimp only [hand,intV]
 refine Zi (Zp J (Zn (aq_n ZP ?_)))
 refine Zk (Zi (Zld ?_))
 refine Zo J (oBuildSlice1 J J J J J ZP J (fun b60=>?_))
 refine oApp1 x J J J J ZP ZP J ZO J (fun g61 cp61=>?_)
 rw [hlt,htk]
 refine Zst ?_
 refine Zn (Zd (rq_n ?_))
 exact ⟨(i+1,some ⟨g61,0,none⟩,cp61),rfl,Lh⟩
 rintro ⟨i,A2,c2⟩ Dm4 h
 dsimp only at h
 rw [List.length_map] at h
 subst h
 dsimp only
 rw [List.take_length]
 try dsimp only
 refine Zd (Zd (Za ?_))
 exact ⟨Dm4 :: Ms,rfl,(out.set a true,wait.take (wait.length-1)++endsOf g a,A2,c2),⟨hrs'.take ZO,by show (wait.take (wait.length-1)++endsOf g a).length+falses (out.set a true) * 1000≤2000000;rw [List.length_append,hW];omega⟩,by show falses (out.set a true) * 1001+(wait.take (wait.length-1)++endsOf g a).length<falses out * 1001+wait.length;rw [List.length_append,hW];omega,cv,by (try dsimp only);rw [List.length_append,hW];exact (marks_push ZP ZP).trans Lh⟩
 rintro _ _ _ h;exact h.elim
 refine Zm (Zb (Zb (Ze (Za (Zh (Zi (Zo J (Zp J (Zn (Za (Zl (finMb_r (Ds:=Ms) J ZP (ResL.cons (ResR.tmp J) ResL.nil) ?_))))))))))))
 have hw0:wait=[]:=List.eq_nil_of_length_eq_zero ZO
 subst hw0
 exact ⟨(some ⟨g13,0,none⟩,g.length,out),⟨hrs.len,fun i=>⟨hrs.sound i,fun h=>by simpa using hrs.done _ h⟩⟩,rfl,Lh⟩
end Go.Proofs.YtafiabekcekdbaaGreatG


/-
  The references' small ones: Few, Edge, Ints, In, Member.
-/
namespace Go.Proofs.YtafiabekcekdbaaGreatG
set_option maxRecDepth 100000
set_option maxHeartbeats 4000000
open Go.RowKit Go.Proofs.YtafiabekcekdbaaGreatK Go.Proofs.YtafiabekcekdbaaGreatT Go.Proofs.YtafiabekcekdbaaGreatL

theorem ints_any {B:Base}{w:World}(hS:St B [] w) (A:Option Addr) (cp:Nat) (l:List Int) (hC:(Kd.int .i64).C B.e A l) (A1:Option Addr) (cp1:Nat) (k:List Int) (hC1:(Kd.int .i64).C B.e A1 k) :
 CW 49 #[.slice A l.length cp,.slice A1 k.length cp1] w (Ret B (fun _:Unit=>True) (fun _=>.bool (decide (l=k))) (fun _=>[])):=by
 have m0:=hC.1
 have m1:=hC1.1
 refine ZX Tryz.func49 hS ?_
 refine Zh (Zi (Zp J (Zn (Za (Zh (Zh (Zi (Zo J (Zv J J (Zo J (Zv J J (Z0 J J (Zn (Za (wC (fun h10=>?_) (fun h10=>?_))))))))))))))))
 refine Zh (Zi (Zzc ?_))
 exact ⟨(),trivial,by rw [decide_eq_false (show ¬ l=k by rintro rfl;exact h10 rfl)];rfl,Lh⟩
 refine Zj (Za (Zh (Zh (Zi (Zp J (Zn (Za (Zk (wLoop (ι:=Nat) (fun i=>[(0,.slice A l.length cp),(1,.slice A1 k.length cp1),(5,.int .i64 (i:Int))]) (fun i=>[]) (fun i=>i≤l.length∧∀ j,j<i→l[j]?=k[j]?) (fun i=>l.length-i) 0 ?_ cv (Leads.has ZQ) ?_)))))))))
 exact ⟨Nat.zero_le _,fun j hj=>by omega⟩
 rintro i ⟨hi,hs⟩
 try dsimp only
 refine Zh (Zh (Zi (Zo J (Zo J (Zv J J (Zx J J (Zn (Za (wC (fun h14=>?_) (fun h14=>?_))))))))))
 refine Zj (Za (Zh (Zk (Zh (wDraw2 J J [0,1,4,5] [2,3,6,7] 8 ZK J J J (fun w0=>?_))))))
 refine oIdx J J (hC) J ZO J J (fun e19 u19 cs19 hu19 hk19 hc19=>?_)
 obtain rfl:=hk19
 refine Zlx hc19 ?_
 refine oIdx J J (hC1) J ZO J J (fun e23 u23 cs23 hu23 hk23 hc23=>?_)
 obtain rfl:=hk23
 refine Zlx hc23 ?_
 refine oHead (Z0 J J (oNilT (Za (wC (fun h25=>?_) (fun h25=>?_)))))
 refine Zh (Zi (Zzb ?_))
 exact ⟨(),trivial,by rw [decide_eq_false (show ¬ l=k by rintro rfl;rw [hu19] at hu23;exact h25 (Option.some.inj hu23))];rfl,Lh⟩
 refine Zj (Zze ?_)
 refine Zp J (Zn (Za ?_))
 exact ⟨rfl,i+1,⟨by omega,fun j hj=>by
 by_cases e:j=i
 · subst e;rw [hu19,hu23];congr 1;omega
 · exact hs j ZO⟩,by omega,cv,Lh⟩
 refine Zm (Zzg ?_)
 have hlk:l=k:=by
  apply List.ext_getElem?
  intro j
  rcases Nat.lt_or_ge j i with h | h
  · exact hs j h
  · rw [List.getElem?_eq_none ZO,List.getElem?_eq_none ZO]
 exact ⟨(),trivial,by rw [decide_eq_true hlk];rfl,Lh⟩
def memF (g:Graph) (ib:List Bool) (a:Int):Bool:=decide (0≤a) && decide (a<(g.length:Int)) && decide (a<(ib.length:Int)) && ib.getD a.toNat false
end Go.Proofs.YtafiabekcekdbaaGreatG


/-
  The reference's Reach.
-/
namespace Go.Proofs.YtafiabekcekdbaaGreatG
set_option maxRecDepth 100000
set_option maxHeartbeats 4000000
open Go.RowKit Go.Proofs.YtafiabekcekdbaaGreatK Go.Proofs.YtafiabekcekdbaaGreatT Go.Proofs.YtafiabekcekdbaaGreatL

def Tr (out:List Bool) (i:Nat):Prop:=out[i]?=some true
theorem Tr.set {out:List Bool}{i j:Nat}(h:Tr out i):Tr (out.set j true) i:=by
 unfold Tr at *
 rw [List.getElem?_set]
 split
 · rename_i e;subst e;have:=(List.getElem?_eq_some_iff.1 h).1;simp [this]
 · exact h
theorem Tr.self {out:List Bool}{j:Nat}(h:j<out.length):Tr (out.set j true) j:=by unfold Tr;simp [h]
theorem Tr.of_set {out:List Bool}{i j:Nat}(h:Tr (out.set j true) i):Tr out i∨i=j:=by
 unfold Tr at *
 rw [List.getElem?_set] at h
 split at h
 · rename_i e;exact .inr e.symm
 · exact .inl h
theorem Tr.set_same {out:List Bool}{j:Nat}(h:Tr out j):out.set j true=out:=by
 obtain ⟨hj,he⟩:=List.getElem?_eq_some_iff.1 h
 rw [← he];exact List.set_getElem_self hj
def Closed (g:Graph) (out:List Bool):Prop:=∀ a,Tr out a→∀ b ∈ endsOf g a,Tr out b.toNat
theorem falses_mono:∀ {old out:List Bool},old.length=out.length→(∀ i,Tr old i→Tr out i)→falses out≤falses old∧(∀ i,old[i]?=some false→Tr out i→falses out<falses old)
 | [],[],_,_=>⟨Nat.le_refl _,fun i h=>by simp at h⟩
 | a :: old,b :: out,hl,h=>by
  obtain ⟨h1,h2⟩:=falses_mono (old:=old) (out:=out) (by simpa using hl) (fun i hi=>by simpa [Tr] using h (i+1) (by simpa [Tr] using hi))
  have h0:=h 0
  simp only [Tr,List.getElem?_cons_zero,Option.some.injEq] at h0
  have e1:falses (a :: old)=falses old+(if a then 0 else 1):=by unfold falses;cases a <;> simp
  have e2:falses (b :: out)=falses out+(if b then 0 else 1):=by unfold falses;cases b <;> simp
  rw [e1,e2]
  refine ⟨?_,fun i hi ht=>?_⟩
  · cases a <;> cases b <;> simp_all <;> omega
  · cases i with
    | zero=>
     simp only [List.getElem?_cons_zero,Option.some.injEq,Tr] at hi ht
     subst hi ht
     simp;omega
    | succ i=>
     have:=h2 i (by simpa using hi) (by simpa [Tr] using ht)
     cases a <;> cases b <;> simp_all <;> omega
structure RI (g:Graph) (f:List Int) (out:List Bool):Prop where
  len:out.length=g.length
  sound:∀ i,Tr out i→RP g f (i:Int)
theorem RI.set {g:Graph}{f:List Int}{out:List Bool}{j:Nat}(h:RI g f out) (hj:RP g f (j:Int)):RI g f (out.set j true):=
 ⟨by rw [List.length_set];exact h.len,fun i hi=>by
  rcases hi.of_set with hi | rfl
  · exact h.sound i hi
  · exact hj⟩
def Starts (g:Graph) (f:List Int) (out:List Bool) (n:Nat):Prop:=∀ j x,j<n→f[j]?=some x→inG g x=true→Tr out x.toNat
theorem closed_of_none {g:Graph}{out:List Bool}(hl:out.length=g.length) (h:falses out=0):Closed g out:=by
 intro a _ b hb
 have hin:=inG_iff.1 (ends_in hb)
 unfold Tr
 rw [List.getElem?_eq_getElem (show b.toNat<out.length by omega)]
 congr 1
 unfold falses at h
 have:=List.filter_eq_nil_iff.1 (List.eq_nil_of_length_eq_zero h) _ (List.getElem_mem (show b.toNat<out.length by omega))
 simpa using this
theorem reach_iff {g:Graph}{f:List Int}{out:List Bool}(h:RI g f out) (hs:Starts g f out f.length) (hc:Closed g out):∀ i:Nat,Tr out i↔RP g f (i:Int):=by
 have key:∀ x,RP g f x→Tr out x.toNat:=by
  intro x hx
  induction hx with
  | start h1 h2=>
   obtain ⟨j,hj⟩:=List.mem_iff_getElem?.1 h1
   exact hs j _ (List.getElem?_eq_some_iff.1 hj).1 hj h2
  | step h1 h2 ih=>exact hc _ (by simpa using ih) _ h2
 exact fun i=>⟨h.sound i,fun hx=>by simpa using key _ hx⟩
structure Rd (g:Graph) (f:List Int) (old out:List Bool) (a:Nat):Prop where
  ri:RI g f out
  mono:∀ i,Tr old i→Tr out i
  done:∀ a',a'<a→Tr old a'→∀ b ∈ endsOf g a',Tr out b.toNat
  same:Closed g old→out=old
theorem Rd.set {g:Graph}{f:List Int}{old out:List Bool}{a:Nat}{x:Int}(h:Rd g f old out a) (ha:Tr out a) (hx:x ∈ endsOf g a):Rd g f old (out.set x.toNat true) a:=by
 have hin:=inG_iff.1 (ends_in hx)
 refine ⟨h.ri.set ?_,fun i hi=>(h.mono i hi).set,fun a' h1 h2 b hb=>(h.done a' h1 h2 b hb).set,fun hc=>?_⟩
 · rw [Int.toNat_of_nonneg hin.1];exact .step (h.ri.sound a ha) hx
 · have e:=h.same hc
   subst e
   exact Tr.set_same (hc a ha x hx)
theorem Rd.next {g:Graph}{f:List Int}{old out:List Bool}{a:Nat}(h:Rd g f old out a) (hd:¬ Tr out a∨∀ b ∈ endsOf g a,Tr out b.toNat):Rd g f old out (a+1):=by
 refine ⟨h.ri,h.mono,fun a' h1 h2 b hb=>?_,h.same⟩
 by_cases e:a'=a
 · subst e
   rcases hd with hd | hd
   · exact absurd (h.mono _ h2) hd
   · exact hd b hb
 · exact h.done a' ZO h2 b hb
theorem Rd.end {g:Graph}{f:List Int}{old out:List Bool}{n:Nat}(h:Rd g f old out g.length) (hl:old.length=g.length) (hr:Closed g old∨falses old+n≤g.length):Closed g out∨falses out+(n+1)≤g.length:=by
 by_cases hc:Closed g old
 · rw [h.same hc];exact .inl hc
 · right
   rcases hr with hr | hr
   · exact absurd hr hc
   · obtain ⟨a, ha, b, hb, hn⟩ : ∃ a, Tr old a ∧ ∃ b, b ∈ endsOf g a ∧ ¬ Tr old b.toNat := by
      apply Classical.byContradiction
      intro hne
      apply hc
      intro a ha b hb
      apply Classical.byContradiction
      intro hn
      exact hne ⟨a,ha,b,hb,hn⟩
     have hin:=inG_iff.1 (ends_in hb)
     have hal:a<g.length:=by rw [← hl];exact (List.getElem?_eq_some_iff.1 ha).1
     have hbl:b.toNat<old.length:=by omega
     have hbf:old[b.toNat]?=some false:=by
      unfold Tr at hn
      rw [List.getElem?_eq_getElem hbl] at hn ⊢
      cases hv:old[b.toNat] with
      | true=>rw [hv] at hn;exact absurd rfl hn
      | false=>rfl
     have:=(falses_mono (by rw [hl,h.ri.len]) h.mono).2 _ hbf (h.done a hal ha b hb)
     omega
theorem refReach {B:Base}{w:World}(hS:St B [] w) (g:Graph) (A:Option Addr) (cp:Nat) (hC:kII.C B.e A g) (hsm:SmallG g) (f:List Int) (A1:Option Addr) (cp1:Nat) (hC1:(Kd.int .i64).C B.e A1 f) (W0:World) :
 CW 154 #[.slice A g.length cp,.slice A1 f.length cp1] w
  (Ret B (fun z:Option Addr×Nat×List Bool=>z.2.2.length=g.length∧∀ i:Nat,z.2.2[i]?=some true↔RP g f (i:Int)) (fun z=>.slice z.1 g.length z.2.1) (fun z=>[row Kd.bool W0 4 (.slice z.1 g.length z.2.1) z.2.2])):=by
 have hn:=hsm.1
 have m1:=hC1.1
 refine ZX Tryz.func154 hS ?_
 refine Zh (Zi (Zp J (Zn (Za (Zh (Zi (Zo J (Zv J J (oMake (kd:=Kd.bool) (W:=W0) false J J J J J J ZO J (fun g12=>?_))))))))))
 refine Zp J (Zn (Za (Zh (Zh (Zi (Zp J (Zn (Za (Zk (wLoop (ι:=Nat×List Bool) (fun z=>[(0,.slice A g.length cp),(1,.slice A1 f.length cp1),(5,.slice (some ⟨g12,0,none⟩) g.length g.length),(6,.int .i64 (z.1:Int))]) (fun z=>[row Kd.bool W0 4 (.slice (some ⟨g12,0,none⟩) g.length g.length) z.2]) (fun z=>z.1≤f.length∧RI g f z.2∧Starts g f z.2 z.1) (fun z=>f.length-z.1) (0,List.replicate g.length false) ?_ cv (Leads.has ZQ) ?_))))))))))
 exact ⟨Nat.zero_le _,⟨by simp,fun i h=>by unfold Tr at h;rw [List.getElem?_replicate] at h;split at h <;> simp at h⟩,fun j x h=>by omega⟩
 rintro ⟨i,out⟩ ⟨hi,hri,hst⟩
 dsimp only at hi hri hst
 have hol:=hri.len
 try dsimp only
 refine Zh (Zh (Zi (Zo J (Zo J (Zv J J (Zx J J (Zn (Za (wC (fun h16=>?_) (fun h16=>?_))))))))))
 refine Zj (Za (Zh (Zk (Zh (Zi (Zo J (Zo J (oIdx J J (hC1) J ZO J J (fun e21 u21 cs21 hu21 hk21 hc21=>?_)))))))))
 obtain rfl:=hk21
 refine Zlx hc21 ?_
 refine Z2 J J (Zo J (ZS (ZT 24) (fun h24=>?_) (fun h24=>?_)))
 refine Zq J J (Zo J (Zq J J (Zo J (Zq J J (oIdx J J (hC1) J ZO J J (fun e27 u27 cs27 hu27 hk27 hc27=>?_))))))
 obtain rfl:=hk27
 obtain rfl:=Option.some.inj (hu21.symm.trans hu27)
 refine Zq J J (Zlx hc27 ?_)
 refine Zq J J (Zo J (Zq J J (Zv J J (Zq J J (Zx J J (Zt J J (Zn (Za (wC (fun h32=>?_) (fun h32=>?_))))))))))
 refine Zi (Zo J (Zo J (Zo J (oIdx J J (hC1) J ZO J J (fun e36 u36 cs36 hu36 hk36 hc36=>?_)))))
 obtain rfl:=hk36
 obtain rfl:=Option.some.inj (hu21.symm.trans hu36)
 refine Zlx hc36 ?_
 refine ZS0 (t:=37) (v':=.int .i64 ((u21.toNat:Nat):Int)) rfl (by rw [Int.toNat_of_nonneg h24]) ?_
 refine ZR J J ZP ZO J J (fun g38 hg38=>?_)
 first | subst hg38 | (injection hg38 with hg38;injection hg38 with hg38;subst hg38)
 refine oStR _ J J J J ZP (by first | omega | (simp only [List.length_set];omega)) ?_
 refine Zn (Zze ?_)
 refine Zp J (Zn (Za ?_))
 exact ⟨rfl,(i+1,out.set u21.toNat true),⟨by show i+1≤_;omega,hri.set (by rw [Int.toNat_of_nonneg h24];exact .start (List.mem_of_getElem? hu21) (by simp [inG];omega)),fun j x hj hx hin=>by
 by_cases e:j=i
 · subst e;obtain rfl:=Option.some.inj (hu21.symm.trans hx);exact Tr.self ZO
 · exact (hst j x ZO hx hin).set⟩,by show f.length-(i+1)<f.length-i;omega,cv,Lh⟩
 refine Zj (Zze ?_)
 refine Zp J (Zn (Za ?_))
 exact ⟨rfl,(i+1,out),⟨by show i+1≤_;omega,hri,fun j x hj hx hin=>by
 by_cases e:j=i
 · subst e;obtain rfl:=Option.some.inj (hu21.symm.trans hx);rw [inG_iff] at hin;omega
 · exact hst j x ZO hx hin⟩,by show f.length-(i+1)<f.length-i;omega,cv,Lh⟩
 refine Zr J J J J (Zr J J J J (Zr J J J J (Zr J J J J (Zr J J J J (Zr J J J J (Zr J J J J (Zu J J (Zn (Za (wCondF J (Zj (Zze ?_))))))))))))
 refine Zp J (Zn (Za ?_))
 exact ⟨rfl,(i+1,out),⟨by show i+1≤_;omega,hri,fun j x hj hx hin=>by
 by_cases e:j=i
 · subst e;obtain rfl:=Option.some.inj (hu21.symm.trans hx);rw [inG_iff] at hin;omega
 · exact hst j x ZO hx hin⟩,by show f.length-(i+1)<f.length-i;omega,cv,Lh⟩
 obtain rfl:i=f.length:=by omega
 refine Zm (Zb (Zb (Ze (Za (Zh (Zh (Zi (Zp J (Zn (Za (Zk (wLoop (ι:=Nat×List Bool) (fun z=>[(0,.slice A g.length cp),(5,.slice (some ⟨g12,0,none⟩) g.length g.length),(7,.int .i64 (z.1:Int))]) (fun z=>[row Kd.bool W0 4 (.slice (some ⟨g12,0,none⟩) g.length g.length) z.2]) (fun z=>z.1≤g.length∧RI g f z.2∧Starts g f z.2 f.length∧(Closed g z.2∨falses z.2+z.1≤g.length)) (fun z=>g.length-z.1) (0,out) ?_ cv (Leads.has ZQ) ?_))))))))))))
 exact ⟨Nat.zero_le _,hri,hst,.inr (by have:=falses_le out;show falses out+0≤_;omega)⟩
 rintro ⟨r,old⟩ ⟨hr,hri2,hst2,hcl⟩
 dsimp only at hr hri2 hst2 hcl
 try dsimp only
 refine Zh (Zh (Zi (Zo J (Zo J (Zv J J (Zx J J (Zn (Za (wC (fun h42=>?_) (fun h42=>?_))))))))))
 refine Zj (Za (Zh (Zk (Zh (Zi (Zp J (Zn (Za (Zk (wLoop (ι:=Nat×List Bool) (fun z=>[(0,.slice A g.length cp),(5,.slice (some ⟨g12,0,none⟩) g.length g.length),(7,.int .i64 (r:Int)),(8,.int .i64 (z.1:Int))]) (fun z=>[row Kd.bool W0 4 (.slice (some ⟨g12,0,none⟩) g.length g.length) z.2]) (fun z=>z.1≤g.length∧Rd g f old z.2 z.1) (fun z=>g.length-z.1) (0,old) ?_ cv (Leads.has ZQ) ?_))))))))))
 exact ⟨Nat.zero_le _,hri2,fun _ h=>h,fun a' h=>by omega,fun _=>rfl⟩
 rintro ⟨a,out4⟩ ⟨ha,hrd⟩
 dsimp only at ha hrd
 try dsimp only
 refine Zh (Zh (Zi (Zo J (Zo J (Zv J J (Zx J J (Zn (Za (wC (fun h48=>?_) (fun h48=>?_))))))))))
 refine Zj (Za (Zh (Zk (Zh (Zi (Zp J (Zn (Za (Zk (wLoop (ι:=Nat×List Bool) (fun z=>[(0,.slice A g.length cp),(5,.slice (some ⟨g12,0,none⟩) g.length g.length),(7,.int .i64 (r:Int)),(8,.int .i64 (a:Int)),(9,.int .i64 (z.1:Int))]) (fun z=>[row Kd.bool W0 4 (.slice (some ⟨g12,0,none⟩) g.length g.length) z.2]) (fun z=>z.1≤(g.getD a []).length∧Rd g f old z.2 a∧∀ j x,j<z.1→(g.getD a [])[j]?=some x→inG g x=true→Tr z.2 x.toNat) (fun z=>(g.getD a []).length-z.1) (0,out4) ?_ cv (Leads.has ZQ) ?_))))))))))
 exact ⟨Nat.zero_le _,hrd,fun j x h=>by omega⟩
 rintro ⟨i,out6⟩ ⟨hi6,hrd6,hds⟩
 dsimp only at hi6 hrd6 hds
 have hol:=hrd6.ri.len
 try dsimp only
 refine Zh (Zh (Zi (Zo J (Zo J (ZR J J ZP ZO J J (fun g53 hg53=>?_))))))
 first | subst hg53 | (injection hg53 with hg53;injection hg53 with hg53;subst hg53)
 refine ZR1 J ZP ZO J (fun u54 hu54=>?_)
 refine Zo J (ZS (ZT 55) (fun h55=>?_) (fun h55=>?_))
 refine Zq J J (Zo J (Zq J J (Zo J (Zq J J (Zo J (Zq J J (oIdx J J (hC) J ZO J J (fun e59 u59 cs59 hu59 hk59 hc59=>?_))))))))
 obtain ⟨A0,c0,rfl,hle59,g0⟩:=hk59
 have hbig:=g0.1
 refine Zq J J (Zlx hc59 ?_)
 refine Zq J J (Zv J J (Zq J J (Zx J J (Zt J J (Zn (Za (wC (fun h63=>?_) (fun h63=>?_))))))))
 refine Zj (Za (Zh (Zk (Zh (Zi (Zo J (Zo J (oIdx J J (hC) J ZO J J (fun e68 u68 cs68 hu68 hk68 hc68=>?_)))))))))
 obtain ⟨A0,c0,rfl,hle68,g0⟩:=hk68
 have hbig:=g0.1
 obtain rfl:=Option.some.inj (hu59.symm.trans hu68)
 refine Zlx hc68 ?_
 refine Zo J (oIdx J J (g0) J ZO J J (fun e71 u71 cs71 hu71 hk71 hc71=>?_))
 obtain rfl:=hk71
 refine Zlx hc71 ?_
 refine Z2 J J (Zo J (ZS (ZT 74) (fun h74=>?_) (fun h74=>?_)))
 refine Zq J J (Zo J (Zq J J (Zo J (Zq J J (oIdx J J (hC) J ZO J J (fun e77 u77 cs77 hu77 hk77 hc77=>?_))))))
 obtain ⟨A0,c0,rfl,hle77,g0⟩:=hk77
 have hbig:=g0.1
 obtain rfl:=Option.some.inj (hu59.symm.trans hu77)
 refine Zq J J (Zlx hc77 ?_)
 refine Zq J J (Zo J (Zq J J (oIdx J J (g0) J ZO J J (fun e80 u80 cs80 hu80 hk80 hc80=>?_))))
 obtain rfl:=hk80
 obtain rfl:=Option.some.inj (hu71.symm.trans hu80)
 refine Zq J J (Zlx hc80 ?_)
 refine Zq J J (Zo J (Zq J J (Zv J J (Zq J J (Zx J J (Zt J J (Zn (Za (wC (fun h85=>?_) (fun h85=>?_))))))))))
 refine Zi (Zo J (Zo J (Zo J (oIdx J J (hC) J ZO J J (fun e89 u89 cs89 hu89 hk89 hc89=>?_)))))
 obtain ⟨A0,c0,rfl,hle89,g0⟩:=hk89
 have hbig:=g0.1
 obtain rfl:=Option.some.inj (hu59.symm.trans hu89)
 refine Zlx hc89 ?_
 refine Zo J (oIdx J J (g0) J ZO J J (fun e92 u92 cs92 hu92 hk92 hc92=>?_))
 obtain rfl:=hk92
 obtain rfl:=Option.some.inj (hu71.symm.trans hu92)
 refine Zlx hc92 ?_
 refine ZS0 (t:=93) (v':=.int .i64 ((u71.toNat:Nat):Int)) rfl (by rw [Int.toNat_of_nonneg h74]) ?_
 refine ZR J J ZP ZO J J (fun g94 hg94=>?_)
 first | subst hg94 | (injection hg94 with hg94;injection hg94 with hg94;subst hg94)
 refine oStR _ J J J J ZP (by first | omega | (simp only [List.length_set];omega)) ?_
 refine Zn (Zze ?_)
 refine Zp J (Zn (Za ?_))
 have hmem:u71 ∈ endsOf g a:=by unfold endsOf;rw [getD_at hu59];exact List.mem_filter.2 ⟨List.mem_of_getElem? hu71,by simp [inG];omega⟩
 have hta:Tr out6 a:=by unfold Tr;rw [hu54,h55]
 exact ⟨rfl,(i+1,out6.set u71.toNat true),⟨by rw [getD_at hu59];show i+1≤_;omega,hrd6.set hta hmem,fun j x hj hx hin=>by
 rw [getD_at hu59] at hx
 by_cases e:j=i
 · subst e;obtain rfl:=Option.some.inj (hu71.symm.trans hx);exact Tr.self ZO
 · exact (hds j x ZO (by rw [getD_at hu59];exact hx) hin).set⟩,by rw [getD_at hu59];show u59.length-(i+1)<u59.length-i;omega,cv,Lh⟩
 refine Zj (Zze ?_)
 refine Zp J (Zn (Za ?_))
 exact ⟨rfl,(i+1,out6),⟨by rw [getD_at hu59];show i+1≤_;omega,hrd6,fun j x hj hx hin=>by
 rw [getD_at hu59] at hx
 by_cases e:j=i
 · subst e;obtain rfl:=Option.some.inj (hu71.symm.trans hx);rw [inG_iff] at hin;omega
 · exact hds j x ZO (by rw [getD_at hu59];exact hx) hin⟩,by rw [getD_at hu59];show u59.length-(i+1)<u59.length-i;omega,cv,Lh⟩
 refine Zr J J J J (Zr J J J J (Zr J J J J (Zr J J J J (Zr J J J J (Zr J J J J (Zr J J J J (Zr J J J J (Zr J J J J (Zr J J J J (Zu J J (Zn (Za (wCondF J (Zj (Zze ?_)))))))))))))))
 refine Zp J (Zn (Za ?_))
 exact ⟨rfl,(i+1,out6),⟨by rw [getD_at hu59];show i+1≤_;omega,hrd6,fun j x hj hx hin=>by
 rw [getD_at hu59] at hx
 by_cases e:j=i
 · subst e;obtain rfl:=Option.some.inj (hu71.symm.trans hx);rw [inG_iff] at hin;omega
 · exact hds j x ZO (by rw [getD_at hu59];exact hx) hin⟩,by rw [getD_at hu59];show u59.length-(i+1)<u59.length-i;omega,cv,Lh⟩
 refine Zm (Zb (Zb (Ze (Zze ?_))))
 refine Zp J (Zn (Za ?_))
 exact ⟨rfl,(a+1,out6),⟨by show a+1≤_;omega,hrd6.next (.inr fun b hb=>by
 have hb':=List.mem_filter.1 hb
 rw [getD_at hu59] at hb'
 obtain ⟨j,hj⟩:=List.mem_iff_getElem?.1 hb'.1
 exact hds j b (by have:=(List.getElem?_eq_some_iff.1 hj).1;omega) (by rw [getD_at hu59];exact hj) hb'.2)⟩,by show g.length-(a+1)<g.length-a;omega,cv,Lh⟩
 refine Zr J J J J (Zr J J J J (Zr J J J J (Zr J J J J (Zr J J J J (Zr J J J J (Zr J J J J (Zu J J (Zn (Za (wCondF J (Zm (Zb (Zb (Ze (Zze ?_)))))))))))))))
 refine Zp J (Zn (Za ?_))
 exact ⟨rfl,(a+1,out6),⟨by show a+1≤_;omega,hrd6.next (.inl fun h=>by have:=h.symm.trans hu54;simp_all)⟩,by show g.length-(a+1)<g.length-a;omega,cv,Lh⟩
 obtain rfl:a=g.length:=by omega
 refine Zm (Zb (Zb (Ze (Zze ?_))))
 refine Zp J (Zn (Za ?_))
 exact ⟨rfl,(r+1,out4),⟨by show r+1≤_;omega,hrd.ri,fun j x hj hx hin=>hrd.mono _ (hst2 j x hj hx hin),hrd.end hri2.len hcl⟩,by show g.length-(r+1)<g.length-r;omega,cv,Lh⟩
 obtain rfl:r=g.length:=by omega
 refine Zm (Zzr ?_)
 have hcl':Closed g old:=by
  rcases hcl with h | h
  · exact h
  · exact closed_of_none hri2.len ZO
 exact ⟨(some ⟨g12,0,none⟩,g.length,old),⟨hri2.len,reach_iff hri2 hst2 hcl'⟩,rfl,Lh⟩
end Go.Proofs.YtafiabekcekdbaaGreatG


/-
  Graphs within members: the reference's Within and On.
-/
namespace Go.Proofs.YtafiabekcekdbaaGreatG
set_option maxRecDepth 100000
set_option maxHeartbeats 4000000
open Go.RowKit Go.Proofs.YtafiabekcekdbaaGreatK Go.Proofs.YtafiabekcekdbaaGreatT Go.Proofs.YtafiabekcekdbaaGreatL

def inP (g:Graph) (ib:List Bool) (a:Nat) (x:Int):Bool:=memF g ib (a:Int) && memF g ib x
end Go.Proofs.YtafiabekcekdbaaGreatG


/-
  Package cycle: within.
-/
namespace Go.Proofs.YtafiabekcekdbaaGreatG
set_option maxRecDepth 100000
set_option maxHeartbeats 4000000
open Go.RowKit Go.Proofs.YtafiabekcekdbaaGreatK Go.Proofs.YtafiabekcekdbaaGreatT Go.Proofs.YtafiabekcekdbaaGreatL

def wp (g:Graph) (ib:List Bool) (a:Nat):List Int:=(cl g a).filter (inP g ib a)
end Go.Proofs.YtafiabekcekdbaaGreatG
namespace Go.Proofs.YtafiabekcekdbaaGreatW
set_option maxRecDepth 100000
set_option maxHeartbeats 4000000
open Go.RowKit Go.Proofs.YtafiabekcekdbaaGreatK Go.Proofs.YtafiabekcekdbaaGreatT Go.Proofs.YtafiabekcekdbaaGreatL Go.Proofs.YtafiabekcekdbaaGreatV Go.Proofs.YtafiabekcekdbaaGreatG

def fromL (code:List ApiInstr) (marks:List Nat):List Int:=(marks.map fun k=>rnext (code.getD k default) k).flatten
def dfrN (code:List ApiInstr):List Nat:=(List.range code.length).filter (dP code)
theorem dfr_N (code:List ApiInstr):dfr code code.length=(dfrN code).map fun k=>((k:Nat):Int):=rfl
theorem dfrN_lt {code:List ApiInstr}{k:Nat}(h:k ∈ dfrN code):k<code.length:=List.mem_range.1 (List.mem_filter.1 h).1
theorem rnext_len (x:ApiInstr) (k:Nat):(rnext x k).length≤2:=by
 unfold rnext
 repeat' split
 all_goals simp
theorem fromL_len (code:List ApiInstr):∀ marks:List Nat,(fromL code marks).length≤2 * marks.length
 | []=>by simp [fromL]
 | k :: marks=>by
  have h:=fromL_len code marks
  have h2:=rnext_len (code.getD k default) k
  unfold fromL at *
  rw [List.map_cons,List.flatten_cons,List.length_append,List.length_cons]
  omega
theorem fromL_snoc (code:List ApiInstr) (marks:List Nat) (k:Nat):fromL code (marks++[k])=fromL code marks++rnext (code.getD k default) k:=by
 unfold fromL;simp
theorem rg_small {code:List ApiInstr}(h:code.length≤1000):SmallG (rg code):=by
 refine ⟨by rw [rg_len];exact h,fun l hl=>?_⟩
 unfold rg at hl
 obtain ⟨k,_,rfl⟩:=List.mem_map.1 hl
 exact Nat.le_trans (rnext_len _ _) (by decide)
theorem ref14_After {B:Base}{w:World}(hS:St B [] w) (A:Option Addr) (cp:Nat) (code:List ApiInstr) (hC:kApiInstr.C B.e A code) (hl:code.length≤1000) (A1:Option Addr) (cp1:Nat) (ks:List Nat) (hC1:(Kd.int .i64).C B.e A1 (ks.map fun k=>((k:Nat):Int))) (hk:∀ k ∈ ks,k<code.length) (hn:ks.length≤1000) (W0:World) :
 CW 109 #[.slice A code.length cp,.slice A1 ks.length cp1] w
  (Ret B (fun z:Option Addr×Nat×List Bool=>z.2.2.length=code.length∧∀ i:Nat,z.2.2[i]?=some true↔RP (rg code) (fromL code ks) (i:Int)) (fun z=>.slice z.1 code.length z.2.1) (fun z=>[row Kd.bool W0 4 (.slice z.1 code.length z.2.1) z.2.2])):=by
 refine ZX Tryz.func109 hS ?_
 refine Zh (Zi (Zp J (Zn (Za (Zh (Zi (Zp J (Zn (Za (Zh (Zh (Zi (Zp J (Zn (Za (Zk (wLoop (ι:=Nat×Option Addr×Nat) (fun z=>[(0,.slice A code.length cp),(1,.slice A1 ks.length cp1),(5,.slice z.2.1 (fromL code (ks.take z.1)).length z.2.2),(6,.int .i64 (z.1:Int))]) (fun z=>[row (Kd.int .i64) W0 3 (.slice z.2.1 (fromL code (ks.take z.1)).length z.2.2) (fromL code (ks.take z.1))]) (fun z=>z.1≤ks.length) (fun z=>ks.length-z.1) (0,none,0) ?_ cv (Leads.nilrow.trans Lh) ?_)))))))))))))))))
 exact Nat.zero_le _
 rintro ⟨i,A2,c2⟩ hi
 dsimp only at hi
 have hle:=fromL_len code (ks.take i)
 rw [List.length_take] at hle
 try dsimp only
 refine Zh (Zh (Zi (Zo J (Zo J (Zv J J (Zx J J (Zn (Za (wC (fun h10=>?_) (fun h10=>?_))))))))))
 obtain ⟨k,hki⟩:∃ k,ks[i]?=some k:=⟨_,List.getElem?_eq_getElem ZO⟩
 have hkl:=hk k (List.mem_of_getElem? hki)
 obtain ⟨x,hx⟩:∃ x,code[k]?=some x:=⟨_,List.getElem?_eq_getElem hkl⟩
 obtain ⟨e1,cs1,hE⟩:=hC1.elm (i:=i) (u:=(k:Int)) (by rw [List.getElem?_map,hki];rfl)
 obtain rfl:=(show cs1=[Value.int .i64 (k:Int)] from hE.K)
 have hft:fromL code (ks.take (i+1))=fromL code (ks.take i)++rnext x k:=by rw [List.take_add_one,hki];show fromL code (ks.take i++[k])=_;rw [fromL_snoc,List.getD_eq_getElem?_getD,hx];rfl
 have hrl:=rnext_len x k
 refine Zj (Za (Zh (Zk (Zi (Zo J (Zo J (Zo J (Zo J (oIdxE J J (hE) ZO J J ?_)))))))))
 have hc17:=(hE).cell
 refine Zlx hc17 ?_
 (refine ZC0 rfl ZK (fun w hS=>frame hS ZQ (fun B' hB hS'=>ref14_Next hS' A cp code (Kd.C_grow hB hC) k x hx W0)) ?_;rintro ⟨A19,c19⟩ -)
 refine oAppA (kd:=Kd.int .i64) (W:=W0) (xs:=fromL code (ks.take i)) (ys:=rnext x k) J J J J ZP J (fun w hw=>src_row (e:=3) (n:=(rnext x k).length) (cp:=c19) (hw.get ZP)) ZO J (fun A20 c20 hc20=>?_)
 rw [← hft,show (fromL code (ks.take i)).length+(rnext x k).length=(fromL code (ks.take (i+1))).length by rw [hft,List.length_append]]
 refine Zp J (Zn (Zze ?_))
 refine Zp J (Zn (Za ?_))
 exact ⟨rfl,(i+1,A20,c20),by show i+1≤_;omega,by show ks.length-(i+1)<ks.length-i;omega,cv,Lh⟩
 obtain rfl:i=ks.length:=by omega
 rw [List.take_length] at *
 refine Zm (Zb (Zb (Ze (Zzm ?_))))
 (refine ZC0 rfl ZK (fun w hS=>frame hS ZQ (fun B' hB hS'=>ref14_Graph hS' A cp code (Kd.C_grow hB hC) ZO B.e)) ?_;rintro ⟨A22,c22,hs22⟩ hl22)
 refine ZS0 (t:=22) (v':=.slice A22 (rg code).length c22) rfl (by rw [rg_len]) ?_
 refine Zo J ?_
 (refine ZD J (fun w B' hB hR hS'=>refReach hS' (rg code) A22 c22 (grid_C (hR _ _ ZP) (hR _ _ ZP) (by rw [rg_len];exact hl22) hB) (rg_small hl) (fromL code ks) A2 c2 (row_Cs (W:=W0) (e:=3) (n:=(fromL code ks).length) (cp:=c2) (hR _ _ ZP)) W0) ?_;rintro ⟨A24,c24,l24⟩ ⟨h24a,h24b⟩)
 dsimp only at h24a h24b ⊢
 rw [rg_len] at h24a ⊢
 refine Zp J (Zzk ?_)
 exact ⟨(A24,c24,l24),⟨h24a,h24b⟩,rfl,Lh⟩
def inR (f:ApiFunc) (i:Int):Bool:=decide (f.fFrom≤i) && decide (i<f.fTo)
theorem ref18_In {B:Base}{w:World}(hS:St B [] w) (f:ApiFunc) (fc:List Value) (hf:kApiFunc.K B.e f fc) (i:Int) :
 CW 111 #[.agg fc.toArray,.int .i64 i] w (Ret B (fun _:Unit=>True) (fun _=>.bool (inR f i)) (fun _=>[])):=by
 obtain ⟨A0,c0,A1,c1,A2,c2,A3,c3,rfl,l0,g0,l1,g1,l2,g2,l3,g3⟩:=kApiFunc_open hf
 refine ZX Tryz.func111 hS ?_
 refine Zh (Zi (oBox J ZP (fun b2=>?_)))
 refine Zp J (Zn (Za (Zh (Zi (Zo J (Zz (n:=4) (m:=4) J J J (Zld ?_)))))))
 refine Z2 J J (Zo J (ZS (ZT 9) (fun h9=>?_) (fun h9=>?_)))
 refine Zq J J (Zo J (Zq J J (Zz (n:=5) (m:=5) J J J (Zzf ?_))))
 refine Zq J J (Zx J J (Zt J J (Zza ?_)))
 exact ⟨(),trivial,by simp_all [resVal,inR] <;> omega,Lh⟩
 refine Zr J J J J (Zr J J J J (Zzp ?_))
 exact ⟨(),trivial,by simp_all [resVal,inR] <;> omega,Lh⟩
def outR (f:ApiFunc):Prop:=∃ i:Nat,i<f.fCode.length∧RP (rg f.fCode) (fromL f.fCode (dfrN f.fCode)) (i:Int)∧inR f (i:Int)=false
open Classical in
noncomputable def rangeF (f:ApiFunc):Int:=if outR f then 9 else 0
theorem ref18_Check {B:Base}{w:World}(hS:St B [] w) (f:ApiFunc) (fc:List Value) (hf:kApiFunc.K B.e f fc) (hl:f.fCode.length≤1000) :
 CW 75 #[.agg fc.toArray] w (Ret B (fun _:Unit=>True) (fun _=>.int .i64 (rangeF f)) (fun _=>[])):=by
 obtain ⟨A0,c0,A1,c1,A2,c2,A3,c3,rfl,l0,g0,l1,g1,l2,g2,l3,g3⟩:=kApiFunc_open hf
 have hdl:(dfrN f.fCode).length≤1000:=Nat.le_trans (List.length_filter_le _ _) (by simpa using hl)
 refine ZX Tryz.func75 hS ?_
 refine Zh (Zi (oBox J ZP (fun b1=>?_)))
 refine Zp J (Zn (Za (Zh (wDrawG J [0,1,2,3] [(4,[0,1],[]),(5,[],[])] [6] 24 ZK J J (fun w0=>?_)))))
 refine Zz (n:=7) (m:=7) J J J (Zld ?_)
 refine Zz (n:=7) (m:=7) J J J (Zld ?_)
 refine Z4 (Z5 J ?_)
 (refine ZC0 rfl ZK (fun w hS=>frame hS ZQ (fun B' hB hS'=>ref18_Marks hS' A2 c2 f.fCode (Kd.C_grow hB g2) ZO B.e)) ?_;rintro ⟨A9,c9⟩ -)
 refine ZS0 (t:=9) (v':=.slice A9 (dfrN f.fCode).length c9) rfl (by rw [dfr_N,List.length_map]) ?_
 refine ZG ?_ J (fun w0=>?_)
 refine Z8 J J J J (fun w0=>?_) ?_
 refine Zz (n:=7) (m:=7) J J J ?_
 exact Z9 rfl
 refine Z8 J J J J (fun w0=>?_) ?_
 refine Zld ?_
 exact Z9 rfl
 exact AgainG.nil
 refine Z4 (Z5 J ?_)
 (refine ZD J (fun w B' hB hR hS'=>ref14_After hS' A2 c2 f.fCode (Kd.C_grow hB g2) hl A9 c9 (dfrN f.fCode) (row_Cs (W:=B.e) (e:=3) (n:=(dfr f.fCode f.fCode.length).length) (cp:=c9) (hR _ _ ZP)) (fun k hk=>dfrN_lt hk) hdl B.e) ?_;rintro ⟨A10,c10,l10⟩ ⟨h10a,h10b⟩)
 dsimp only at h10a h10b
 refine ZG ?_ J (fun w0=>?_)
 exact AgainG.nil
 refine Z6 (Zp J (Zn (Za (Zh (Zh (Zi (Zp J (Zn (Za (Zk (wLoop (ι:=Nat) (fun i=>[(1,.pointer (some ⟨b1,0,none⟩)),(3,.slice A10 f.fCode.length c10),(4,.int .i64 (i:Int))]) (fun i=>[blk b1 57 [.int .i64 f.fClass,.slice A0 f.fKinds.length c0,.int .i64 f.fPad,.bool f.fNosplit,.int .i64 f.fFrom,.int .i64 f.fTo,.slice A1 f.fLines.length c1,.slice A2 f.fCode.length c2,.slice A3 f.fRelocs.length c3],row Kd.bool B.e 4 (.slice A10 f.fCode.length c10) l10]) (fun i=>i≤f.fCode.length∧∀ j:Nat,j<i→RP (rg f.fCode) (fromL f.fCode (dfrN f.fCode)) (j:Int)→inR f (j:Int)=true) (fun i=>f.fCode.length-i) 0 ?_ cv (Leads.has ZQ) ?_)))))))))))
 exact ⟨Nat.zero_le _,fun j hj=>by omega⟩
 rintro i ⟨hi,hs⟩
 try dsimp only
 refine Zh (Zh (Zi (Zo J (Zo J (Zv J J (Zx J J (Zn (Za (wC (fun h14=>?_) (fun h14=>?_))))))))))
 refine Zj (Za (Zh (Zk (Zh (Zi (Zo J (Zo J (ZR J J ZP ZO J J (fun g19 hg19=>?_)))))))))
 first | subst hg19 | (injection hg19 with hg19;injection hg19 with hg19;subst hg19)
 refine ZR1 J ZP ZO J (fun u20 hu20=>?_)
 refine Zo J (ZS (ZT 21) (fun h21=>?_) (fun h21=>?_))
 refine Zq J J (Zla ?_)
 refine Zq J J (Zo J (Zq J J ?_))
 (refine ZC0 rfl ZK (fun w hS=>frame hS ZQ (fun B' hB hS'=>ref18_In hS' f _ (kApiFunc.K_grow hB hf) (i:Int))) ?_;rintro ⟨⟩ -)
 refine Zq J J (Zno ?_)
 refine Zt J J (Zn (Za (wC (fun h26=>?_) (fun h26=>?_))))
 refine Zh (Zi (Zzb ?_))
 have ho:outR f:=⟨i,by omega,(h10b i).1 (by rw [hu20];simp_all),by simp_all⟩
 exact ⟨(),trivial,by unfold rangeF;rw [if_pos ho];rfl,Lh⟩
 refine Zj (Zze ?_)
 refine Zp J (Zn (Za ?_))
 exact ⟨rfl,i+1,⟨by omega,fun j hj hr=>by
 by_cases e:j=i
 · subst e;simp_all
 · exact hs j ZO hr⟩,by omega,cv,Lh⟩
 refine Zr J J J J (Zr J J J J (Zr J J J J (Zr J J J J (Zu J J (Zn (Za (wCondF J (Zj (Zze ?_)))))))))
 refine Zp J (Zn (Za ?_))
 exact ⟨rfl,i+1,⟨by omega,fun j hj hr=>by
 by_cases e:j=i
 · subst e;have:=(h10b j).2 hr;rw [hu20] at this;simp_all
 · exact hs j ZO hr⟩,by omega,cv,Lh⟩
 refine Zm (Zzg ?_)
 have ho:¬ outR f:=fun ⟨j,hj,hr,hb⟩=>by rw [hs j ZO hr] at hb;cases hb
 exact ⟨(),trivial,by unfold rangeF;rw [if_neg ho];rfl,Lh⟩
def dRelE (d:ApiData) (l:List ApiSymbol) (i:Nat) (x:ApiReloc):Int:=
  if d.fKind=0∨x.fAt<0∨(d.fWords.length:Int)≤x.fAt∨(0<i∧x.fAt≤(d.fRelocs.getD (i-1) default).fAt)∨x.fSym<0∨(l.length:Int)≤x.fSym then 11 else
  if (l.getD x.fSym.toNat default).fSort≠1∨(l.getD x.fSym.toNat default).fKind≠d.fKind-1 then 8 else 0
def relE (d:ApiData) (l:List ApiSymbol) (i:Nat):Int:=dRelE d l i (d.fRelocs.getD i default)
def dataF (d:ApiData) (l:List ApiSymbol):Int:=
  if textF d.fKind=ByteArray.empty then 8 else if 32<d.fWords.length then 6 else
  if d.fWords.any (fun w=>decide (d.fKind≠0∧w≠0)) then 2 else fstE ((List.range d.fRelocs.length).map (relE d l))
theorem relE_at {d:ApiData}{l:List ApiSymbol}{i:Nat}{x:ApiReloc}(h:d.fRelocs[i]?=some x):relE d l i=dRelE d l i x:=by
 unfold relE;rw [List.getD_eq_getElem?_getD,h];rfl
theorem any_not {α:Type}{p:α→Bool}{l:List α}(h:∀ y ∈ l,p y=false):l.any p=false:=List.any_eq_false.2 (fun y hy=>by rw [h y hy];simp)
theorem any_hit {α:Type}{p:α→Bool}{l:List α}{i:Nat}{x:α}(hi:l[i]?=some x) (h:p x=true):l.any p=true:=List.any_eq_true.2 ⟨x,List.mem_of_getElem? hi,h⟩
abbrev dWordP (d:ApiData) (w:Int):Bool:=decide (d.fKind≠0∧w≠0)
theorem ref15_Check {B:Base}{w:World}(hS:St B [] w) (d:ApiData) (dc:List Value) (hd:kApiData.K B.e d dc) (hk:in64 d.fKind) (hl2:d.fRelocs.length≤100000) (Al:Option Addr) (cl:Nat) (l:List ApiSymbol) (hC:kApiSymbol.C B.e Al l) :
 CW 73 #[.agg dc.toArray,.slice Al l.length cl] w (Ret B (fun _:Unit=>True) (fun _=>.int .i64 (dataF d l)) (fun _=>[])):=by
 obtain ⟨A0,c0,A1,c1,rfl,l0,g0,l1,g1⟩:=kApiData_open hd
 have hw1:=g0.1
 refine ZX Tryz.func73 hS ?_
 refine Zh (Zi (oBox J ZP (fun b2=>?_)))
 refine Zp J (Zn (Za (Zh (Zh (Zi (Zz (n:=0) (m:=0) J J J (Zld ?_)))))))
 (refine ZC0 rfl ZK (fun w hS=>frame hS ZQ (fun B' hB hS'=>ref5_Text hS' d.fKind hk)) ?_;rintro ⟨⟩ -)
 refine oSEq J J (Zn (Za (wC (fun h11=>?_) (fun h11=>?_))))
 have h11:textF d.fKind=ByteArray.empty:=h11
 refine Zh (Zi (Zzc ?_))
 exact ⟨(),trivial,by unfold dataF;rw [if_pos h11];rfl,Lh⟩
 have h11:¬ textF d.fKind=ByteArray.empty:=h11
 have hk0:0≤d.fKind:=(Classical.not_not.1 (fun h=>h11 (textF_no.2 h))).1
 refine Zj (Za (Zh (Zh (Zi (Zz (n:=1) (m:=1) J J J (Zld ?_))))))
 refine Zv J J (Z1 J J (Zn (Za (wC (fun h15=>?_) (fun h15=>?_)))))
 refine Zh (Zi (Zzc ?_))
 exact ⟨(),trivial,by unfold dataF;rw [if_neg h11,if_pos ZO];rfl,Lh⟩
 have hn32:¬ 32<d.fWords.length:=by omega
 refine Zj (Za (Zh (Zh (Zi (Zp J (Zn (Za (Zk (wLoop (ι:=Nat) (fun i=>[(1,.slice Al l.length cl),(2,.pointer (some ⟨b2,0,none⟩)),(5,.int .i64 (i:Int))]) (fun i=>[blk b2 62 [.int .i64 d.fKind,.slice A0 d.fWords.length c0,.slice A1 d.fRelocs.length c1]]) (fun i=>i≤d.fWords.length∧∀ y ∈ d.fWords.take i,dWordP d y=false) (fun i=>d.fWords.length-i) 0 ?_ cv (Leads.has ZQ) ?_)))))))))
 exact ⟨Nat.zero_le _,by simp⟩
 rintro i ⟨hi,hs⟩
 try dsimp only
 refine Zh (Zh (Zi (Zo J (Zz (n:=1) (m:=1) J J J (Zld ?_)))))
 refine Zv J J (Zx J J (Zn (Za (wC (fun h20=>?_) (fun h20=>?_)))))
 obtain ⟨x,hx⟩:∃ x,d.fWords[i]?=some x:=⟨_,List.getElem?_eq_getElem ZO⟩
 obtain ⟨e1,cs1,hE⟩:=g0.elm hx
 obtain rfl:=(show cs1=[Value.int .i64 x] from hE.K)
 refine Zj (Za (Zh (Zk (Zh (Zi (Zz (n:=0) (m:=0) J J J (Zld ?_)))))))
 refine Z0 J J (Zo J (ZS (ZT 26) (fun h26=>?_) (fun h26=>?_)))
 refine Zq J J (Zz (n:=1) (m:=1) J J J (Zzf ?_))
 refine Zq J J (Zo J (Zq J J (oIdxE J J (hE) ZO J J ?_)))
 have hc30:=(hE).cell
 refine Zq J J (Zlx hc30 ?_)
 refine Zq J J (Z0 J J (Zt J J (Zn (Za (wC (fun h33=>?_) (fun h33=>?_))))))
 refine Zh (Zi (Zzb ?_))
 exact ⟨(),trivial,by unfold dataF;rw [if_neg h11,if_neg hn32,if_pos (any_hit hx (decide_eq_true (by simp_all)))];rfl,Lh⟩
 refine Zj (Zze ?_)
 refine Zp J (Zn (Za ?_))
 exact ⟨rfl,i+1,⟨by omega,take_not hs hx (decide_eq_false (by simp_all))⟩,by omega,cv,Lh⟩
 refine Zr J J J J (Zr J J J J (Zr J J J J (Zr J J J J (Zr J J J J (Zr J J J J (Zu J J (Zn (Za (wCondF J (Zj (Zze ?_)))))))))))
 refine Zp J (Zn (Za ?_))
 exact ⟨rfl,i+1,⟨by omega,take_not hs hx (decide_eq_false (by simp_all))⟩,by omega,cv,Lh⟩
 obtain rfl:i=d.fWords.length:=by omega
 rw [List.take_length] at hs
 have hdF:dataF d l=fstE ((List.range d.fRelocs.length).map (relE d l)):=by unfold dataF;rw [if_neg h11,if_neg hn32,any_not hs];rfl
 refine Zm (Zb (Zb (Ze (Za (Zh (Zh (Zi (Zp J (Zn (Za (Zk (wLoop (ι:=Nat) (fun i=>[(1,.slice Al l.length cl),(2,.pointer (some ⟨b2,0,none⟩)),(6,.int .i64 (i:Int))]) (fun i=>[blk b2 62 [.int .i64 d.fKind,.slice A0 d.fWords.length c0,.slice A1 d.fRelocs.length c1]]) (fun i=>i≤d.fRelocs.length∧fstE (((List.range d.fRelocs.length).map (relE d l)).take i)=0) (fun i=>d.fRelocs.length-i) 0 ?_ cv (Leads.has ZQ) ?_))))))))))))
 exact ⟨Nat.zero_le _,rfl⟩
 rintro i ⟨hi,hs⟩
 try dsimp only
 refine Zh (Zh (Zi (Zo J (Zz (n:=2) (m:=2) J J J (Zld ?_)))))
 refine Zv J J (Zx J J (Zn (Za (wC (fun h38=>?_) (fun h38=>?_)))))
 obtain ⟨x,hx⟩:∃ x,d.fRelocs[i]?=some x:=⟨_,List.getElem?_eq_getElem ZO⟩
 obtain ⟨e1,cs1,hE⟩:=g1.elm hx
 obtain rfl:=kApiReloc_open hE.K
 have hre:((List.range d.fRelocs.length).map (relE d l))[i]?=some (relE d l i):=rmap_at ZO
 have hrx:=relE_at (l:=l) hx
 refine Zj (Za (Zh (Zk (Zh (Zi (Zz (n:=2) (m:=2) J J J (Zld ?_)))))))
 refine Zo J (oIdxE J J (hE) ZO J J ?_)
 have hc44:=(hE).cell
 refine Zlx hc44 ?_
 refine oAlloc J ZP (fun b7=>?_)
 refine Zsa ?_
 refine Zn (Za (Zh (Zh (wDraw2 J J [] [0,1,2,3,4,5,6,7,8,9,10,11,12,13,14,15,16,17,18,19,20,21,22,23,24,25,26,27,28,29,30,31,32,33,34,35,36,37,38,39,40,41,42] 43 ZK J J J (fun w0=>?_)))))
 refine Zz (n:=0) (m:=0) J J J (Zld ?_)
 refine Zy J J (Zo J (ZS (ZT 49) (fun h49=>?_) (fun h49=>?_)))
 refine Zr J J J J (Zzw ?_)
 refine Zr J J J J (Zr J J J J (Zt J J (Zo J (Zr J J J J (Zr J J J J (Zr J J J J (Zr J J J J (Zr J J J J (oHead (Zt J J (oNilT (Za (wCondT J (Zh (Zi (Zzj ?_))))))))))))))))
 exact ⟨(),trivial,by rw [hdF,fstE_stop hs hre (by rw [hrx];unfold dRelE;rw [if_pos (by first | omega | (rw [hy'];omega))];decide),hrx];unfold dRelE;rw [if_pos (by first | omega | (rw [hy'];omega))];rfl,Lh⟩
 refine Zq J J (Zz (n:=0) (m:=0) J J J (Zzf ?_))
 refine Zq J J (Zx J J (Zu J J (Zo J (ZS (ZT 54) (fun h54=>?_) (fun h54=>?_)))))
 refine Zr J J J J (Zzl ?_)
 refine Zr J J J J (Zr J J J J (Zr J J J J (Zr J J J J (oHead (Zt J J (oNilT (Za (wCondT J (Zh (Zi (Zzj ?_)))))))))))
 exact ⟨(),trivial,by rw [hdF,fstE_stop hs hre (by rw [hrx];unfold dRelE;rw [if_pos (by first | omega | (rw [hy'];omega))];decide),hrx];unfold dRelE;rw [if_pos (by first | omega | (rw [hy'];omega))];rfl,Lh⟩
 refine Zq J J (Zz (n:=0) (m:=0) J J J (Zzf ?_))
 refine Zq J J (Zz (n:=1) (m:=1) J J J (Zzf ?_))
 refine Zq J J (Zv J J (Zq J J (Z2 J J (Zu J J (Zo J (ZS (ZT 62) (fun h62=>?_) (fun h62=>?_)))))))
 refine Zr J J J J (Zr J J J J (Zr J J J J (Zs J J J (Zs J J J (Zs J J J (Zs J J J (Zs J J J (Zs J J J (Zs J J J (Zs J J J (Zs J J J (Zs J J J (Zr J J J J (Zt J J (Zo J (Zr J J J J (Zr J J J J (Zr J J J J (Zt J J (Zo J (Zr J J J J (Zr J J J J (Zr J J J J (Zr J J J J (Zr J J J J (oHead (Zt J J (oNilT (Za ?_)))))))))))))))))))))))))))))
 refine wCondT J (Zh (Zi (Zzj ?_)))
 exact ⟨(),trivial,by rw [hdF,fstE_stop hs hre (by rw [hrx];unfold dRelE;rw [if_pos (by first | omega | (rw [hy'];omega))];decide),hrx];unfold dRelE;rw [if_pos (by first | omega | (rw [hy'];omega))];rfl,Lh⟩
 refine Zq J J (Zo J (Zq J J (Z1 J J (Zq J J (Zo J (ZS (ZT 65) (fun h65=>?_) (fun h65=>?_)))))))
 obtain ⟨y,hy⟩:∃ y,d.fRelocs[i-1]?=some y:=⟨_,List.getElem?_eq_getElem ZO⟩
 obtain ⟨e3,cs3,hE3⟩:=g1.elm hy
 obtain rfl:=kApiReloc_open hE3.K
 have hy':(d.fRelocs.getD (i-1) default)=y:=by rw [List.getD_eq_getElem?_getD,hy];rfl
 refine Zq J J (Zz (n:=0) (m:=0) J J J (Zzf ?_))
 refine Zq J J (Zz (n:=2) (m:=2) J J J (Zzf ?_))
 refine Zq J J (Zo J (Zq J J (oSub J J ZO ?_)))
 refine ZS0 (t:=71) (v':=.int .i64 ((i-1:Nat):Int)) J (by congr 1;omega) ?_
 refine Zq J J (oIdxE J J (hE3) ZO J J ?_)
 have hc72:=(hE3).cell
 refine Zq J J (ZF (ZT 0) (ZT 0) ?_)
 refine Zq J J (Zlx hc72 ?_)
 refine Zq J J (oLeq J J (Zq J J (Zt J J (Zu J J (Zo J (ZS (ZT 78) (fun h78=>?_) (fun h78=>?_)))))))
 refine Zr J J J J (Zr J J J J (Zr J J J J (Zt J J (Zo J (Zr J J J J (Zr J J J J (Zr J J J J (Zr J J J J (Zr J J J J (oHead (Zt J J (oNilT (Za (wCondT J (Zh (Zi (Zzj ?_)))))))))))))))))
 exact ⟨(),trivial,by rw [hdF,fstE_stop hs hre (by rw [hrx];unfold dRelE;rw [if_pos (by first | omega | (rw [hy'];omega))];decide),hrx];unfold dRelE;rw [if_pos (by first | omega | (rw [hy'];omega))];rfl,Lh⟩
 refine Zq J J (Zz (n:=1) (m:=1) J J J (Zzf ?_))
 refine Zq J J (Zx J J (Zu J J (Zo J (ZS (ZT 83) (fun h83=>?_) (fun h83=>?_)))))
 refine Zr J J J J (Zr J J J J (Zr J J J J (Zr J J J J (Zr J J J J (oHead (Zt J J (oNilT (Za (wCondT J (Zh (Zi (Zzj ?_))))))))))))
 exact ⟨(),trivial,by rw [hdF,fstE_stop hs hre (by rw [hrx];unfold dRelE;rw [if_pos (by first | omega | (rw [hy'];omega))];decide),hrx];unfold dRelE;rw [if_pos (by first | omega | (rw [hy'];omega))];rfl,Lh⟩
 refine Zq J J (Zz (n:=1) (m:=1) J J J (Zzf ?_))
 refine Zq J J (Zo J (Zq J J (Zv J J (Zq J J (Z2 J J (oHead (Zu J J (oNilT (Za (wC (fun h89=>?_) (fun h89=>?_)))))))))))
 refine Zh (Zi (Zzj ?_))
 exact ⟨(),trivial,by rw [hdF,fstE_stop hs hre (by rw [hrx];unfold dRelE;rw [if_pos (by first | omega | (rw [hy'];omega))];decide),hrx];unfold dRelE;rw [if_pos (by first | omega | (rw [hy'];omega))];rfl,Lh⟩
 obtain ⟨s,hsm⟩:=Int.eq_ofNat_of_zero_le (show 0≤x.fSym by omega)
 obtain ⟨sy,hsy⟩:∃ sy,l[s]?=some sy:=⟨_,List.getElem?_eq_getElem ZO⟩
 obtain ⟨e4,cs4,hE4⟩:=hC.elm hsy
 obtain rfl:=kApiSymbol_open hE4.K
 have hlg:l.getD x.fSym.toNat default=sy:=by rw [hsm,Int.toNat_natCast,List.getD_eq_getElem?_getD,hsy];rfl
 refine Zj (Za (Zh (wDraw2 J J [0] [1,2,3,4,5,6,7,8,9,10,11,12,13,14,15,16,17] 18 ZK J J J (fun w0=>?_))))
 refine Zz (n:=1) (m:=1) J J J (Zld ?_)
 refine ZS0 (t:=92) (v':=.int .i64 (s:Int)) rfl (by rw [hsm]) ?_
 refine oIdxE J J (hE4) ZO J J ?_
 have hc93:=(hE4).cell
 refine ZF (ZT 2) (ZT 2) ?_
 refine Zlx hc93 ?_
 refine Z0 J J (Zo J (ZS (ZT 97) (fun h97=>?_) (fun h97=>?_)))
 refine Zr J J J J (Zr J J J J (Zr J J J J (Zr J J J J (Zr J J J J (Zr J J J J (Zr J J J J (Zr J J J J (Zr J J J J (Zr J J J J (oHead (Zt J J (oNilT (Za (wCondT J (Zh (Zi (Zzb ?_)))))))))))))))))
 exact ⟨(),trivial,by rw [hdF,fstE_stop hs hre (by rw [hrx];unfold dRelE;rw [if_neg (by first | omega | (rw [hy'];omega)),hlg,if_pos (by simp_all <;> omega)];decide),hrx];unfold dRelE;rw [if_neg (by first | omega | (rw [hy'];omega)),hlg,if_pos (by simp_all <;> omega)];rfl,Lh⟩
 refine Zq J J (Zo J (Zq J J (Zz (n:=1) (m:=1) J J J (Zzf ?_))))
 refine ZS0 (t:=100) (v':=.int .i64 (s:Int)) rfl (by rw [hsm]) ?_
 refine Zq J J (oIdxE J J (hE4) ZO J J ?_)
 have hc101:=(hE4).cell
 refine Zq J J (ZF (ZT 3) (ZT 3) ?_)
 refine Zq J J (Zlx hc101 ?_)
 refine Zq J J (Zz (n:=0) (m:=0) J J J (Zzf ?_))
 refine Zq J J ?_
 refine oSub J J (by unfold in64 at hk;omega) ?_
 refine Zq J J (Z0 J J (oHead (Zu J J (oNilT (Za (wC (fun h108=>?_) (fun h108=>?_)))))))
 refine Zh (Zi (Zzb ?_))
 exact ⟨(),trivial,by rw [hdF,fstE_stop hs hre (by rw [hrx];unfold dRelE;rw [if_neg (by first | omega | (rw [hy'];omega)),hlg,if_pos (by simp_all <;> omega)];decide),hrx];unfold dRelE;rw [if_neg (by first | omega | (rw [hy'];omega)),hlg,if_pos (by simp_all <;> omega)];rfl,Lh⟩
 refine Zj (Zze ?_)
 refine Zp J (Zn (Za ?_))
 exact ⟨rfl,i+1,⟨by omega,fstE_next hs hre (by rw [hrx];unfold dRelE;rw [if_neg (by first | omega | (rw [hy'];omega)),hlg,if_neg (by simp_all <;> omega)])⟩,by omega,cv,Lh⟩
 refine Zr J J J J (Zr J J J J (Zr J J J J (Zr J J J J (Zr J J J J (Zr J J J J (Zr J J J J (Zr J J J J (Zr J J J J (Zr J J J J (Zq J J (Zu J J (Zu J J (Zo J (Zq J J (Zz (n:=1) (m:=1) J J J (Zzf ?_))))))))))))))))
 refine Zq J J (Zx J J (Zu J J (Zo J (ZS (ZT 83) (fun h83=>?_) (fun h83=>?_)))))
 refine Zr J J J J (Zr J J J J (Zr J J J J (Zr J J J J (Zr J J J J (oHead (Zt J J (oNilT (Za (wCondT J (Zh (Zi (Zzj ?_))))))))))))
 exact ⟨(),trivial,by rw [hdF,fstE_stop hs hre (by rw [hrx];unfold dRelE;rw [if_pos (by first | omega | (rw [hy'];omega))];decide),hrx];unfold dRelE;rw [if_pos (by first | omega | (rw [hy'];omega))];rfl,Lh⟩
 refine Zq J J (Zz (n:=1) (m:=1) J J J (Zzf ?_))
 refine Zq J J (Zo J (Zq J J (Zv J J (Zq J J (Z2 J J (oHead (Zu J J (oNilT (Za (wC (fun h89=>?_) (fun h89=>?_)))))))))))
 refine Zh (Zi (Zzj ?_))
 exact ⟨(),trivial,by rw [hdF,fstE_stop hs hre (by rw [hrx];unfold dRelE;rw [if_pos (by first | omega | (rw [hy'];omega))];decide),hrx];unfold dRelE;rw [if_pos (by first | omega | (rw [hy'];omega))];rfl,Lh⟩
 obtain ⟨s,hsm⟩:=Int.eq_ofNat_of_zero_le (show 0≤x.fSym by omega)
 obtain ⟨sy,hsy⟩:∃ sy,l[s]?=some sy:=⟨_,List.getElem?_eq_getElem ZO⟩
 obtain ⟨e4,cs4,hE4⟩:=hC.elm hsy
 obtain rfl:=kApiSymbol_open hE4.K
 have hlg:l.getD x.fSym.toNat default=sy:=by rw [hsm,Int.toNat_natCast,List.getD_eq_getElem?_getD,hsy];rfl
 refine Zj (Za (Zh (wDraw2 J J [0] [1,2,3,4,5,6,7,8,9,10,11,12,13,14,15,16,17] 18 ZK J J J (fun w0=>?_))))
 refine Zz (n:=1) (m:=1) J J J (Zld ?_)
 refine ZS0 (t:=92) (v':=.int .i64 (s:Int)) rfl (by rw [hsm]) ?_
 refine oIdxE J J (hE4) ZO J J ?_
 have hc93:=(hE4).cell
 refine ZF (ZT 2) (ZT 2) ?_
 refine Zlx hc93 ?_
 refine Z0 J J (Zo J (ZS (ZT 97) (fun h97=>?_) (fun h97=>?_)))
 refine Zr J J J J (Zr J J J J (Zr J J J J (Zr J J J J (Zr J J J J (Zr J J J J (Zr J J J J (Zr J J J J (Zr J J J J (Zr J J J J (oHead (Zt J J (oNilT (Za (wCondT J (Zh (Zi (Zzb ?_)))))))))))))))))
 exact ⟨(),trivial,by rw [hdF,fstE_stop hs hre (by rw [hrx];unfold dRelE;rw [if_neg (by first | omega | (rw [hy'];omega)),hlg,if_pos (by simp_all <;> omega)];decide),hrx];unfold dRelE;rw [if_neg (by first | omega | (rw [hy'];omega)),hlg,if_pos (by simp_all <;> omega)];rfl,Lh⟩
 refine Zq J J (Zo J (Zq J J (Zz (n:=1) (m:=1) J J J (Zzf ?_))))
 refine ZS0 (t:=100) (v':=.int .i64 (s:Int)) rfl (by rw [hsm]) ?_
 refine Zq J J (oIdxE J J (hE4) ZO J J ?_)
 have hc101:=(hE4).cell
 refine Zq J J (ZF (ZT 3) (ZT 3) ?_)
 refine Zq J J (Zlx hc101 ?_)
 refine Zq J J (Zz (n:=0) (m:=0) J J J (Zzf ?_))
 refine Zq J J ?_
 refine oSub J J (by unfold in64 at hk;omega) ?_
 refine Zq J J (Z0 J J (oHead (Zu J J (oNilT (Za (wC (fun h108=>?_) (fun h108=>?_)))))))
 refine Zh (Zi (Zzb ?_))
 exact ⟨(),trivial,by rw [hdF,fstE_stop hs hre (by rw [hrx];unfold dRelE;rw [if_neg (by first | omega | (rw [hy'];omega)),hlg,if_pos (by simp_all <;> omega)];decide),hrx];unfold dRelE;rw [if_neg (by first | omega | (rw [hy'];omega)),hlg,if_pos (by simp_all <;> omega)];rfl,Lh⟩
 refine Zj (Zze ?_)
 refine Zp J (Zn (Za ?_))
 exact ⟨rfl,i+1,⟨by omega,fstE_next hs hre (by rw [hrx];unfold dRelE;rw [if_neg (by first | omega | (rw [hy'];omega)),hlg,if_neg (by simp_all <;> omega)])⟩,by omega,cv,Lh⟩
 refine Zm (Zzg ?_)
 obtain rfl:i=d.fRelocs.length:=by omega
 rw [rmap_all] at hs
 exact ⟨(),trivial,by rw [hdF,hs];rfl,Lh⟩
structure GoodO (o:ApiObject):Prop where
  v:vApiObject o
  syms:o.fSymbols.length≤60
  funcs:o.fFuncs.length≤20
  datas:o.fDatas.length≤20
  fun_:∀ f ∈ o.fFuncs,f.fKinds.length≤100∧f.fLines.length≤100∧f.fCode.length≤100∧f.fRelocs.length≤100
  data:∀ d ∈ o.fDatas,d.fWords.length≤100∧d.fRelocs.length≤100
theorem FewO.one {l:List ApiObject}(h:FewO l) (hv:∀ o ∈ l,vApiObject o) {o:ApiObject}(ho:o ∈ l):GoodO o:=⟨hv o ho,h.syms o ho,h.funcs o ho,h.datas o ho,h.fun_ o ho,h.data o ho⟩
def itemsF (o:ApiObject):Int:=(o.fFuncs.length:Int)+(o.fDatas.length:Int)
def definesF (o:ApiObject) (item:Int) (x:ApiSymbol):Bool:=if item<0∨itemsF o≤item then false else if item<(o.fFuncs.length:Int) then decide (x.fSort=1) && decide (x.fDef=item) else decide (x.fSort=2) && decide (x.fDef=item-(o.fFuncs.length:Int))
def definerF (o:ApiObject) (item:Int):Int:=idxI (definesF o item) o.fSymbols
theorem ref19_Items {B:Base}{w:World}(hS:St B [] w) (o:ApiObject) (oc:List Value) (ho:kApiObject.K B.e o oc) (hg:GoodO o) :
 CW 13 #[.agg oc.toArray] w (Ret B (fun _:Unit=>True) (fun _=>.int .i64 (itemsF o)) (fun _=>[])):=by
 obtain ⟨A0,c0,A1,c1,A2,c2,rfl,m0,q0,m1,q1,m2,q2⟩:=kApiObject_open ho
 have hn1:=hg.funcs
 have hn2:=hg.datas
 refine ZX Tryz.func13 hS ?_
 refine Zh (Zi (oBox J ZP (fun b1=>?_)))
 refine Zp J (Zn (Za (Zh (Zi (Zz (n:=1) (m:=1) J J J (Zld ?_))))))
 refine Zv J J (Zz (n:=2) (m:=2) J J J (Zld ?_))
 refine Zv J J ?_
 first | refine oAdd rfl rfl ZO ?_ | refine oAddW rfl rfl ?_
 refine Zp J (Zzk ?_)
 exact ⟨(),trivial,rfl,Lh⟩
theorem ref19_defines {B:Base}{w:World}(hS:St B [] w) (o:ApiObject) (oc:List Value) (ho:kApiObject.K B.e o oc) (hg:GoodO o) (x:ApiSymbol) (xc:List Value) (hx:kApiSymbol.K B.e x xc) (item:Int) :
 CW 38 #[.agg oc.toArray,.agg xc.toArray,.int .i64 item] w (Ret B (fun _:Unit=>True) (fun _=>.bool (definesF o item x)) (fun _=>[])):=by
 obtain ⟨A0,c0,A1,c1,A2,c2,rfl,m0,q0,m1,q1,m2,q2⟩:=kApiObject_open ho
 obtain rfl:=kApiSymbol_open hx
 have hn1:=hg.funcs
 have hn2:=hg.datas
 have hit:itemsF o=(o.fFuncs.length:Int)+(o.fDatas.length:Int):=rfl
 refine ZX Tryz.func38 hS ?_
 refine Zh (Zi (oBox J ZP (fun b3=>?_)))
 refine oBox J ZP (fun b4=>?_)
 refine Zp J (Zn (Za (Zh (Zh (Zi (Zo J (Zx J J (Zo J (ZS (ZT 9) (fun h9=>?_) (fun h9=>?_))))))))))
 refine Zr J J J J (Zr J J J J (Zr J J J J (Zr J J J J (Zt J J (Zn (Za (wCondT J (Zh (Zi (Zzc ?_))))))))))
 exact ⟨(),trivial,by unfold definesF;rw [if_pos ZO];rfl,Lh⟩
 refine Zq J J (Zo J (Zq J J (Zla ?_)))
 refine Zq J J ?_
 (refine ZC0 rfl ZK (fun w hS=>frame hS ZQ (fun B' hB hS'=>ref19_Items hS' o _ (kApiObject.K_grow hB ho) hg)) ?_;rintro ⟨⟩ -)
 refine Zq J J (Z2 J J (Zu J J (Zn (Za (wC (fun h14=>?_) (fun h14=>?_))))))
 refine Zh (Zi (Zzc ?_))
 exact ⟨(),trivial,by unfold definesF;rw [if_pos ZO];rfl,Lh⟩
 refine Zj (Za (Zh (Zh (Zi (Zo J (Zz (n:=1) (m:=1) J J J (Zld ?_)))))))
 refine Zv J J (Zx J J (Zn (Za (wC (fun h19=>?_) (fun h19=>?_)))))
 refine Zh (Zi (Zz (n:=2) (m:=2) J J J (Zld ?_)))
 refine Zy J J (Zo J (ZS (ZT 23) (fun h23=>?_) (fun h23=>?_)))
 refine Zq J J (Zz (n:=4) (m:=4) J J J (Zzf ?_))
 refine Zq J J (Zo J (Zq J J (Zy J J (Zt J J (Zzc ?_)))))
 exact ⟨(),trivial,by unfold definesF;rw [if_neg ZO,if_pos ZO];simp [resVal,h23],Lh⟩
 refine Zr J J J J (Zr J J J J (Zr J J J J (Zr J J J J (Zu J J (Zzc ?_)))))
 exact ⟨(),trivial,by unfold definesF;rw [if_neg ZO,if_pos ZO];simp [resVal,h23],Lh⟩
 refine Zj (Za (Zh (Zi (Zz (n:=2) (m:=2) J J J (Zld ?_)))))
 refine Zy J J (Zo J (ZS (ZT 32) (fun h32=>?_) (fun h32=>?_)))
 refine Zq J J (Zz (n:=4) (m:=4) J J J (Zzf ?_))
 refine Zq J J (Zo J (Zq J J (Zz (n:=1) (m:=1) J J J (Zzf ?_))))
 refine Zq J J (Zv J J (Zq J J (oSub J J ZO ?_)))
 refine Zq J J (Zy J J (Zt J J (Zza ?_)))
 exact ⟨(),trivial,by unfold definesF;rw [if_neg ZO,if_neg ZO];simp [resVal,h32],Lh⟩
 refine Zr J J J J (Zr J J J J (Zr J J J J (Zr J J J J (Zr J J J J (Zr J J J J (Zzp ?_))))))
 exact ⟨(),trivial,by unfold definesF;rw [if_neg ZO,if_neg ZO];simp [resVal,h32],Lh⟩
theorem ref19_Definer {B:Base}{w:World}(hS:St B [] w) (o:ApiObject) (oc:List Value) (ho:kApiObject.K B.e o oc) (hg:GoodO o) (item:Int) :
 CW 15 #[.agg oc.toArray,.int .i64 item] w (Ret B (fun _:Unit=>True) (fun _=>.int .i64 (definerF o item)) (fun _=>[])):=by
 obtain ⟨A0,c0,A1,c1,A2,c2,rfl,m0,q0,m1,q1,m2,q2⟩:=kApiObject_open ho
 have hn0:=hg.syms
 refine ZX Tryz.func15 hS ?_
 refine Zh (Zi (oBox J ZP (fun b2=>?_)))
 refine Zp J (Zn (Za (Zh (Zh (Zi (Zp J (Zn (Za (Zk (wLoop (ι:=Nat) (fun i=>[(1,.int .i64 item),(2,.pointer (some ⟨b2,0,none⟩)),(5,.int .i64 (i:Int))]) (fun i=>[blk b2 26 [.slice A0 o.fSymbols.length c0,.slice A1 o.fFuncs.length c1,.slice A2 o.fDatas.length c2]]) (fun i=>i≤o.fSymbols.length∧∀ y ∈ o.fSymbols.take i,definesF o item y=false) (fun i=>o.fSymbols.length-i) 0 ?_ cv (Leads.has ZQ) ?_))))))))))
 exact ⟨Nat.zero_le _,by simp⟩
 rintro i ⟨hi,hs⟩
 try dsimp only
 refine Zh (Zh (Zi (Zo J (Zz (n:=0) (m:=0) J J J (Zld ?_)))))
 refine Zv J J (Zx J J (Zn (Za (wC (fun h10=>?_) (fun h10=>?_)))))
 obtain ⟨x,hx⟩:∃ x,o.fSymbols[i]?=some x:=⟨_,List.getElem?_eq_getElem ZO⟩
 obtain ⟨e1,cs1,hE⟩:=q0.elm hx
 obtain rfl:=kApiSymbol_open hE.K
 refine Zj (Za (Zh (Zk (Zh (wDraw2 J J [3,6] [0,1,2,4,5] 7 ZK J J J (fun w0=>?_))))))
 refine Zla ?_
 refine Zz (n:=0) (m:=0) J J J (Zld ?_)
 refine oIdxE J J (hE) ZO J J ?_
 have hc17:=(hE).cell
 refine Zlx hc17 ?_
 refine oHead ?_
 (refine ZC0 rfl ZK (fun w hS=>frame hS ZQ (fun B' hB hS'=>ref19_defines hS' o _ (kApiObject.K_grow hB ho) hg x _ (kApiSymbol_mk _ x) item)) ?_;rintro ⟨⟩ -)
 refine oNilT (Za (wC (fun h20=>?_) (fun h20=>?_)))
 refine Zh (Zzz ?_)
 exact ⟨(),trivial,by unfold definerF;rw [idxI_stop hs hx h20];rfl,Lh⟩
 refine Zj (Zze ?_)
 refine Zp J (Zn (Za ?_))
 exact ⟨rfl,i+1,⟨by omega,take_not hs hx h20⟩,by omega,cv,Lh⟩
 refine Zm (Zzg ?_)
 obtain rfl:i=o.fSymbols.length:=by omega
 rw [List.take_length] at hs
 exact ⟨(),trivial,by unfold definerF;rw [idxI_none hs];rfl,Lh⟩
def kindB (x:ApiSymbol):Bool:=(decide (x.fSort≠1) && decide (x.fSort≠2)) || (decide (x.fSort=1) && !isC x.fKind) || (decide (x.fSort=2) && decide (textF x.fKind=ByteArray.empty))
def nameP (x y:ApiSymbol):Bool:=decide (y.fName=x.fName)
def aheadP (x y:ApiSymbol):Bool:=decide (y.fSort=x.fSort) && decide (y.fDef≠-1)
def aheadN (x:ApiSymbol) (l:List ApiSymbol):Nat:=(l.filter (aheadP x)).length
def mostN (o:ApiObject) (x:ApiSymbol):Nat:=if x.fSort=2 then o.fDatas.length else o.fFuncs.length
def symX (o:ApiObject) (i:Nat) (x:ApiSymbol):Int:=
  if nameF4 x.fName≠0 then nameF4 x.fName else if kindB x=true then 8 else if (o.fSymbols.take i).any (nameP x)=true then 12 else
  if x.fDef≠-1∧(x.fDef≠(aheadN x (o.fSymbols.take i):Int)∨(mostN o x:Int)≤x.fDef) then 9 else if x.fLocal=true∧x.fDef = -1 then 13 else 0
def symE (o:ApiObject) (i:Nat):Int:=symX o i (o.fSymbols.getD i default)
theorem symE_at {o:ApiObject}{i:Nat}{x:ApiSymbol}(h:o.fSymbols[i]?=some x):symE o i=symX o i x:=by unfold symE;rw [List.getD_eq_getElem?_getD,h];rfl
theorem ahead_succ (x:ApiSymbol) {l:List ApiSymbol}{k:Nat}{y:ApiSymbol}(h:l[k]?=some y):aheadN x (l.take (k+1))=aheadN x (l.take k)+(if aheadP x y=true then 1 else 0):=by
 unfold aheadN
 rw [List.take_add_one,h,List.filter_append,List.length_append]
 congr 1
 show ((List.filter (aheadP x) [y]).length)=_
 rw [List.filter_cons]
 split <;> simp
theorem ahead_le (x:ApiSymbol) (l:List ApiSymbol):aheadN x l≤l.length:=List.length_filter_le _ _
theorem ref19_symbol {B:Base}{w:World}(hS:St B [] w) (o:ApiObject) (oc:List Value) (ho:kApiObject.K B.e o oc) (hg:GoodO o) (i:Nat) (hi:i<o.fSymbols.length) :
 CW 33 #[.agg oc.toArray,.int .i64 (i:Int)] w (Ret B (fun _:Unit=>True) (fun _=>.int .i64 (symE o i)) (fun _=>[])):=by
 obtain ⟨A0,c0,A1,c1,A2,c2,rfl,m0,q0,m1,q1,m2,q2⟩:=kApiObject_open ho
 have hn0:=hg.syms
 have hn1:=hg.funcs
 have hn2:=hg.datas
 obtain ⟨x,hx⟩:∃ x,o.fSymbols[i]?=some x:=⟨_,List.getElem?_eq_getElem hi⟩
 have hvx:=(hg.v.1.2 x (List.mem_of_getElem? hx))
 obtain ⟨e1,cs1,hE⟩:=q0.elm hx
 obtain rfl:=kApiSymbol_open hE.K
 rw [symE_at hx]
 refine ZX Tryz.func33 hS ?_
 refine Zh (Zi (oBox J ZP (fun b2=>?_)))
 refine Zp J (Zn (Za (Zh (Zi (Zz (n:=0) (m:=0) J J J (Zld ?_))))))
 refine Zo J (oIdxE J J (hE) ZO J J ?_)
 have hc14:=(hE).cell
 refine Zlx hc14 ?_
 refine oAlloc J ZP (fun b5=>?_)
 refine Zsa ?_
 refine Zn (Za (Zh (Zh (Zi (Zz (n:=0) (m:=0) J J J (Zld ?_))))))
 (refine ZC0 rfl ZK (fun w hS=>frame hS ZQ (fun B' hB hS'=>ref4_Check hS' x.fName)) ?_;rintro ⟨⟩ -)
 refine Zp J (Zn (Za (Zh (Zi (Zo J (Z0 J J (Zn (Za (wC (fun h20=>?_) (fun h20=>?_))))))))))
 refine Zh (Zi (Zo J (Zzc ?_)))
 exact ⟨(),trivial,by unfold symX;rw [if_pos h20];rfl,Lh⟩
 refine Zj (Za (Zh (wCut (ι:=Unit) (fun _=>[(1,.int .i64 (i:Int)),(2,.pointer (some ⟨b2,0,none⟩)),(5,.pointer (some ⟨b5,0,none⟩)),(51,.bool (kindB x))]) (fun _=>[blk b2 26 [.slice A0 o.fSymbols.length c0,.slice A1 o.fFuncs.length c1,.slice A2 o.fDatas.length c2],blk b5 37 [.string x.fName,.bool x.fLocal,.int .i64 x.fSort,.int .i64 x.fKind,.int .i64 x.fDef]]) (fun _=>True) ?_ ?_)))
 refine Zi (Zz (n:=2) (m:=2) J J J (Zld ?_))
 refine Z0 J J (Zo J (ZS (ZT 25) (fun h25=>?_) (fun h25=>?_)))
 refine Zq J J (Zz (n:=2) (m:=2) J J J (Zzf ?_))
 refine Zq J J (Z0 J J (Zt J J (Zo J (ZS (ZT 30) (fun h30=>?_) (fun h30=>?_)))))
 refine Zr J J J J (Zr J J J J (Zr J J J J (Zr J J J J (Zs J J J (Zs J J J (Zs J J J (Zs J J J (Zr J J J J (Zt J J (Zo J (Zr J J J J (Zr J J J J (Zr J J J J (Zr J J J J (Zs J J J (Zs J J J (Zs J J J (Zs J J J (Zr J J J J (Zt J J (Zn (Za ?_))))))))))))))))))))))
 exact ⟨rfl,(),trivial,(by refine ⟨rfl,rfl,rfl,?_,trivial⟩;show some (Value.bool _)=some (Value.bool _);unfold kindB;simp_all <;> first | done | exact Iff.rfl | rfl),Lh⟩
 refine Zq J J (Zz (n:=2) (m:=2) J J J (Zzf ?_))
 refine Zq J J (Zy J J (Zq J J (Zo J (ZS (ZT 34) (fun h34=>?_) (fun h34=>?_)))))
 refine Zq J J (Zz (n:=3) (m:=3) J J J (Zzf ?_))
 refine Zq J J ?_
 (refine ZC0 rfl ZK (fun w hS=>frame hS ZQ (fun B' hB hS'=>ref5_Is hS' x.fKind)) ?_;rintro ⟨⟩ -)
 refine Zq J J (Zno ?_)
 refine Zq J J (Zt J J (Zu J J (Zo J (ZS (ZT 41) (fun h41=>?_) (fun h41=>?_)))))
 refine Zr J J J J (Zr J J J J (Zr J J J J (Zr J J J J (Zs J J J (Zs J J J (Zs J J J (Zs J J J (Zr J J J J (Zt J J (Zn (Za ?_)))))))))))
 exact ⟨rfl,(),trivial,(by refine ⟨rfl,rfl,rfl,?_,trivial⟩;show some (Value.bool _)=some (Value.bool _);unfold kindB;simp_all <;> first | done | exact Iff.rfl | rfl),Lh⟩
 refine Zq J J (Zz (n:=2) (m:=2) J J J (Zzf ?_))
 refine Zq J J (Zy J J (Zq J J (Zo J (ZS (ZT 45) (fun h45=>?_) (fun h45=>?_)))))
 refine Zq J J (Zz (n:=3) (m:=3) J J J (Zzf ?_))
 refine Zq J J ?_
 (refine ZC0 rfl ZK (fun w hS=>frame hS ZQ (fun B' hB hS'=>ref5_Text hS' x.fKind hvx.2.2.2.1)) ?_;rintro ⟨⟩ -)
 refine Zq J J (oSEq J J (Zq J J (Zt J J (Zu J J (Zn (Za ?_))))))
 exact ⟨rfl,(),trivial,(by refine ⟨rfl,rfl,rfl,?_,trivial⟩;show some (Value.bool _)=some (Value.bool _);unfold kindB;simp_all <;> first | done | exact Iff.rfl | rfl),Lh⟩
 refine Zr J J J J (Zr J J J J (Zr J J J J (Zr J J J J (Zq J J (Zu J J (Zu J J (Zn (Za ?_))))))))
 exact ⟨rfl,(),trivial,(by refine ⟨rfl,rfl,rfl,?_,trivial⟩;show some (Value.bool _)=some (Value.bool _);unfold kindB;simp_all <;> first | done | exact Iff.rfl | rfl),Lh⟩
 refine Zr J J J J (Zr J J J J (Zr J J J J (Zr J J J J (Zq J J (Zu J J (Zu J J (Zo J (Zq J J (Zz (n:=2) (m:=2) J J J (Zzf ?_))))))))))
 refine Zq J J (Zy J J (Zq J J (Zo J (ZS (ZT 45) (fun h45=>?_) (fun h45=>?_)))))
 refine Zq J J (Zz (n:=3) (m:=3) J J J (Zzf ?_))
 refine Zq J J ?_
 (refine ZC0 rfl ZK (fun w hS=>frame hS ZQ (fun B' hB hS'=>ref5_Text hS' x.fKind hvx.2.2.2.1)) ?_;rintro ⟨⟩ -)
 refine Zq J J (oSEq J J (Zq J J (Zt J J (Zu J J (Zn (Za ?_))))))
 exact ⟨rfl,(),trivial,(by refine ⟨rfl,rfl,rfl,?_,trivial⟩;show some (Value.bool _)=some (Value.bool _);unfold kindB;simp_all <;> first | done | exact Iff.rfl | rfl),Lh⟩
 refine Zr J J J J (Zr J J J J (Zr J J J J (Zr J J J J (Zq J J (Zu J J (Zu J J (Zn (Za ?_))))))))
 exact ⟨rfl,(),trivial,(by refine ⟨rfl,rfl,rfl,?_,trivial⟩;show some (Value.bool _)=some (Value.bool _);unfold kindB;simp_all <;> first | done | exact Iff.rfl | rfl),Lh⟩
 refine Zr J J J J (Zr J J J J (Zr J J J J (Zu J J (Zo J (Zq J J (Zz (n:=2) (m:=2) J J J (Zzf ?_)))))))
 refine Zq J J (Zy J J (Zq J J (Zo J (ZS (ZT 34) (fun h34=>?_) (fun h34=>?_)))))
 refine Zq J J (Zz (n:=3) (m:=3) J J J (Zzf ?_))
 refine Zq J J ?_
 (refine ZC0 rfl ZK (fun w hS=>frame hS ZQ (fun B' hB hS'=>ref5_Is hS' x.fKind)) ?_;rintro ⟨⟩ -)
 refine Zq J J (Zno ?_)
 refine Zq J J (Zt J J (Zu J J (Zo J (ZS (ZT 41) (fun h41=>?_) (fun h41=>?_)))))
 refine Zr J J J J (Zr J J J J (Zr J J J J (Zr J J J J (Zs J J J (Zs J J J (Zs J J J (Zs J J J (Zr J J J J (Zt J J (Zn (Za ?_)))))))))))
 exact ⟨rfl,(),trivial,(by refine ⟨rfl,rfl,rfl,?_,trivial⟩;show some (Value.bool _)=some (Value.bool _);unfold kindB;simp_all <;> first | done | exact Iff.rfl | rfl),Lh⟩
 refine Zq J J (Zz (n:=2) (m:=2) J J J (Zzf ?_))
 refine Zq J J (Zy J J (Zq J J (Zo J (ZS (ZT 45) (fun h45=>?_) (fun h45=>?_)))))
 refine Zq J J (Zz (n:=3) (m:=3) J J J (Zzf ?_))
 refine Zq J J ?_
 (refine ZC0 rfl ZK (fun w hS=>frame hS ZQ (fun B' hB hS'=>ref5_Text hS' x.fKind hvx.2.2.2.1)) ?_;rintro ⟨⟩ -)
 refine Zq J J (oSEq J J (Zq J J (Zt J J (Zu J J (Zn (Za ?_))))))
 exact ⟨rfl,(),trivial,(by refine ⟨rfl,rfl,rfl,?_,trivial⟩;show some (Value.bool _)=some (Value.bool _);unfold kindB;simp_all <;> first | done | exact Iff.rfl | rfl),Lh⟩
 refine Zr J J J J (Zr J J J J (Zr J J J J (Zr J J J J (Zq J J (Zu J J (Zu J J (Zn (Za ?_))))))))
 exact ⟨rfl,(),trivial,(by refine ⟨rfl,rfl,rfl,?_,trivial⟩;show some (Value.bool _)=some (Value.bool _);unfold kindB;simp_all <;> first | done | exact Iff.rfl | rfl),Lh⟩
 refine Zr J J J J (Zr J J J J (Zr J J J J (Zr J J J J (Zq J J (Zu J J (Zu J J (Zo J (Zq J J (Zz (n:=2) (m:=2) J J J (Zzf ?_))))))))))
 refine Zq J J (Zy J J (Zq J J (Zo J (ZS (ZT 45) (fun h45=>?_) (fun h45=>?_)))))
 refine Zq J J (Zz (n:=3) (m:=3) J J J (Zzf ?_))
 refine Zq J J ?_
 (refine ZC0 rfl ZK (fun w hS=>frame hS ZQ (fun B' hB hS'=>ref5_Text hS' x.fKind hvx.2.2.2.1)) ?_;rintro ⟨⟩ -)
 refine Zq J J (oSEq J J (Zq J J (Zt J J (Zu J J (Zn (Za ?_))))))
 exact ⟨rfl,(),trivial,(by refine ⟨rfl,rfl,rfl,?_,trivial⟩;show some (Value.bool _)=some (Value.bool _);unfold kindB;simp_all <;> first | done | exact Iff.rfl | rfl),Lh⟩
 refine Zr J J J J (Zr J J J J (Zr J J J J (Zr J J J J (Zq J J (Zu J J (Zu J J (Zn (Za ?_))))))))
 exact ⟨rfl,(),trivial,(by refine ⟨rfl,rfl,rfl,?_,trivial⟩;show some (Value.bool _)=some (Value.bool _);unfold kindB;simp_all <;> first | done | exact Iff.rfl | rfl),Lh⟩
 rintro ⟨⟩ -
 try dsimp only
 refine wC (fun h51=>?_) (fun h51=>?_)
 refine Zh (Zi (Zzc ?_))
 exact ⟨(),trivial,by unfold symX;rw [if_neg h20,if_pos h51];rfl,Lh⟩
 have hkb:¬ kindB x=true:=by rw [h51];simp
 refine Zj (Za (Zh (Zh (Zi (Zp J (Zn (Za (Zk (wLoop (ι:=Nat) (fun k=>[(1,.int .i64 (i:Int)),(2,.pointer (some ⟨b2,0,none⟩)),(5,.pointer (some ⟨b5,0,none⟩)),(7,.int .i64 (k:Int))]) (fun k=>[blk b2 26 [.slice A0 o.fSymbols.length c0,.slice A1 o.fFuncs.length c1,.slice A2 o.fDatas.length c2],blk b5 37 [.string x.fName,.bool x.fLocal,.int .i64 x.fSort,.int .i64 x.fKind,.int .i64 x.fDef]]) (fun k=>k≤i∧∀ y ∈ o.fSymbols.take k,nameP x y=false) (fun k=>i-k) 0 ?_ cv (Leads.has ZQ) ?_)))))))))
 exact ⟨Nat.zero_le _,by simp⟩
 rintro k ⟨hk,hs⟩
 try dsimp only
 refine Zh (Zh (Zi (Zo J (Zo J (Zx J J (Zn (Za (wC (fun h54=>?_) (fun h54=>?_)))))))))
 obtain ⟨y,hy⟩:∃ y,o.fSymbols[k]?=some y:=⟨_,List.getElem?_eq_getElem ZO⟩
 have hyi:(o.fSymbols.take i)[k]?=some y:=by rw [List.getElem?_take,if_pos ZO,hy]
 obtain ⟨e2,cs2,hE2⟩:=q0.elm hy
 obtain rfl:=kApiSymbol_open hE2.K
 refine Zj (Za (Zh (Zk (Zh (wDraw2 J J [2] [0,1,3,4,5,6,7] 8 ZK J J J (fun w0=>?_))))))
 refine Zz (n:=0) (m:=0) J J J (Zld ?_)
 refine oIdxE J J (hE2) ZO J J ?_
 have hc60:=(hE2).cell
 refine ZF (ZT 0) (ZT 0) ?_
 refine Zlx hc60 ?_
 refine Zz (n:=0) (m:=0) J J J (Zld ?_)
 refine oHead (oSEq J J (oNilT (Za (wC (fun h65=>?_) (fun h65=>?_)))))
 refine Zh (Zi (Zzb ?_))
 exact ⟨(),trivial,by unfold symX;rw [if_neg h20,if_neg hkb,if_pos (any_hit hyi (decide_eq_true h65))];rfl,Lh⟩
 refine Zj (Zze ?_)
 refine Zp J (Zn (Za ?_))
 exact ⟨rfl,k+1,⟨by omega,take_not hs hy (decide_eq_false h65)⟩,by omega,cv,Lh⟩
 obtain rfl:i=k:=by omega
 refine Zm (Zb (Zb (Ze (Za (Zh (Zi (Zz (n:=1) (m:=1) J J J (Zld ?_))))))))
 refine Zv J J (Zp J (Zn (Za (Zh (Zh (Zi (Zz (n:=2) (m:=2) J J J (Zld ?_))))))))
 refine Zy J J (Zn (Za (wC (fun h71=>?_) (fun h71=>?_))))
 have hmo:mostN o x=o.fDatas.length:=by unfold mostN;rw [if_pos ZO]
 refine Zi (Zz (n:=2) (m:=2) J J J (Zld ?_))
 refine Zv rfl rfl (Zp rfl (Zn (Za (Zh (Zi (Zp rfl (ZS0 (t:=8) (v':=.int .i64 (mostN o x:Int)) rfl (by rw [hmo]) ?_)))))))
 refine Zn (Za (Zh (Zh (Zi (Zp J (Zn (Za (Zk ?_))))))))
 refine wLoop (ι:=Nat) (fun k=>[(1,.int .i64 (i:Int)),(2,.pointer (some ⟨b2,0,none⟩)),(5,.pointer (some ⟨b5,0,none⟩)),(8,.int .i64 (mostN o x:Int)),(9,.int .i64 (aheadN x (o.fSymbols.take k):Int)),(10,.int .i64 (k:Int))]) (fun k=>[blk b2 26 [.slice A0 o.fSymbols.length c0,.slice A1 o.fFuncs.length c1,.slice A2 o.fDatas.length c2],blk b5 37 [.string x.fName,.bool x.fLocal,.int .i64 x.fSort,.int .i64 x.fKind,.int .i64 x.fDef]]) (fun k=>k≤i) (fun k=>i-k) 0 ?_ cv (by skip;exact Lh) ?_
 exact Nat.zero_le _
 rintro k hk
 have hle:=ahead_le x (o.fSymbols.take k)
 rw [List.length_take] at hle
 try dsimp only
 refine Zh (Zh (Zi (Zo J (Zo J (Zx J J (Zn (Za (wC (fun h77=>?_) (fun h77=>?_)))))))))
 obtain ⟨y,hy⟩:∃ y,o.fSymbols[k]?=some y:=⟨_,List.getElem?_eq_getElem ZO⟩
 obtain ⟨e2,cs2,hE2⟩:=q0.elm hy
 obtain rfl:=kApiSymbol_open hE2.K
 refine Zj (Za (Zh (Zk (Zh (wDraw2 J J [2] [0,1,3,4,5,6,7,8,9,10,11,12,13,14,15,16] 17 ZK J J J (fun w0=>?_))))))
 refine Zz (n:=0) (m:=0) J J J (Zld ?_)
 refine oIdxE J J (hE2) ZO J J ?_
 have hc83:=(hE2).cell
 refine ZF (ZT 2) (ZT 2) ?_
 refine Zlx hc83 ?_
 refine Zz (n:=2) (m:=2) J J J (Zld ?_)
 refine Zy J J (Zo J (ZS (ZT 89) (fun h89=>?_) (fun h89=>?_)))
 refine Zq J J (Zz (n:=0) (m:=0) J J J (Zzf ?_))
 refine Zq J J (Zo J (Zq J J (oIdxE J J (hE2) ZO J J ?_)))
 have hc93:=(hE2).cell
 refine Zq J J (ZF (ZT 4) (ZT 4) ?_)
 refine Zq J J (Zlx hc93 ?_)
 refine Zq J J (Z0 J J (oHead (Zt J J (oNilT (Za (wC (fun h97=>?_) (fun h97=>?_)))))))
 refine Zi (Zo J (Zsu ?_))
 refine Zp J ?_
 skip
 refine Zn (Zze ?_)
 refine Zp J (Zn (Za ?_))
 exact ⟨rfl,k+1,by omega,by omega,by rw [ahead_succ x hy,if_pos (by unfold aheadP;simp_all)];exact cv,Lh⟩
 refine Zj (Zze ?_)
 refine Zp J (Zn (Za ?_))
 exact ⟨rfl,k+1,by omega,by omega,by rw [ahead_succ x hy,if_neg (by unfold aheadP;simp_all)];exact cv,Lh⟩
 refine Zr J J J J (Zr J J J J (Zr J J J J (Zr J J J J (Zr J J J J (Zr J J J J (Zr J J J J (oHead (Zu J J (oNilT (Za (wCondF J (Zj (Zze ?_)))))))))))))
 refine Zp J (Zn (Za ?_))
 exact ⟨rfl,k+1,by omega,by omega,by rw [ahead_succ x hy,if_neg (by unfold aheadP;simp_all)];exact cv,Lh⟩
 obtain rfl:i=k:=by omega
 have hany:¬ (o.fSymbols.take i).any (nameP x)=true:=by rw [any_not hs];simp
 refine Zm (Zb (Zb (Ze (Za (Zh (Zh (Zi (Zz (n:=4) (m:=4) J J J (Zld ?_)))))))))
 refine Z0 J J (Zo J (ZS (ZT 103) (fun h103=>?_) (fun h103=>?_)))
 refine Zq J J (Zz (n:=4) (m:=4) J J J (Zzf ?_))
 refine Zq J J (Zo J (Zq J J (Z0 J J (Zq J J (Zo J (ZS (ZT 108) (fun h108=>?_) (fun h108=>?_)))))))
 refine Zr J J J J (Zr J J J J (Zr J J J J (Zr J J J J (Zq J J (Zt J J (Zt J J (Zn (Za (wCondT J (Zh (Zi (Zzc ?_))))))))))))
 exact ⟨(),trivial,by unfold symX;rw [if_neg h20,if_neg hkb,if_neg hany,if_pos (by simp_all <;> omega)];rfl,Lh⟩
 refine Zq J J (Zz (n:=4) (m:=4) J J J (Zzf ?_))
 refine Zq J J (Zo J (Zq J J (Z2 J J (Zq J J (Zu J J (Zt J J (Zn (Za (wC (fun h114=>?_) (fun h114=>?_))))))))))
 refine Zh (Zi (Zzc ?_))
 exact ⟨(),trivial,by unfold symX;rw [if_neg h20,if_neg hkb,if_neg hany,if_pos (by simp_all <;> omega)];rfl,Lh⟩
 refine Zj (Za (Zh (Zh (Zi (Zz (n:=1) (m:=1) J J J (Zld ?_))))))
 refine Zo J (ZS (ZT 117) (fun h117=>?_) (fun h117=>?_))
 refine Zq J J (Zz (n:=4) (m:=4) J J J (Zzf ?_))
 refine Zq J J (Zy J J (Zt J J (Zn (Za (wC (fun h121=>?_) (fun h121=>?_))))))
 refine Zh (Zi (Zzc ?_))
 have hnd:¬ (x.fDef≠-1∧(x.fDef≠(aheadN x (o.fSymbols.take i):Int)∨(mostN o x:Int)≤x.fDef)):=by simp_all <;> omega
 exact ⟨(),trivial,by unfold symX;rw [if_neg h20,if_neg hkb,if_neg hany,if_neg hnd,if_pos (by simp_all <;> omega)];rfl,Lh⟩
 refine Zj (Zzy ?_)
 have hnd:¬ (x.fDef≠-1∧(x.fDef≠(aheadN x (o.fSymbols.take i):Int)∨(mostN o x:Int)≤x.fDef)):=by simp_all <;> omega
 exact ⟨(),trivial,by unfold symX;rw [if_neg h20,if_neg hkb,if_neg hany,if_neg hnd,if_neg (by simp_all <;> omega)];rfl,Lh⟩
 refine Zr J J J J (Zr J J J J (Zr J J J J (Zu J J (Zn (Za (wCondF J (Zj (Zzy ?_))))))))
 have hnd:¬ (x.fDef≠-1∧(x.fDef≠(aheadN x (o.fSymbols.take i):Int)∨(mostN o x:Int)≤x.fDef)):=by simp_all <;> omega
 exact ⟨(),trivial,by unfold symX;rw [if_neg h20,if_neg hkb,if_neg hany,if_neg hnd,if_neg (by simp_all <;> omega)];rfl,Lh⟩
 refine Zr J J J J (Zr J J J J (Zr J J J J (Zr J J J J (Zr J J J J (Zs J J J (Zs J J J (Zs J J J (Zs J J J (Zr J J J J (Zu J J (Zn (Za (wCondF J (Zj (Za (Zh (Zh (Zi (Zz (n:=1) (m:=1) J J J (Zld ?_))))))))))))))))))))
 refine Zo J (ZS (ZT 117) (fun h117=>?_) (fun h117=>?_))
 refine Zq J J (Zz (n:=4) (m:=4) J J J (Zzf ?_))
 refine Zq J J (Zy J J (Zt J J (Zn (Za (wC (fun h121=>?_) (fun h121=>?_))))))
 refine Zh (Zi (Zzc ?_))
 have hnd:¬ (x.fDef≠-1∧(x.fDef≠(aheadN x (o.fSymbols.take i):Int)∨(mostN o x:Int)≤x.fDef)):=by simp_all <;> omega
 exact ⟨(),trivial,by unfold symX;rw [if_neg h20,if_neg hkb,if_neg hany,if_neg hnd,if_pos (by simp_all <;> omega)];rfl,Lh⟩
 refine Zj (Zzy ?_)
 have hnd:¬ (x.fDef≠-1∧(x.fDef≠(aheadN x (o.fSymbols.take i):Int)∨(mostN o x:Int)≤x.fDef)):=by simp_all <;> omega
 exact ⟨(),trivial,by unfold symX;rw [if_neg h20,if_neg hkb,if_neg hany,if_neg hnd,if_neg (by simp_all <;> omega)];rfl,Lh⟩
 refine Zr J J J J (Zr J J J J (Zr J J J J (Zu J J (Zn (Za (wCondF J (Zj (Zzy ?_))))))))
 have hnd:¬ (x.fDef≠-1∧(x.fDef≠(aheadN x (o.fSymbols.take i):Int)∨(mostN o x:Int)≤x.fDef)):=by simp_all <;> omega
 exact ⟨(),trivial,by unfold symX;rw [if_neg h20,if_neg hkb,if_neg hany,if_neg hnd,if_neg (by simp_all <;> omega)];rfl,Lh⟩
 have hmo:mostN o x=o.fFuncs.length:=by unfold mostN;rw [if_neg ZO]
 refine Zj (Za (Zh (Zi (Zp rfl (ZS0 (t:=8) (v':=.int .i64 (mostN o x:Int)) rfl (by rw [hmo]) ?_)))))
 refine Zn (Za (Zh (Zh (Zi (Zp J (Zn (Za (Zk ?_))))))))
 refine wLoop (ι:=Nat) (fun k=>[(1,.int .i64 (i:Int)),(2,.pointer (some ⟨b2,0,none⟩)),(5,.pointer (some ⟨b5,0,none⟩)),(8,.int .i64 (mostN o x:Int)),(9,.int .i64 (aheadN x (o.fSymbols.take k):Int)),(10,.int .i64 (k:Int))]) (fun k=>[blk b2 26 [.slice A0 o.fSymbols.length c0,.slice A1 o.fFuncs.length c1,.slice A2 o.fDatas.length c2],blk b5 37 [.string x.fName,.bool x.fLocal,.int .i64 x.fSort,.int .i64 x.fKind,.int .i64 x.fDef]]) (fun k=>k≤i) (fun k=>i-k) 0 ?_ cv (by skip;exact Lh) ?_
 exact Nat.zero_le _
 rintro k hk
 have hle:=ahead_le x (o.fSymbols.take k)
 rw [List.length_take] at hle
 try dsimp only
 refine Zh (Zh (Zi (Zo J (Zo J (Zx J J (Zn (Za (wC (fun h77=>?_) (fun h77=>?_)))))))))
 obtain ⟨y,hy⟩:∃ y,o.fSymbols[k]?=some y:=⟨_,List.getElem?_eq_getElem ZO⟩
 obtain ⟨e2,cs2,hE2⟩:=q0.elm hy
 obtain rfl:=kApiSymbol_open hE2.K
 refine Zj (Za (Zh (Zk (Zh (wDraw2 J J [2] [0,1,3,4,5,6,7,8,9,10,11,12,13,14,15,16] 17 ZK J J J (fun w0=>?_))))))
 refine Zz (n:=0) (m:=0) J J J (Zld ?_)
 refine oIdxE J J (hE2) ZO J J ?_
 have hc83:=(hE2).cell
 refine ZF (ZT 2) (ZT 2) ?_
 refine Zlx hc83 ?_
 refine Zz (n:=2) (m:=2) J J J (Zld ?_)
 refine Zy J J (Zo J (ZS (ZT 89) (fun h89=>?_) (fun h89=>?_)))
 refine Zq J J (Zz (n:=0) (m:=0) J J J (Zzf ?_))
 refine Zq J J (Zo J (Zq J J (oIdxE J J (hE2) ZO J J ?_)))
 have hc93:=(hE2).cell
 refine Zq J J (ZF (ZT 4) (ZT 4) ?_)
 refine Zq J J (Zlx hc93 ?_)
 refine Zq J J (Z0 J J (oHead (Zt J J (oNilT (Za (wC (fun h97=>?_) (fun h97=>?_)))))))
 refine Zi (Zo J (Zsu ?_))
 refine Zp J ?_
 skip
 refine Zn (Zze ?_)
 refine Zp J (Zn (Za ?_))
 exact ⟨rfl,k+1,by omega,by omega,by rw [ahead_succ x hy,if_pos (by unfold aheadP;simp_all)];exact cv,Lh⟩
 refine Zj (Zze ?_)
 refine Zp J (Zn (Za ?_))
 exact ⟨rfl,k+1,by omega,by omega,by rw [ahead_succ x hy,if_neg (by unfold aheadP;simp_all)];exact cv,Lh⟩
 refine Zr J J J J (Zr J J J J (Zr J J J J (Zr J J J J (Zr J J J J (Zr J J J J (Zr J J J J (oHead (Zu J J (oNilT (Za (wCondF J (Zj (Zze ?_)))))))))))))
 refine Zp J (Zn (Za ?_))
 exact ⟨rfl,k+1,by omega,by omega,by rw [ahead_succ x hy,if_neg (by unfold aheadP;simp_all)];exact cv,Lh⟩
 obtain rfl:i=k:=by omega
 have hany:¬ (o.fSymbols.take i).any (nameP x)=true:=by rw [any_not hs];simp
 refine Zm (Zb (Zb (Ze (Za (Zh (Zh (Zi (Zz (n:=4) (m:=4) J J J (Zld ?_)))))))))
 refine Z0 J J (Zo J (ZS (ZT 103) (fun h103=>?_) (fun h103=>?_)))
 refine Zq J J (Zz (n:=4) (m:=4) J J J (Zzf ?_))
 refine Zq J J (Zo J (Zq J J (Z0 J J (Zq J J (Zo J (ZS (ZT 108) (fun h108=>?_) (fun h108=>?_)))))))
 refine Zr J J J J (Zr J J J J (Zr J J J J (Zr J J J J (Zq J J (Zt J J (Zt J J (Zn (Za (wCondT J (Zh (Zi (Zzc ?_))))))))))))
 exact ⟨(),trivial,by unfold symX;rw [if_neg h20,if_neg hkb,if_neg hany,if_pos (by simp_all <;> omega)];rfl,Lh⟩
 refine Zq J J (Zz (n:=4) (m:=4) J J J (Zzf ?_))
 refine Zq J J (Zo J (Zq J J (Z2 J J (Zq J J (Zu J J (Zt J J (Zn (Za (wC (fun h114=>?_) (fun h114=>?_))))))))))
 refine Zh (Zi (Zzc ?_))
 exact ⟨(),trivial,by unfold symX;rw [if_neg h20,if_neg hkb,if_neg hany,if_pos (by simp_all <;> omega)];rfl,Lh⟩
 refine Zj (Za (Zh (Zh (Zi (Zz (n:=1) (m:=1) J J J (Zld ?_))))))
 refine Zo J (ZS (ZT 117) (fun h117=>?_) (fun h117=>?_))
 refine Zq J J (Zz (n:=4) (m:=4) J J J (Zzf ?_))
 refine Zq J J (Zy J J (Zt J J (Zn (Za (wC (fun h121=>?_) (fun h121=>?_))))))
 refine Zh (Zi (Zzc ?_))
 have hnd:¬ (x.fDef≠-1∧(x.fDef≠(aheadN x (o.fSymbols.take i):Int)∨(mostN o x:Int)≤x.fDef)):=by simp_all <;> omega
 exact ⟨(),trivial,by unfold symX;rw [if_neg h20,if_neg hkb,if_neg hany,if_neg hnd,if_pos (by simp_all <;> omega)];rfl,Lh⟩
 refine Zj (Zzy ?_)
 have hnd:¬ (x.fDef≠-1∧(x.fDef≠(aheadN x (o.fSymbols.take i):Int)∨(mostN o x:Int)≤x.fDef)):=by simp_all <;> omega
 exact ⟨(),trivial,by unfold symX;rw [if_neg h20,if_neg hkb,if_neg hany,if_neg hnd,if_neg (by simp_all <;> omega)];rfl,Lh⟩
 refine Zr J J J J (Zr J J J J (Zr J J J J (Zu J J (Zn (Za (wCondF J (Zj (Zzy ?_))))))))
 have hnd:¬ (x.fDef≠-1∧(x.fDef≠(aheadN x (o.fSymbols.take i):Int)∨(mostN o x:Int)≤x.fDef)):=by simp_all <;> omega
 exact ⟨(),trivial,by unfold symX;rw [if_neg h20,if_neg hkb,if_neg hany,if_neg hnd,if_neg (by simp_all <;> omega)];rfl,Lh⟩
 refine Zr J J J J (Zr J J J J (Zr J J J J (Zr J J J J (Zr J J J J (Zs J J J (Zs J J J (Zs J J J (Zs J J J (Zr J J J J (Zu J J (Zn (Za (wCondF J (Zj (Za (Zh (Zh (Zi (Zz (n:=1) (m:=1) J J J (Zld ?_))))))))))))))))))))
 refine Zo J (ZS (ZT 117) (fun h117=>?_) (fun h117=>?_))
 refine Zq J J (Zz (n:=4) (m:=4) J J J (Zzf ?_))
 refine Zq J J (Zy J J (Zt J J (Zn (Za (wC (fun h121=>?_) (fun h121=>?_))))))
 refine Zh (Zi (Zzc ?_))
 have hnd:¬ (x.fDef≠-1∧(x.fDef≠(aheadN x (o.fSymbols.take i):Int)∨(mostN o x:Int)≤x.fDef)):=by simp_all <;> omega
 exact ⟨(),trivial,by unfold symX;rw [if_neg h20,if_neg hkb,if_neg hany,if_neg hnd,if_pos (by simp_all <;> omega)];rfl,Lh⟩
 refine Zj (Zzy ?_)
 have hnd:¬ (x.fDef≠-1∧(x.fDef≠(aheadN x (o.fSymbols.take i):Int)∨(mostN o x:Int)≤x.fDef)):=by simp_all <;> omega
 exact ⟨(),trivial,by unfold symX;rw [if_neg h20,if_neg hkb,if_neg hany,if_neg hnd,if_neg (by simp_all <;> omega)];rfl,Lh⟩
 refine Zr J J J J (Zr J J J J (Zr J J J J (Zu J J (Zn (Za (wCondF J (Zj (Zzy ?_))))))))
 have hnd:¬ (x.fDef≠-1∧(x.fDef≠(aheadN x (o.fSymbols.take i):Int)∨(mostN o x:Int)≤x.fDef)):=by simp_all <;> omega
 exact ⟨(),trivial,by unfold symX;rw [if_neg h20,if_neg hkb,if_neg hany,if_neg hnd,if_neg (by simp_all <;> omega)];rfl,Lh⟩
def symsL (o:ApiObject):List Int:=(List.range o.fSymbols.length).map (symE o)
def dKind (o:ApiObject) (i:Nat):Int:=(o.fSymbols.getD (definerF o (i:Int)).toNat default).fKind
noncomputable def funE (o:ApiObject) (f:ApiFunc):Int:=if chkE f o.fSymbols≠0 then chkE f o.fSymbols else rangeF f
noncomputable def itemE (o:ApiObject) (i:Nat):Int:=
  if definerF o (i:Int)<0 then 13 else
  if o.fFuncs.length≤i then (if (o.fDatas.getD (i-o.fFuncs.length) default).fKind≠dKind o i then 14 else dataF (o.fDatas.getD (i-o.fFuncs.length) default) o.fSymbols) else
  if (o.fFuncs.getD i default).fClass≠dKind o i then 14 else funE o (o.fFuncs.getD i default)
noncomputable def itsL (o:ApiObject):List Int:=(List.range (o.fFuncs.length+o.fDatas.length)).map (itemE o)
def manyO (o:ApiObject):Prop:=32<o.fSymbols.length∨12<o.fFuncs.length∨8<o.fDatas.length
instance (o:ApiObject):Decidable (manyO o):=by unfold manyO;infer_instance
noncomputable def objE (o:ApiObject):Int:=if manyO o then 19 else if fstE (symsL o)≠0 then fstE (symsL o) else fstE (itsL o)
noncomputable def objI (o:ApiObject):Int:=if manyO o then -1 else if fstE (symsL o)≠0 then idxI non0 (symsL o) else idxI non0 (itsL o)
theorem definer_at {o:ApiObject}{item:Int}(h:0≤definerF o item):∃ (k:Nat) (x:ApiSymbol),definerF o item=(k:Int)∧o.fSymbols[k]?=some x∧definesF o item x=true:=idxI_at h
theorem ref19_item {B:Base}{w:World}(hS:St B [] w) (o:ApiObject) (oc:List Value) (ho:kApiObject.K B.e o oc) (hg:GoodO o) (i:Nat) (hi:i<o.fFuncs.length+o.fDatas.length) :
 CW 34 #[.agg oc.toArray,.int .i64 (i:Int)] w (Ret B (fun _:Unit=>True) (fun _=>.int .i64 (itemE o i)) (fun _=>[])):=by
 obtain ⟨A0,c0,A1,c1,A2,c2,rfl,m0,q0,m1,q1,m2,q2⟩:=kApiObject_open ho
 have hn0:=hg.syms
 have hn1:=hg.funcs
 have hn2:=hg.datas
 refine ZX Tryz.func34 hS ?_
 refine Zh (Zi (oBox J ZP (fun b2=>?_)))
 refine Zp J (Zn (Za (Zzs ?_)))
 refine Zo J ?_
 (refine ZC0 rfl ZK (fun w hS=>frame hS ZQ (fun B' hB hS'=>ref19_Definer hS' o _ (kApiObject.K_grow hB ho) hg (i:Int))) ?_;rintro ⟨⟩ -)
 refine Zp J (Zn (Za (Zh (Zh (Zi (Zo J (Zx J J (Zn (Za (wC (fun h14=>?_) (fun h14=>?_)))))))))))
 refine Zh (Zi (Zzc ?_))
 exact ⟨(),trivial,by unfold itemE;rw [if_pos h14];rfl,Lh⟩
 obtain ⟨k,x,hk,hx,-⟩:=definer_at (show 0≤definerF o (i:Int) by omega)
 have hkl:=(List.getElem?_eq_some_iff.1 hx).1
 obtain ⟨e1,cs1,hE⟩:=q0.elm hx
 obtain rfl:=kApiSymbol_open hE.K
 have hdk:dKind o i=x.fKind:=by unfold dKind;rw [hk,Int.toNat_natCast,List.getD_eq_getElem?_getD,hx];rfl
 refine Zj (Za (Zh (Zi (Zz (n:=0) (m:=0) J J J (Zld ?_)))))
 refine Zo rfl (ZS0 (t:=17) (v':=.int .i64 (k:Int)) rfl (by rw [hk]) ?_)
 refine oIdxE J J (hE) ZO J J ?_
 have hc18:=(hE).cell
 refine ZF (ZT 3) (ZT 3) ?_
 refine Zlx hc18 ?_
 refine Zp J (Zn (Za (Zh (Zh (Zi (Zo J (Zz (n:=1) (m:=1) J J J (Zld ?_))))))))
 refine Zv J J (Z2 J J (Zn (Za (wC (fun h25=>?_) (fun h25=>?_)))))
 have hif:o.fFuncs.length≤i:=by omega
 obtain ⟨d,hd⟩:∃ d,o.fDatas[i-o.fFuncs.length]?=some d:=⟨_,List.getElem?_eq_getElem ZO⟩
 obtain ⟨e2,cs2,hE2⟩:=q2.elm hd
 obtain ⟨D0,d0,D1,d1,rfl,n0,r0,n1,r1⟩:=kApiData_open hE2.K
 have hgd:=hg.data d (List.mem_of_getElem? hd)
 have hvd:=hg.v.2.2.2 d (List.mem_of_getElem? hd)
 have hdg:o.fDatas.getD (i-o.fFuncs.length) default=d:=by rw [List.getD_eq_getElem?_getD,hd];rfl
 refine Zh (Zi (Zz (n:=2) (m:=2) J J J (Zld ?_)))
 refine Zo J (Zz (n:=1) (m:=1) J J J (Zld ?_))
 refine Zv J J (oSub J J ZO ?_)
 refine ZS0 (t:=32) (v':=.int .i64 ((i-o.fFuncs.length:Nat):Int)) J (by congr 1;omega) ?_
 refine oIdxE J J (hE2) ZO J J ?_
 have hc33:=(hE2).cell
 refine Zlx hc33 ?_
 refine oAlloc J ZP (fun b7=>?_)
 refine Zsa ?_
 refine Zn (Za (Zh (Zh (Zi (Zz (n:=0) (m:=0) J J J (Zld ?_))))))
 refine Zo J (Z0 J J (Zn (Za (wC (fun h38=>?_) (fun h38=>?_)))))
 refine Zh (Zi (Zp J (Zn (Za (Zl (Zc (Zc (Zw (fi1 J ?_)))))))))
 exact ⟨(),trivial,by unfold itemE;rw [if_neg h14,if_pos hif,hdg,hdk,if_pos h38];rfl,Lh⟩
 refine Zj (Za (Zzs ?_))
 refine Zz (n:=0) (m:=0) J J J (Zld ?_)
 (refine ZC0 rfl ZK (fun w hS=>frame hS ZQ (fun B' hB hS'=>ref15_Check hS' d _ (kApiData_mk _ d n0 (Kd.C_grow hB r0) n1 (Kd.C_grow hB r1)) hvd.1 ZO A0 c0 o.fSymbols (Kd.C_grow hB q0))) ?_;rintro ⟨⟩ -)
 refine Zp J (Zzt ?_)
 exact ⟨(),trivial,by unfold itemE;rw [if_neg h14,if_pos hif,hdg,hdk,if_neg h38];rfl,Lh⟩
 have hif:¬ o.fFuncs.length≤i:=by omega
 obtain ⟨f,hf⟩:∃ f,o.fFuncs[i]?=some f:=⟨_,List.getElem?_eq_getElem ZO⟩
 obtain ⟨e3,cs3,hE3⟩:=q1.elm hf
 obtain ⟨F0,f0,F1,f1,F2,f2,F3,f3,rfl,n0,r0,n1,r1,n2,r2,n3,r3⟩:=kApiFunc_open hE3.K
 have hgf:=hg.fun_ f (List.mem_of_getElem? hf)
 have hvf:=hg.v.2.1.2 f (List.mem_of_getElem? hf)
 have hfg:o.fFuncs.getD i default=f:=by rw [List.getD_eq_getElem?_getD,hf];rfl
 refine Zj (Za (Zh (Zh (Zi (Zz (n:=1) (m:=1) J J J (Zld ?_))))))
 refine Zo J (oIdxE J J (hE3) ZO J J ?_)
 have hc46:=(hE3).cell
 refine ZF (ZT 0) (ZT 0) ?_
 refine Zlx hc46 ?_
 refine Zo J (Z0 J J (Zn (Za (wC (fun h50=>?_) (fun h50=>?_)))))
 refine Zh (Zi (Zzc ?_))
 exact ⟨(),trivial,by unfold itemE;rw [if_neg h14,if_neg hif,hfg,hdk,if_pos h50];rfl,Lh⟩
 refine Zj (Za (Zh (Zh (wDrawG J [0,1,2,3,4,5,6] [(7,[],[8,9,10,11])] [12] 24 ZK J J (fun w0=>?_)))))
 refine Zz (n:=1) (m:=1) J J J (Zld ?_)
 refine Zo J (oIdxE J J (hE3) ZO J J ?_)
 have hc55:=(hE3).cell
 refine Zlx hc55 ?_
 refine Zz (n:=0) (m:=0) J J J (Zld ?_)
 refine Z4 (Z5 J ?_)
 (refine ZC0 rfl ZK (fun w hS=>frame hS ZQ (fun B' hB hS'=>ref17_Check hS' f _ (kApiFunc_mk _ f n0 (Kd.C_grow hB r0) n1 (Kd.C_grow hB r1) n2 (Kd.C_grow hB r2) n3 (Kd.C_grow hB r3)) hvf.2.1.2 A0 c0 o.fSymbols (Kd.C_grow hB q0))) ?_;rintro ⟨⟩ -)
 refine ZG ?_ J (fun w0=>?_)
 exact AgainG.nil
 refine Zo J (oExt J ZP ?_)
 refine oExt J ZP ?_
 refine Zp J (Z6 (Zp J (Zn (Za (Zh (Zi (Zo J (Z0 J J (Zn (Za (wC (fun h63=>?_) (fun h63=>?_))))))))))))
 refine Zh (Zi (Zo J (Zzc ?_)))
 exact ⟨(),trivial,by unfold itemE funE;rw [if_neg h14,if_neg hif,hfg,hdk,if_neg h50,if_pos h63];rfl,Lh⟩
 refine Zj (Za (Zh (Zi (Zz (n:=1) (m:=1) J J J (Zld ?_)))))
 refine Zo J (oIdxE J J (hE3) ZO J J ?_)
 have hc68:=(hE3).cell
 refine Zlx hc68 ?_
 (refine ZC0 rfl ZK (fun w hS=>frame hS ZQ (fun B' hB hS'=>ref18_Check hS' f _ (kApiFunc_mk _ f n0 (Kd.C_grow hB r0) n1 (Kd.C_grow hB r1) n2 (Kd.C_grow hB r2) n3 (Kd.C_grow hB r3)) ZO)) ?_;rintro ⟨⟩ -)
 refine Zp J (Zzk ?_)
 exact ⟨(),trivial,by unfold itemE funE;rw [if_neg h14,if_neg hif,hfg,hdk,if_neg h50,if_neg h63];rfl,Lh⟩
theorem ref19_Check {B:Base}{w:World}(hS:St B [] w) (o:ApiObject) (oc:List Value) (ho:kApiObject.K B.e o oc) (hg:GoodO o) :
 CW 11 #[.agg oc.toArray] w (Ret B (fun _:Unit=>True) (fun _=>.tuple #[.int .i64 (objE o),.int .i64 (objI o)]) (fun _=>[])):=by
 obtain ⟨A0,c0,A1,c1,A2,c2,rfl,m0,q0,m1,q1,m2,q2⟩:=kApiObject_open ho
 have hn0:=hg.syms
 have hn1:=hg.funcs
 have hn2:=hg.datas
 have hit:itemsF o=(o.fFuncs.length:Int)+(o.fDatas.length:Int):=rfl
 refine ZX Tryz.func11 hS ?_
 refine Zh (Zi (oBox J ZP (fun b1=>?_)))
 refine Zp J (Zp J (Zn (Za (Zh (Zh (Zi (Zz (n:=0) (m:=0) J J J (Zld ?_))))))))
 refine Zv J J (Z1 J J (Zo J (ZS (ZT 12) (fun h12=>?_) (fun h12=>?_))))
 refine Zr J J J J (Zr J J J J (Zr J J J J (Zr J J J J (Zt J J (Zo J (Zr J J J J (Zr J J J J (Zr J J J J (Zr J J J J (Zt J J (Zn (Za (wCondT J (Zh (Zi (Zzo ?_))))))))))))))))
 refine ⟨rfl,_,(ResL.cons (ResR.tmp rfl) (ResL.cons (ResR.tmp rfl) ResL.nil)),?_⟩
 have hm:manyO o:=by unfold manyO;omega
 exact ⟨(),trivial,by unfold objE objI;rw [if_pos hm,if_pos hm];rfl,Lh⟩
 refine Zq J J (Zz (n:=1) (m:=1) J J J (Zzf ?_))
 refine Zq J J (Zv J J (Zq J J (Z1 J J (Zu J J (Zo J (ZS (ZT 18) (fun h18=>?_) (fun h18=>?_)))))))
 refine Zr J J J J (Zr J J J J (Zr J J J J (Zr J J J J (Zt J J (Zn (Za (wCondT J (Zh (Zi (Zzo ?_))))))))))
 refine ⟨rfl,_,(ResL.cons (ResR.tmp rfl) (ResL.cons (ResR.tmp rfl) ResL.nil)),?_⟩
 have hm:manyO o:=by unfold manyO;omega
 exact ⟨(),trivial,by unfold objE objI;rw [if_pos hm,if_pos hm];rfl,Lh⟩
 refine Zq J J (Zz (n:=2) (m:=2) J J J (Zzf ?_))
 refine Zq J J (Zv J J (Zq J J (Z1 J J (Zu J J (Zn (Za (wC (fun h23=>?_) (fun h23=>?_))))))))
 refine Zh (Zi (Zzo ?_))
 refine ⟨rfl,_,(ResL.cons (ResR.tmp rfl) (ResL.cons (ResR.tmp rfl) ResL.nil)),?_⟩
 have hm:manyO o:=by unfold manyO;omega
 exact ⟨(),trivial,by unfold objE objI;rw [if_pos hm,if_pos hm];rfl,Lh⟩
 have hm:¬ manyO o:=by unfold manyO;omega
 refine Zj (Za (Zh (Zh (Zi (Zp J (Zn (Za (Zk (wLoop (ι:=Nat) (fun i=>[(1,.pointer (some ⟨b1,0,none⟩)),(4,.int .i64 (i:Int))]) (fun i=>[blk b1 26 [.slice A0 o.fSymbols.length c0,.slice A1 o.fFuncs.length c1,.slice A2 o.fDatas.length c2]]) (fun i=>i≤o.fSymbols.length∧fstE ((symsL o).take i)=0∧∀ y ∈ (symsL o).take i,non0 y=false) (fun i=>o.fSymbols.length-i) 0 ?_ cv (Leads.has ZQ) ?_)))))))))
 exact ⟨Nat.zero_le _,rfl,by simp⟩
 rintro i ⟨hi,hs,hs2⟩
 try dsimp only
 refine Zh (Zh (Zi (Zo J (Zz (n:=0) (m:=0) J J J (Zld ?_)))))
 refine Zv J J (Zx J J (Zn (Za (wC (fun h28=>?_) (fun h28=>?_)))))
 have hxe:(symsL o)[i]?=some (symE o i):=rmap_at ZO
 refine Zj (Za (Zh (Zk (Zzs ?_))))
 refine Zo J ?_
 (refine ZC0 rfl ZK (fun w hS=>frame hS ZQ (fun B' hB hS'=>ref19_symbol hS' o _ (kApiObject.K_grow hB ho) hg i ZO)) ?_;rintro ⟨⟩ -)
 refine Zp J (Zn (Za (Zh (Zi (Zo J (Z0 J J (Zn (Za (wC (fun h35=>?_) (fun h35=>?_))))))))))
 refine Zh (Zi (Zo J (Zo J (Zp J (Zp J (Zn (Za (Zl (Zf (Zc (Zc (Zf (Zc (Zw ?_))))))))))))))
 refine ⟨rfl,_,(ResL.cons (ResR.tmp rfl) (ResL.cons (ResR.tmp rfl) ResL.nil)),?_⟩
 exact ⟨(),trivial,by have hfe:=fstE_stop hs hxe h35;unfold objE objI;rw [if_neg hm,if_neg hm,hfe,if_pos h35,if_pos h35,idxI_stop hs2 hxe (decide_eq_true h35)];rfl,Lh⟩
 refine Zj (Zze ?_)
 refine Zp J (Zn (Za ?_))
 exact ⟨rfl,i+1,⟨by omega,fstE_next hs hxe (Classical.not_not.1 h35),take_not hs2 hxe (decide_eq_false h35)⟩,by omega,cv,Lh⟩
 obtain rfl:i=o.fSymbols.length:=by omega
 have hfs:fstE (symsL o)=0:=by have:=hs;unfold symsL at this;rw [rmap_all] at this;exact this
 refine Zm (Zb (Zb (Ze (Za (Zh (Zh (Zi (Zp J (Zn (Za (Zk (wLoop (ι:=Nat) (fun i=>[(1,.pointer (some ⟨b1,0,none⟩)),(6,.int .i64 (i:Int))]) (fun i=>[blk b1 26 [.slice A0 o.fSymbols.length c0,.slice A1 o.fFuncs.length c1,.slice A2 o.fDatas.length c2]]) (fun i=>i≤o.fFuncs.length+o.fDatas.length∧fstE ((itsL o).take i)=0∧∀ y ∈ (itsL o).take i,non0 y=false) (fun i=>o.fFuncs.length+o.fDatas.length-i) 0 ?_ cv (Leads.has ZQ) ?_))))))))))))
 exact ⟨Nat.zero_le _,rfl,by simp⟩
 rintro i ⟨hi,hs,hs2⟩
 try dsimp only
 refine Zh (Zh (Zi (Zo J (Zla ?_))))
 (refine ZC0 rfl ZK (fun w hS=>frame hS ZQ (fun B' hB hS'=>ref19_Items hS' o _ (kApiObject.K_grow hB ho) hg)) ?_;rintro ⟨⟩ -)
 refine Zx J J (Zn (Za (wC (fun h41=>?_) (fun h41=>?_))))
 have hxe:(itsL o)[i]?=some (itemE o i):=rmap_at ZO
 refine Zj (Za (Zh (Zk (Zzs ?_))))
 refine Zo J ?_
 (refine ZC0 rfl ZK (fun w hS=>frame hS ZQ (fun B' hB hS'=>ref19_item hS' o _ (kApiObject.K_grow hB ho) hg i ZO)) ?_;rintro ⟨⟩ -)
 refine Zp J (Zn (Za (Zh (Zi (Zo J (Z0 J J (Zn (Za (wC (fun h48=>?_) (fun h48=>?_))))))))))
 refine Zh (Zi (Zo J (Zo J (Zp J (Zp J (Zn (Za (Zl (Zf (Zc (Zc (Zf (Zc (Zw ?_))))))))))))))
 refine ⟨rfl,_,(ResL.cons (ResR.tmp rfl) (ResL.cons (ResR.tmp rfl) ResL.nil)),?_⟩
 exact ⟨(),trivial,by have hfe:=fstE_stop hs hxe h48;unfold objE objI;rw [if_neg hm,if_neg hm,if_neg (by rw [hfs];simp),if_neg (by rw [hfs];simp),hfe,idxI_stop hs2 hxe (decide_eq_true h48)];rfl,Lh⟩
 refine Zj (Zze ?_)
 refine Zp J (Zn (Za ?_))
 exact ⟨rfl,i+1,⟨by omega,fstE_next hs hxe (Classical.not_not.1 h48),take_not hs2 hxe (decide_eq_false h48)⟩,by omega,cv,Lh⟩
 refine Zm (Zb (Zb (Ze (Za (Zh (Zi (Zp J (Zp J (Zn (Za (Zl (Zw ?_))))))))))))
 refine ⟨rfl,_,(ResL.cons (ResR.tmp rfl) (ResL.cons (ResR.tmp rfl) ResL.nil)),?_⟩
 obtain rfl:i=o.fFuncs.length+o.fDatas.length:=by omega
 unfold itsL at hs hs2
 rw [rmap_all] at hs hs2
 exact ⟨(),trivial,by unfold objE objI;rw [if_neg hm,if_neg hm,if_neg (by rw [hfs];simp),if_neg (by rw [hfs];simp)];unfold itsL;rw [hs,idxI_none hs2];rfl,Lh⟩
theorem ref16_FewA {B:Base}{w:World}(hS:St B [] w) (f:ApiFunc) (fc:List Value) (hf:kApiFunc.K B.e f fc) :
 CW 26 #[.agg fc.toArray] w (Ret B (fun r:Bool=>r=true→f.fKinds.length≤100∧f.fLines.length≤100∧f.fCode.length≤100∧f.fRelocs.length≤100) (fun r=>.bool r) (fun _=>[])):=by
 obtain ⟨A0,c0,A1,c1,A2,c2,A3,c3,rfl,l0,g0,l1,g1,l2,g2,l3,g3⟩:=kApiFunc_open hf
 refine ZX Tryz.func26 hS ?_
 refine Zh (Zi (oBox J ZP (fun b1=>?_)))
 refine Zp J (Zn (Za (Zh (Zi (Zz (n:=1) (m:=1) J J J (Zld ?_))))))
 refine Zv J J (oLeq J J (Zo J (ZS (ZT 7) (fun h7=>?_) (fun h7=>?_))))
 refine Zq J J (Zz (n:=6) (m:=6) J J J (Zzf ?_))
 refine Zq J J (Zv J J (Zq J J (oLeq J J (Zt J J (Zo J (ZS (ZT 13) (fun h13=>?_) (fun h13=>?_)))))))
 refine Zq J J (Zz (n:=7) (m:=7) J J J (Zzf ?_))
 refine Zq J J (Zv J J (Zq J J (oLeq J J (Zt J J (Zo J (ZS (ZT 19) (fun h19=>?_) (fun h19=>?_)))))))
 refine Zq J J (Zz (n:=8) (m:=8) J J J (Zzf ?_))
 refine Zq J J (Zv J J (Zq J J (oLeq J J (Zt J J (Zza ?_)))))
 exact ⟨_,(by intro h;first | focus (simp at h;done) | (have:=of_decide_eq_true h;omega)),rfl,Lh⟩
 refine Zr J J J J (Zr J J J J (Zzp ?_))
 exact ⟨_,(by intro h;first | focus (simp at h;done) | (have:=of_decide_eq_true h;omega)),rfl,Lh⟩
 refine Zr J J J J (Zr J J J J (Zr J J J J (Zr J J J J (Zu J J (Zo J (Zr J J J J (Zr J J J J (Zzp ?_))))))))
 exact ⟨_,(by intro h;first | focus (simp at h;done) | (have:=of_decide_eq_true h;omega)),rfl,Lh⟩
 refine Zr J J J J (Zr J J J J (Zr J J J J (Zr J J J J (Zu J J (Zo J (Zr J J J J (Zr J J J J (Zr J J J J (Zr J J J J (Zu J J (Zo J (Zr J J J J (Zr J J J J (Zzp ?_))))))))))))))
 exact ⟨_,(by intro h;first | focus (simp at h;done) | (have:=of_decide_eq_true h;omega)),rfl,Lh⟩
structure FewB (o:ApiObject):Prop where
  syms:o.fSymbols.length≤60
  funcs:o.fFuncs.length≤20
  datas:o.fDatas.length≤20
  fun_:∀ f ∈ o.fFuncs,f.fKinds.length≤100∧f.fLines.length≤100∧f.fCode.length≤100∧f.fRelocs.length≤100
  data:∀ d ∈ o.fDatas,d.fWords.length≤100∧d.fRelocs.length≤100
theorem take_all {α:Type}{P:α→Prop}{l:List α}{i:Nat}{x:α}(h:∀ y ∈ l.take i,P y) (hi:l[i]?=some x) (hp:P x):∀ y ∈ l.take (i+1),P y:=by
 intro y hy
 rw [List.take_add_one,hi] at hy
 rcases List.mem_append.1 hy with k | k
 · exact h y k
 · obtain rfl:y=x:=by simpa using k
   exact hp
abbrev fewF (f:ApiFunc):Prop:=f.fKinds.length≤100∧f.fLines.length≤100∧f.fCode.length≤100∧f.fRelocs.length≤100
abbrev fewD (d:ApiData):Prop:=d.fWords.length≤100∧d.fRelocs.length≤100
theorem ref19_Few {B:Base}{w:World}(hS:St B [] w) (o:ApiObject) (oc:List Value) (ho:kApiObject.K B.e o oc) :
 CW 8 #[.agg oc.toArray] w (Ret B (fun r:Bool=>r=true→FewB o) (fun r=>.bool r) (fun _=>[])):=by
 obtain ⟨A0,c0,A1,c1,A2,c2,rfl,m0,q0,m1,q1,m2,q2⟩:=kApiObject_open ho
 have hl0:=q0.1
 have hl1:=q1.1
 have hl2:=q2.1
 refine ZX Tryz.func8 hS ?_
 refine Zh (Zi (oBox J ZP (fun b1=>?_)))
 refine Zp J (Zn (Za (Zh (Zh (Zi (Zp J (Zn (Za (Zk (wLoop (ι:=Nat) (fun i=>[(1,.pointer (some ⟨b1,0,none⟩)),(3,.int .i64 (i:Int))]) (fun i=>[blk b1 26 [.slice A0 o.fSymbols.length c0,.slice A1 o.fFuncs.length c1,.slice A2 o.fDatas.length c2]]) (fun i=>i≤o.fSymbols.length) (fun i=>o.fSymbols.length-i) 0 ?_ cv (Leads.has ZQ) ?_))))))))))
 exact Nat.zero_le _
 rintro i hi
 try dsimp only
 refine Zh (Zh (Zi (Zo J (Zz (n:=0) (m:=0) J J J (Zld ?_)))))
 refine Zv J J (Zx J J (Zn (Za (wC (fun h10=>?_) (fun h10=>?_)))))
 obtain ⟨x,hx⟩:∃ x,o.fSymbols[i]?=some x:=⟨_,List.getElem?_eq_getElem ZO⟩
 obtain ⟨e1,cs1,hE⟩:=q0.elm hx
 obtain rfl:=kApiSymbol_open hE.K
 refine Zj (Za (Zh (Zk (Zh (Zi (Zz (n:=0) (m:=0) J J J (Zld ?_)))))))
 refine Zo J (oIdxE J J (hE) ZO J J ?_)
 have hc16:=(hE).cell
 refine ZF (ZT 0) (ZT 0) ?_
 refine Zlx hc16 ?_
 refine oLenStr J J (Z1 J J (Zn (Za (wC (fun h20=>?_) (fun h20=>?_)))))
 refine Zh (Zi (Zzb ?_))
 exact ⟨false,(by intro h;cases h),rfl,Lh⟩
 refine Zj (Zze ?_)
 refine Zp J (Zn (Za ?_))
 exact ⟨rfl,i+1,by omega,by omega,cv,Lh⟩
 refine Zm (Zb (Zb (Ze (Za (Zh (Zh (Zi (Zp J (Zn (Za (Zk (wLoop (ι:=Nat) (fun i=>[(1,.pointer (some ⟨b1,0,none⟩)),(4,.int .i64 (i:Int))]) (fun i=>[blk b1 26 [.slice A0 o.fSymbols.length c0,.slice A1 o.fFuncs.length c1,.slice A2 o.fDatas.length c2]]) (fun i=>i≤o.fFuncs.length∧i≤20∧∀ f ∈ o.fFuncs.take i,fewF f) (fun i=>o.fFuncs.length-i) 0 ?_ cv (Leads.has ZQ) ?_))))))))))))
 exact ⟨Nat.zero_le _,by omega,by simp⟩
 rintro i ⟨hi,hi2,hs⟩
 try dsimp only
 refine Zh (Zh (Zi (Zo J (Zz (n:=1) (m:=1) J J J (Zld ?_)))))
 refine Zv J J (Zx J J (Zn (Za (wC (fun h25=>?_) (fun h25=>?_)))))
 obtain ⟨f,hf⟩:∃ f,o.fFuncs[i]?=some f:=⟨_,List.getElem?_eq_getElem ZO⟩
 obtain ⟨e3,cs3,hE3⟩:=q1.elm hf
 obtain ⟨F0,f0,F1,f1,F2,f2,F3,f3,rfl,n0,r0,n1,r1,n2,r2,n3,r3⟩:=kApiFunc_open hE3.K
 refine Zj (Za (Zh (Zk (Zh (Zi (Zo J (Z2 J J (Zo J (ZS (ZT 30) (fun h30=>?_) (fun h30=>?_))))))))))
 refine Zr J J J J (Zr J J J J (Zr J J J J (Zr J J J J (Zr J J J J (Zr J J J J (Zr J J J J (Zt J J (Zn (Za (wCondT J (Zh (Zi (Zzb ?_)))))))))))))
 exact ⟨false,(by intro h;cases h),rfl,Lh⟩
 refine Zq J J (Zz (n:=1) (m:=1) J J J (Zzf ?_))
 refine Zq J J (Zo J (Zq J J (oIdxE J J (hE3) ZO J J ?_)))
 have hc34:=(hE3).cell
 refine Zq J J (Zlx hc34 ?_)
 refine Zq J J ?_
 (refine ZC0 rfl ZK (fun w hS=>frame hS ZQ (fun B' hB hS'=>ref16_FewA hS' f _ (kApiFunc_mk _ f n0 (Kd.C_grow hB r0) n1 (Kd.C_grow hB r1) n2 (Kd.C_grow hB r2) n3 (Kd.C_grow hB r3)))) ?_;rintro r36 h36)
 refine Zq J J (Zno ?_)
 refine Zu J J (Zn (Za (wC (fun h38=>?_) (fun h38=>?_))))
 refine Zh (Zi (Zzb ?_))
 exact ⟨false,(by intro h;cases h),rfl,Lh⟩
 refine Zj (Zze ?_)
 refine Zp J (Zn (Za ?_))
 exact ⟨rfl,i+1,⟨by omega,by omega,take_all hs hf (h36 (by simp_all))⟩,by omega,cv,Lh⟩
 obtain rfl:i=o.fFuncs.length:=by omega
 rw [List.take_length] at hs
 have hsF:=hs
 have hsN:=hi2
 refine Zm (Zb (Zb (Ze (Za (Zh (Zh (Zi (Zp J (Zn (Za (Zk (wLoop (ι:=Nat) (fun i=>[(1,.pointer (some ⟨b1,0,none⟩)),(5,.int .i64 (i:Int))]) (fun i=>[blk b1 26 [.slice A0 o.fSymbols.length c0,.slice A1 o.fFuncs.length c1,.slice A2 o.fDatas.length c2]]) (fun i=>i≤o.fDatas.length∧i≤20∧∀ f ∈ o.fDatas.take i,fewD f) (fun i=>o.fDatas.length-i) 0 ?_ cv (Leads.has ZQ) ?_))))))))))))
 exact ⟨Nat.zero_le _,by omega,by simp⟩
 rintro i ⟨hi,hi2,hs⟩
 try dsimp only
 refine Zh (Zh (Zi (Zo J (Zz (n:=2) (m:=2) J J J (Zld ?_)))))
 refine Zv J J (Zx J J (Zn (Za (wC (fun h43=>?_) (fun h43=>?_)))))
 obtain ⟨d,hd⟩:∃ d,o.fDatas[i]?=some d:=⟨_,List.getElem?_eq_getElem ZO⟩
 obtain ⟨e2,cs2,hE2⟩:=q2.elm hd
 obtain ⟨D0,d0,D1,d1,rfl,n0,r0,n1,r1⟩:=kApiData_open hE2.K
 refine Zj (Za (Zh (Zk (Zh (Zi (Zo J (Z2 J J (Zo J (ZS (ZT 48) (fun h48=>?_) (fun h48=>?_))))))))))
 refine Zr J J J J (Zr J J J J (Zr J J J J (Zr J J J J (Zr J J J J (Zr J J J J (Zr J J J J (Zt J J (Zn (Za (wCondT J (Zh (Zi (Zzb ?_)))))))))))))
 exact ⟨false,(by intro h;cases h),rfl,Lh⟩
 refine Zq J J (Zz (n:=2) (m:=2) J J J (Zzf ?_))
 refine Zq J J (Zo J (Zq J J (oIdxE J J (hE2) ZO J J ?_)))
 have hc52:=(hE2).cell
 refine Zq J J (Zlx hc52 ?_)
 refine Zq J J ?_
 (refine ZC0 rfl ZK (fun w hS=>frame hS ZQ (fun B' hB hS'=>ref15_Few hS' d _ (kApiData_mk _ d n0 (Kd.C_grow hB r0) n1 (Kd.C_grow hB r1)))) ?_;rintro r54 h54)
 refine Zq J J (Zno ?_)
 refine Zu J J (Zn (Za (wC (fun h56=>?_) (fun h56=>?_))))
 refine Zh (Zi (Zzb ?_))
 exact ⟨false,(by intro h;cases h),rfl,Lh⟩
 refine Zj (Zze ?_)
 refine Zp J (Zn (Za ?_))
 exact ⟨rfl,i+1,⟨by omega,by omega,take_all hs hd (h54 (by simp_all))⟩,by omega,cv,Lh⟩
 refine Zm (Zb (Zb (Ze (Za (Zh (Zi (Zz (n:=0) (m:=0) J J J (Zld ?_))))))))
 refine Zv J J (oLeq J J (Zza ?_))
 obtain rfl:i=o.fDatas.length:=by omega
 rw [List.take_length] at hs
 exact ⟨_,(by intro h;have:=of_decide_eq_true h;exact ⟨by omega,hsN,hi2,hsF,hs⟩),rfl,Lh⟩
end Go.Proofs.YtafiabekcekdbaaGreatW
namespace Go.Proofs.YtafiabekcekdbaaGreatK
open Go.RowKit

def stepL (F:Fence) (n:Nat) (P:Program) (ops:Array Oper) (Q:Exit→Act→World→Prop) (K:Act→World→Prop):List Oper→Act→World→Prop
  | [],a,w=>K a w
  | o :: rest,a,w=>
    if Region.wanted o (yielded ops a.tmps) then o.wpIn F n P a w (stepL F n P ops Q K rest) Q
    else (∀ f,o.about P w a.eval=some f→F.fn f)∧stepL F n P ops Q K rest (a.put o.dst undef) w
def Me.step (c:Cx) (ops:Array Oper) (Q:Post) (K:Act→World→Prop):Me c where
  X:=stepL c.F 0 c.P ops (lift c Q) K
  ops:=ops
  calm o rest a w v hw hp hr hK:=by
    simp only [stepL,hw,if_true]
    exact ⟨fun f _=>c.fn f,by rw [semAt_plain' _ _ _ hp,hr];exact hK⟩
  skip o rest a w hw hK:=by
    simp only [stepL,hw]
    exact ⟨fun f _=>c.fn f,hK⟩
  want dst op ty pos af g rest a w hw h:=by
    simp only [stepL] at h ⊢
    rw [if_pos hw]
    rw [if_pos (show Region.wanted { dst:=dst,op:=op,type:=ty,pos:=pos,after:=af,guard:=none } (yielded ops a.tmps)=true from rfl)] at h
    exact h
  eff o rest a w v w' hw hp hr hK:=by
    simp only [stepL]
    rw [if_pos (show Region.wanted o (yielded ops a.tmps)=true from hw)]
    exact ⟨fun f _=>c.fn f,by rw [semAt_plain' _ _ _ hp,hr];exact hK⟩
  effs o rest a w w' hw hp hr hK:=by
    simp only [stepL]
    rw [if_pos (show Region.wanted o (yielded ops a.tmps)=true from hw)]
    exact ⟨fun f _=>c.fn f,by rw [semAt_plain' _ _ _ hp,hr];exact hK⟩
  enter o rest a w g args w1 hw hp hr hK:=by
    simp only [stepL]
    rw [if_pos (show Region.wanted o (yielded ops a.tmps)=true from hw)]
    refine ⟨fun f _=>c.fn f,?_⟩
    rw [semAt_plain' _ _ _ hp,hr]
    refine ⟨fun h=>absurd h (by rw [c.dp];simp),(c.call hK).mono ?_⟩
    rintro e w2 ⟨v,rfl,hx⟩
    exact hx
def AN (c:Cx) (ops:Array Oper) (Q:Post) (f:Nat) (listed:Array Bool) (E:Env) (D:List Deferred) (H:List Res):Prop:=∀ a w,Ok c.N E D a→St c.B H w→wpAnyIn c.F 0 c.P .any ops (lift c Q) f listed a w
inductive AllN (c:Cx) (ops:Array Oper) (Q:Post) (f:Nat) (listed:Array Bool) (E:Env) (D:List Deferred) (H:List Res):List Nat→Prop
  | nil:AllN c ops Q f listed E D H []
  | cons {i:Nat}{o:Oper}{rs:List Nat}(ho:ops[i]?=some o) (h:O (Me.step c ops Q (wpAnyIn c.F 0 c.P .any ops (lift c Q) f (listed.setIfInBounds i true))).toMd [o] E D H) (k:AllN c ops Q f listed E D H rs):AllN c ops Q f listed E D H (i :: rs)
section
variable {c : Cx} {Q : Post} {ops : Array Oper} {E : Env} {D : List Deferred} {H : List Res} {f : Nat} {listed : Array Bool}
theorem AllN.get {rs:List Nat}(h:AllN c ops Q f listed E D H rs):∀ i ∈ rs,∀ a w,Ok c.N E D a→St c.B H w→wpOpIn c.F 0 c.P ops (lift c Q) i (wpAnyIn c.F 0 c.P .any ops (lift c Q) f (listed.setIfInBounds i true)) a w:=by
 induction h with
 | nil=>intro i hi;cases hi
 | @cons j o rs ho h k ih=>
  intro i hi a w ha hw
  rcases List.mem_cons.1 hi with rfl | hi
  · have:=h a w ha hw
    simp only [Me.step,stepL] at this
    unfold wpOpIn
    rw [ho]
    exact this
  · exact ih i hi a w ha hw
theorem anMk {i:Nat}{rs:List Nat}(hr:Region.ready .any ops listed=i :: rs) (h:AllN c ops Q f listed E D H (i :: rs)):AN c ops Q (f+1) listed E D H:=fun a w ha hw=>by
 refine ⟨fun h0=>?_,fun j hj=>?_⟩
 · rw [hr] at h0;cases h0
 · rw [hr] at hj;exact h.get j hj a w ha hw
theorem anNil (hr:Region.ready .any ops listed=[]) (h:Q .normal E D H):AN c ops Q 0 listed E D H:=fun a w ha hw=>⟨hr,E,D,H,ha,hw,h,trivial⟩
theorem oStepEnd {listed':Array Bool}(h:AN c ops Q f listed' E D H):O (Me.step c ops Q (wpAnyIn c.F 0 c.P .any ops (lift c Q) f listed')).toMd [] E D H:=fun a w ha hw=>h a w ha hw
theorem wDrawN (hm:c.P.follows .mixedOrders=true) {id:Nat}{l:List Oper}{n:Nat}(hn:l.length=n) (h:AN c l.toArray Q n (Array.replicate n false) E D H):W c (.region id l.toArray true) Q E D H:=fun a w ha hw=>by
 subst hn
 refine wpIn_region_any hm ?_
 exact h a w.drew ha hw.drew
end
def isSl (P:Program) (t:TypeId):Bool:=match P.underlying t with
  | some (.slice _)=>true
  | _=>false
theorem run_sliceEq {P:Program}{t:TypeId}(ht:isSl P t=true) (A:Option Addr) (n cp:Nat) (w:World):(Op.equal t (.slice A n cp) (.slice none 0 0)).run P w=.ok (decide (A=none)) w:=by
 unfold isSl at ht
 cases hu:P.underlying t with
 | none=>rw [hu] at ht;cases ht
 | some u=>
  rw [hu] at ht
  cases u <;> simp only [reduceCtorEq,Bool.false_eq_true] at ht
  simp only [Op.equal,Op.maxDepth]
  rw [Op.equalIn.eq_def]
  cases A <;> simp [run_underlying hu]
section
variable {c : Cx} {N : Md c} {M : Me c} {d : Nat} {ty t t' : TypeId} {pos : String} {af : Array Edge} {rest : List Oper} {E : Env} {D : List Deferred} {H H' : List Res} {x y : Operand}
theorem oEqlS {A:Option Addr}{n cp:Nat}(hx:E.op x=some (.slice A n cp)) (hy:E.op y=some (.slice none 0 0)) (ht:isSl c.P t=true) (h:O N rest ((d,.bool (decide (A=none))) :: E) D H) (hN:Nat.blt d c.N=true:=by rfl):O N (⟨some d,.binOp .eql t x y t',ty,pos,af,none⟩ :: rest) E D H:=
 oC _ rfl hN (fun a w ha hw=>by
  have h1:(eqGuard .eql t x y (.slice A n cp) (.slice none 0 0)).run c.P w=.ok () w:=by unfold eqGuard;simp
  have h2:(binOp .eql t (.slice A n cp) (.slice none 0 0)).run c.P w=.ok (.bool (decide (A=none))) w:=by simp [binOp,run_sliceEq ht]
  simp [execOp,ha.op hx,ha.op hy,h1,h2]) h
theorem oBuildSlice0 {α:Type}(kd:Kd α) (W:World) {e:TypeId}{s:Nat}(ht:elemT c.P t=some (e,s)) (h:∀ b,O M.toMd rest ((d,.slice (some ⟨b,0,none⟩) 0 0) :: E) D (row kd W e (.slice (some ⟨b,0,none⟩) 0 0) [] :: H)) (hN:Nat.blt d c.N=true:=by rfl):O M.toMd (⟨some d,.buildSlice t 0 #[],ty,pos,af,none⟩ :: rest) E D H:=
 oEff rfl hN fun a w ha hw=>by
  obtain ⟨ht1,inf,hi1,hs⟩:=run_elemT ht
  refine ⟨_,w.alloc (.cells #[] e),_,?_,?_,h w.heap.size⟩
  · simp [execOp,Instr.buildSlice,run_underlying ht1,sizeOf,typeInfo,hi1,hs,Instr.fill,newRow]
    rw [show Array.map (fun _=>(default:Value)) (Array.range 0)=#[] from Array.eq_empty_of_size_eq_zero (by simp)]
  · exact hw.add (Chg.alloc _ _ _) ⟨[], World.ownsRow_made w #[] 0 (Nat.zero_le _) (by decide) (by simp), rfl⟩ (fun k hk => by
     have hk:some w.heap.size=some k:=hk
     injection hk with hk;omega)
end
end Go.Proofs.YtafiabekcekdbaaGreatK
namespace Go.Proofs.YtafiabekcekdbaaGreatK
open Go.RowKit
def Z7:=@oStepEnd
def ZA:=@AllN.cons
def ZB:=@AllN.nil
def ZM:=@anMk
end Go.Proofs.YtafiabekcekdbaaGreatK
