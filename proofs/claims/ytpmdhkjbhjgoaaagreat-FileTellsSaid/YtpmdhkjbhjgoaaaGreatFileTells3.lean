/-
  Part 3 of the proof of FileTells: contracts of functions, and what follows from them; without conditions.
-/
import Derived.Test.YtpmdhkjbhjgoaaaGreatFileTells2
set_option linter.unusedVariables false
set_option linter.unusedSimpArgs false
set_option linter.defProp false
namespace Go.Proofs.YtpmdhkjbhjgoaaaGreatV
set_option maxRecDepth 100000
set_option maxHeartbeats 4000000
open Go.RowKit Go.Proofs.YtpmdhkjbhjgoaaaGreatK Go.Proofs.YtpmdhkjbhjgoaaaGreatT Go.Proofs.YtpmdhkjbhjgoaaaGreatL

theorem ref16_slots {B:Base}{w:World}(hS:St B [] w) (f:ApiFunc) (fc:List Value) (hf:kApiFunc.K B.e f fc) (hv:∀ y ∈ f.fKinds,in64 y) :
 CW 169 #[.agg fc.toArray] w (Ret B (fun _:Unit=>True) (fun _=>.int .i64 (slotsF f)) (fun _=>[])):=by
 obtain ⟨A0,c0,A1,c1,A2,c2,A3,c3,rfl,l0,g0,l1,g1,l2,g2,l3,g3⟩:=kApiFunc_open hf
 have hp:=parF_in f.fClass
 refine ZX Tryz.func169 hS ?_
 refine Zh (Zi (oBox J ZP (fun b1=>?_)))
 refine Zp J (Zn (Za (Zh (Zh (Zi (Zz (n:=0) (m:=0) J J J (Zld ?_)))))))
 (refine ZC0 rfl ZK (fun w hS=>frame hS ZQ (fun B' hB hS'=>ref5_Is hS' f.fClass)) ?_;rintro ⟨⟩ -)
 refine Zno ?_
 refine Zn (Za (wC (fun h7=>?_) (fun h7=>?_)))
 refine Zh (Zi (Zzb ?_))
 exact ⟨(),trivial,by unfold slotsF;rw [if_neg (by simpa using h7)];rfl,Lh⟩
 have hc:isC f.fClass=true:=by simpa using h7
 refine Zj (Za (Zh (Zh (Zi (Zz (n:=1) (m:=1) J J J (Zld ?_))))))
 refine Zv J J (Z1 J J (Zn (Za (wC (fun h11=>?_) (fun h11=>?_)))))
 refine Zh (Zi (Zzb ?_))
 exact ⟨(),trivial,by unfold slotsF;rw [if_pos hc,if_pos ZO];rfl,Lh⟩
 refine Zj (Za (Zh (Zh (wDrawG J [0,1,2,3,4] [(5,[0,1,2],[])] [6] 24 ZK J J (fun w0=>?_)))))
 refine Zz (n:=1) (m:=1) J J J (Zld ?_)
 refine Zv J J (Zz (n:=0) (m:=0) J J J (Zld ?_))
 refine Z4 (Z5 J ?_)
 (refine ZC0 rfl ZK (fun w hS=>frame hS ZQ (fun B' hB hS'=>ref5_Params hS' f.fClass)) ?_;rintro ⟨⟩ -)
 refine ZG ?_ J (fun w0=>?_)
 refine Z8 J J J J (fun w0=>?_) ?_
 refine Zz (n:=1) (m:=1) J J J ?_
 exact Z9 rfl
 refine Z8 J J J J (fun w0=>?_) ?_
 refine Zld ?_
 exact Z9 rfl
 refine Z8 J J J J (fun w0=>?_) ?_
 refine Zv J J ?_
 exact Z9 rfl
 exact AgainG.nil
 refine Z6 (Zx J J (Zn (Za (wC (fun h18=>?_) (fun h18=>?_)))))
 refine Zh (Zi (Zzb ?_))
 exact ⟨(),trivial,by unfold slotsF;rw [if_pos hc,if_neg ZO,if_pos ZO];rfl,Lh⟩
 have hk1:¬ 16<f.fKinds.length:=by omega
 have hk2:¬ (f.fKinds.length:Int)<parF f.fClass:=by omega
 refine Zj (Za (Zh (Zh (Zi (Zp J (Zn (Za (Zk (wLoop (ι:=Nat) (fun i=>[(1,.pointer (some ⟨b1,0,none⟩)),(3,.int .i64 (i:Int))]) (fun i=>[blk b1 51 [.int .i64 f.fClass,.slice A0 f.fKinds.length c0,.int .i64 f.fPad,.bool f.fNosplit,.int .i64 f.fFrom,.int .i64 f.fTo,.slice A1 f.fLines.length c1,.slice A2 f.fCode.length c2,.slice A3 f.fRelocs.length c3]]) (fun i=>i≤f.fKinds.length∧∀ j,j<i→kindBad (parF f.fClass) j (f.fKinds.getD j 0)=false) (fun i=>f.fKinds.length-i) 0 ?_ cv (Leads.has ZQ) ?_)))))))))
 exact ⟨Nat.zero_le _,fun j hj=>by omega⟩
 rintro i ⟨hi,hs⟩
 try dsimp only
 refine Zh (Zh (Zi (Zo J (Zz (n:=1) (m:=1) J J J (Zld ?_)))))
 refine Zv J J (Zx J J (Zn (Za (wC (fun h23=>?_) (fun h23=>?_)))))
 obtain ⟨x,hx⟩:∃ x,f.fKinds[i]?=some x:=⟨_,List.getElem?_eq_getElem ZO⟩
 obtain ⟨e1,cs1,hE⟩:=g0.elm hx
 obtain rfl:=hE.K
 refine Zj (Za (Zh (Zk (Zh (Zi (Zz (n:=1) (m:=1) J J J (Zld ?_)))))))
 refine Zo J (oIdxE J J (hE) ZO J J ?_)
 have hc29:=(hE).cell
 refine Zlx hc29 ?_
 (refine ZC0 rfl ZK (fun w hS=>frame hS ZQ (fun B' hB hS'=>ref5_Text hS' x (hv x (List.mem_of_getElem? hx)))) ?_;rintro ⟨⟩ -)
 refine oSEq J J (Zo J (ZS (ZT 33) (fun h33=>?_) (fun h33=>?_)))
 have h33:textF x=ByteArray.empty:=h33
 refine Zr J J J J (Zr J J J J (Zr J J J J (Zr J J J J (Zr J J J J (Zr J J J J (Zs J J J (Zs J J J (Zs J J J (Zs J J J (Zs J J J (Zs J J J (Zr J J J J (Zt J J (Zn (Za (wCondT J (Zh (Zi (Zzc ?_)))))))))))))))))))
 exact ⟨(),trivial,by unfold slotsF;rw [if_pos hc,if_neg hk1,if_neg hk2,if_pos (any_T (show i<f.fKinds.length by omega) (by rw [getDat hx];simp_all [kindBad]))];rfl,Lh⟩
 have h33:¬ textF x=ByteArray.empty:=h33
 refine Zq J J (Zo J (Zq J J (Zz (n:=0) (m:=0) J J J (Zzf ?_))))
 refine Zq J J ?_
 (refine ZC0 rfl ZK (fun w hS=>frame hS ZQ (fun B' hB hS'=>ref5_Params hS' f.fClass)) ?_;rintro ⟨⟩ -)
 refine Zq J J (Zx J J (Zq J J (Zo J (ZS (ZT 39) (fun h39=>?_) (fun h39=>?_)))))
 refine Zq J J (Zz (n:=1) (m:=1) J J J (Zzf ?_))
 refine Zq J J (Zo J (Zq J J (oIdxE J J (hE) ZO J J ?_)))
 have hc43:=(hE).cell
 refine Zq J J (Zlx hc43 ?_)
 refine Zq J J (Z0 J J (Zq J J (Zt J J (Zu J J (Zn (Za (wC (fun h47=>?_) (fun h47=>?_))))))))
 refine Zh (Zi (Zzc ?_))
 exact ⟨(),trivial,by unfold slotsF;rw [if_pos hc,if_neg hk1,if_neg hk2,if_pos (any_T (show i<f.fKinds.length by omega) (by rw [getDat hx];simp_all [kindBad]))];rfl,Lh⟩
 refine Zj (Zze ?_)
 refine Zp J (Zn (Za ?_))
 exact ⟨rfl,i+1,⟨by omega,fun j hj=>by
 by_cases e:j=i
 · subst e;rw [getDat hx];simp_all [kindBad] <;> omega
 · exact hs j ZO⟩,by omega,cv,Lh⟩
 refine Zr J J J J (Zr J J J J (Zr J J J J (Zr J J J J (Zr J J J J (Zr J J J J (Zq J J (Zu J J (Zu J J (Zn (Za (wCondF J (Zj (Zze ?_)))))))))))))
 refine Zp J (Zn (Za ?_))
 exact ⟨rfl,i+1,⟨by omega,fun j hj=>by
 by_cases e:j=i
 · subst e;rw [getDat hx];simp_all [kindBad] <;> omega
 · exact hs j ZO⟩,by omega,cv,Lh⟩
 refine Zm (Zzg ?_)
 obtain rfl:i=f.fKinds.length:=by omega
 exact ⟨(),trivial,by unfold slotsF;rw [if_pos hc,if_neg hk1,if_neg hk2,if_neg (by rw [any_F hs];simp)];rfl,Lh⟩
theorem ref16_code {B:Base}{w:World}(hS:St B [] w) (f:ApiFunc) (fc:List Value) (hf:kApiFunc.K B.e f fc) :
 CW 170 #[.agg fc.toArray] w (Ret B (fun _:Unit=>True) (fun _=>.int .i64 (codeF f)) (fun _=>[])):=by
 obtain ⟨A0,c0,A1,c1,A2,c2,A3,c3,rfl,l0,g0,l1,g1,l2,g2,l3,g3⟩:=kApiFunc_open hf
 have hcl:=g2.1
 refine ZX Tryz.func170 hS ?_
 refine Zh (Zi (oBox J ZP (fun b1=>?_)))
 refine Zp J (Zn (Za (Zh (Zh (Zi (Zz (n:=7) (m:=7) J J J (Zld ?_)))))))
 (refine ZC0 rfl ZK (fun w hS=>frame hS ZQ (fun B' hB hS'=>ref14_Check hS' A2 c2 f.fCode (Kd.C_grow hB g2))) ?_;rintro ⟨⟩ -)
 refine Zp J (Zn (Za (Zh (Zi (Zo J (Z0 J J (Zn (Za (wC (fun h10=>?_) (fun h10=>?_))))))))))
 refine Zh (Zi (Zo J (Zzb ?_)))
 exact ⟨(),trivial,by unfold codeF;rw [if_pos h10];rfl,Lh⟩
 refine Zj (Za (Zh (Zh (Zi (Zp J (Zn (Za (Zk (wLoop (ι:=Nat) (fun i=>[(1,.pointer (some ⟨b1,0,none⟩)),(4,.int .i64 (i:Int))]) (fun i=>[blk b1 51 [.int .i64 f.fClass,.slice A0 f.fKinds.length c0,.int .i64 f.fPad,.bool f.fNosplit,.int .i64 f.fFrom,.int .i64 f.fTo,.slice A1 f.fLines.length c1,.slice A2 f.fCode.length c2,.slice A3 f.fRelocs.length c3]]) (fun i=>i≤f.fCode.length∧fstE ((f.fCode.map ceF).take i)=0) (fun i=>f.fCode.length-i) 0 ?_ cv (Leads.has ZQ) ?_)))))))))
 exact ⟨Nat.zero_le _,rfl⟩
 rintro i ⟨hi,hs⟩
 try dsimp only
 refine Zh (Zh (Zi (Zo J (Zz (n:=7) (m:=7) J J J (Zld ?_)))))
 refine Zv J J (Zx J J (Zn (Za (wC (fun h16=>?_) (fun h16=>?_)))))
 obtain ⟨x,hx⟩:∃ x,f.fCode[i]?=some x:=⟨_,List.getElem?_eq_getElem ZO⟩
 have hxe:(f.fCode.map ceF)[i]?=some (ceF x):=by rw [List.getElem?_map,hx];rfl
 obtain ⟨e1,cs1,hE⟩:=g2.elm hx
 obtain rfl:=kApiInstr_open hE.K
 refine Zj (Za (Zh (Zk (Zh (Zh (Zi (Zz (n:=7) (m:=7) J J J (Zld ?_))))))))
 refine Zo J (oIdxE J J (hE) ZO J J ?_)
 have hc22:=(hE).cell
 refine Zlx hc22 ?_
 (refine ZC0 rfl ZK (fun w hS=>frame hS ZQ (fun B' hB hS'=>ref8_Check hS' x _ (kApiInstr_mk _ x))) ?_;rintro ⟨⟩ -)
 refine Zp J (Zn (Za (Zh (Zi (Zo J (Z0 J J (Zn (Za (wC (fun h26=>?_) (fun h26=>?_))))))))))
 refine Zh (Zi (Zo J (Zzl ?_)))
 exact ⟨(),trivial,by unfold codeF;rw [if_neg h10,fstE_stop hs hxe (by unfold ceF;rw [if_pos h26];exact h26)];unfold ceF;rw [if_pos h26];rfl,Lh⟩
 refine Zj (Za (Zh (Zi (Zz (n:=7) (m:=7) J J J (Zld ?_)))))
 refine Zo J (oIdxE J J (hE) ZO J J ?_)
 have hc31:=(hE).cell
 refine ZF (ZT 0) (ZT 0) ?_
 refine Zlx hc31 ?_
 (refine ZC0 rfl ZK (fun w hS=>frame hS ZQ (fun B' hB hS'=>ref7_Own hS' x.fOp)) ?_;rintro ⟨⟩ -)
 refine Zno ?_
 refine Zn (Za (wC (fun h35=>?_) (fun h35=>?_)))
 refine Zh (Zi (Zzc ?_))
 have hce:ceF x=8:=by unfold ceF;rw [if_neg h26,if_neg (by simpa using h35)]
 exact ⟨(),trivial,by unfold codeF;rw [if_neg h10,fstE_stop hs hxe (by rw [hce];decide),hce];rfl,Lh⟩
 refine Zj (Zze ?_)
 refine Zp J (Zn (Za ?_))
 exact ⟨rfl,i+1,⟨by omega,fstE_next hs hxe (by unfold ceF;rw [if_neg h26,if_pos (by simpa using h35)])⟩,by omega,cv,Lh⟩
 refine Zm (Zzg ?_)
 obtain rfl:i=f.fCode.length:=by omega
 rw [← List.length_map (f:=ceF),List.take_length] at hs
 exact ⟨(),trivial,by unfold codeF;rw [if_neg h10,hs];rfl,Lh⟩
theorem risF_iff {n:Int} : ∀ {last:Int}{l:List Int},risF n last l=true↔∀ j,j<l.length→(if j=0 then last else l.getD (j-1) 0)<l.getD j 0∧l.getD j 0<n
 | last,[]=>by simp [risF]
 | last,a :: l=>by
  unfold risF
  have ih:=risF_iff (n:=n) (last:=a) (l:=l)
  constructor
  · intro h
    split at h
    · cases h
    · next k=>
      have h2:=ih.1 h
      intro j hj
      cases j with
      | zero=>rw [if_pos rfl];show last<a∧a<n;omega
      | succ j=>
       have h3:=h2 j (by simpa using hj)
       rw [if_neg ZO]
       cases j with
       | zero=>rw [if_pos rfl] at h3;exact h3
       | succ j=>rw [if_neg ZO] at h3;exact h3
  · intro h
    have h0:=h 0 (by simp)
    rw [if_pos rfl] at h0
    have h0:last<a∧a<n:=h0
    rw [if_neg ZO]
    refine ih.2 (fun j hj=>?_)
    have h3:=h (j+1) (by simpa using hj)
    rw [if_neg ZO] at h3
    cases j with
    | zero=>rw [if_pos rfl];exact h3
    | succ j=>rw [if_neg ZO];exact h3
theorem ris_ge {n:Int}{l:List Int}(h:risF n (-1) l=true):∀ j,j<l.length→0≤l.getD j 0
 | 0,hj=>by have:=(risF_iff.1 h 0 hj).1;rw [if_pos rfl] at this;omega
 | j+1,hj=>by
  have h1:=ris_ge h j ZO
  have:=(risF_iff.1 h (j+1) hj).1
  rw [if_neg ZO] at this
  simp only [Nat.add_sub_cancel] at this
  omega
def atBad (n:Int) (l:List Int) (j:Nat):Prop:=l.getD j 0<0∨n≤l.getD j 0∨(0<j∧l.getD j 0≤l.getD (j-1) 0)
theorem ris_bad {n:Int}{l:List Int}{j:Nat}(hj:j<l.length) (h:atBad n l j):risF n (-1) l=false:=by
 rw [Bool.eq_false_iff]
 intro hr
 have h1:=risF_iff.1 hr j hj
 have h2:=ris_ge hr j hj
 rcases h with h | h | ⟨h,k⟩
 · omega
 · omega
 · rw [if_neg ZO] at h1;omega
theorem ris_good {n:Int}{l:List Int}(h:∀ j,j<l.length→¬ atBad n l j):risF n (-1) l=true:=by
 refine risF_iff.2 (fun j hj=>?_)
 have h1:=h j hj
 unfold atBad at h1
 by_cases k:j=0
 · rw [if_pos k];omega
 · rw [if_neg k];omega
abbrev atsL (f:ApiFunc):List Int:=f.fLines.map (·.fAt)
theorem map_getD {α:Type}{l:List α}{g:α→Int}{j:Nat}{x:α}(h:l[j]?=some x):(l.map g).getD j 0=g x:=by rw [List.getD_eq_getElem?_getD,List.getElem?_map,h];rfl
def lnBad (f:ApiFunc) (j:Nat):Prop:=(j=0∧(atsL f).getD 0 0≠0)∨atBad f.fCode.length (atsL f) j∨(f.fLines.map (·.fLine)).getD j 0<0∨65535<(f.fLines.map (·.fLine)).getD j 0
theorem lines_bad {f:ApiFunc}{j:Nat}(h16:¬ 16<f.fLines.length) (hj:j<f.fLines.length) (h:lnBad f j):linesF f=9:=by
 unfold linesF
 rw [if_neg h16]
 by_cases ha:f.fLines.any lineBad=true
 · rw [if_pos ha]
 · rw [if_neg ha]
   obtain ⟨x,hx⟩:∃ x,f.fLines[j]?=some x:=⟨_,List.getElem?_eq_getElem hj⟩
   rcases h with h | h | h
   · rw [if_pos (.inl h.2)]
   · rw [if_pos (.inr (ris_bad (by rw [List.length_map];exact hj) h))]
   · rw [map_getD hx] at h
     exact absurd (List.any_eq_true.2 ⟨x,List.mem_of_getElem? hx,decide_eq_true h⟩) ha
theorem lines_good {f:ApiFunc}(h16:¬ 16<f.fLines.length) (h:∀ j,j<f.fLines.length→¬ lnBad f j):linesF f=0:=by
 unfold linesF
 rw [if_neg h16,if_neg,if_neg]
 · rintro (k | k)
   · by_cases h0:0<f.fLines.length
     · exact h 0 h0 (.inl ⟨rfl,k⟩)
     · have:f.fLines=[]:=List.eq_nil_of_length_eq_zero ZO
       rw [this] at k;exact k rfl
   · rw [ris_good (fun j hj hb=>h j (by rw [List.length_map] at hj;exact hj) (.inr (.inl hb)))] at k;cases k
 · intro k
   obtain ⟨x,hx,hb⟩:=List.any_eq_true.1 k
   obtain ⟨j,hj⟩:=List.getElem?_of_mem hx
   have:=h j (List.getElem?_eq_some_iff.1 hj).1
   apply this
   refine .inr (.inr ?_)
   rw [map_getD hj]
   exact of_decide_eq_true hb
theorem ln_iff {f:ApiFunc}{i:Nat}{x pv:ApiLine}(hx:f.fLines[i]?=some x) (hp:0<i→f.fLines[i-1]?=some pv):lnBad f i↔(i=0∧x.fAt≠0)∨(x.fAt<0∨(f.fCode.length:Int)≤x.fAt∨(0<i∧x.fAt≤pv.fAt))∨x.fLine<0∨65535<x.fLine:=by
 unfold lnBad atBad
 have h1:(atsL f).getD i 0=x.fAt:=map_getD hx
 have h2:(f.fLines.map (·.fLine)).getD i 0=x.fLine:=map_getD hx
 rw [h1,h2]
 by_cases h0:0<i
 · have h3:(atsL f).getD (i-1) 0=pv.fAt:=map_getD (hp h0)
   have:¬ i=0:=by omega
   rw [h3]
   simp only [this,false_and]
 · obtain rfl:i=0:=by omega
   rw [h1]
   simp
theorem ref16_lines {B:Base}{w:World}(hS:St B [] w) (f:ApiFunc) (fc:List Value) (hf:kApiFunc.K B.e f fc) :
 CW 171 #[.agg fc.toArray] w (Ret B (fun _:Unit=>True) (fun _=>.int .i64 (linesF f)) (fun _=>[])):=by
 obtain ⟨A0,c0,A1,c1,A2,c2,A3,c3,rfl,l0,g0,l1,g1,l2,g2,l3,g3⟩:=kApiFunc_open hf
 have hcl:=g2.1
 refine ZX Tryz.func171 hS ?_
 refine Zh (Zi (oBox J ZP (fun b1=>?_)))
 refine Zp J (Zn (Za (Zh (Zh (Zi (Zz (n:=6) (m:=6) J J J (Zld ?_)))))))
 refine Zv J J (Z1 J J (Zn (Za (wC (fun h8=>?_) (fun h8=>?_)))))
 refine Zh (Zi (Zzb ?_))
 exact ⟨(),trivial,by unfold linesF;rw [if_pos ZO];rfl,Lh⟩
 have hk0:¬ 16<f.fLines.length:=by omega
 refine Zj (Za (Zh (Zh (Zi (Zp J (Zn (Za (Zk (wLoop (ι:=Nat) (fun i=>[(1,.pointer (some ⟨b1,0,none⟩)),(3,.int .i64 (i:Int))]) (fun i=>[blk b1 51 [.int .i64 f.fClass,.slice A0 f.fKinds.length c0,.int .i64 f.fPad,.bool f.fNosplit,.int .i64 f.fFrom,.int .i64 f.fTo,.slice A1 f.fLines.length c1,.slice A2 f.fCode.length c2,.slice A3 f.fRelocs.length c3]]) (fun i=>i≤f.fLines.length∧∀ j,j<i→¬ lnBad f j) (fun i=>f.fLines.length-i) 0 ?_ cv (Leads.has ZQ) ?_)))))))))
 exact ⟨Nat.zero_le _,fun j hj=>by omega⟩
 rintro i ⟨hi,hs⟩
 try dsimp only
 refine Zh (Zh (Zi (Zo J (Zz (n:=6) (m:=6) J J J (Zld ?_)))))
 refine Zv J J (Zx J J (Zn (Za (wC (fun h13=>?_) (fun h13=>?_)))))
 obtain ⟨x,hx⟩:∃ x,f.fLines[i]?=some x:=⟨_,List.getElem?_eq_getElem ZO⟩
 have hil:i<f.fLines.length:=by omega
 obtain ⟨e1,cs1,hE⟩:=g1.elm hx
 obtain rfl:=kApiLine_open hE.K
 obtain ⟨pv,hpv⟩:∃ y:ApiLine,0<i→f.fLines[i-1]?=some y:=by
  by_cases h0:0<i
  · exact ⟨_,fun _=>List.getElem?_eq_getElem (show i-1<f.fLines.length by omega)⟩
  · exact ⟨default,fun h=>absurd h h0⟩
 have hlb:lnBad f i↔(i=0∧x.fAt≠0)∨(x.fAt<0∨(f.fCode.length:Int)≤x.fAt∨(0<i∧x.fAt≤pv.fAt))∨x.fLine<0∨65535<x.fLine:=ln_iff hx hpv
 refine Zj (Za (Zh (Zk (Zh (Zi (Zz (n:=6) (m:=6) J J J (Zld ?_)))))))
 refine Zo J (oIdxE J J (hE) ZO J J ?_)
 have hc19:=(hE).cell
 refine Zlx hc19 ?_
 refine oAlloc J ZP (fun b4=>?_)
 refine Zsa ?_
 refine Zn (Za (Zh (wDraw2 J J [0] [1,2,3,4,5,6,7,8,9,10,11,12,13,14,15,16,17,18,19,20,21,22,23,24,25,26,27,28,29,30,31,32,33,34,35,36,37,38,39,40,41,42,43,44] 45 ZK J J J (fun w0=>?_))))
 refine Zy J J (Zo J (ZS (ZT 23) (fun h23=>?_) (fun h23=>?_)))
 refine Zq J J (Zz (n:=0) (m:=0) J J J (Zzf ?_))
 refine Zq J J (Z0 J J (Zt J J (Zo J (ZS (ZT 28) (fun h28=>?_) (fun h28=>?_)))))
 refine Zr J J J J (Zzy ?_)
 refine Zr J J J J (Zr J J J J (Zt J J (Zo J (Zr J J J J (Zr J J J J (Zr J J J J (oHead (Zt J J (oNilT (Za (wCondT J (Zh (Zi (Zzc ?_))))))))))))))
 exact ⟨(),trivial,by rw [lines_bad hk0 hil (hlb.2 (by simp_all <;> omega))];rfl,Lh⟩
 refine Zq J J (Zz (n:=0) (m:=0) J J J (Zzf ?_))
 refine Zq J J (Zx J J (Zu J J (Zo J (ZS (ZT 33) (fun h33=>?_) (fun h33=>?_)))))
 refine Zr J J J J (Zzo ?_)
 refine Zr J J J J (Zr J J J J (oHead (Zt J J (oNilT (Za (wCondT J (Zh (Zi (Zzc ?_)))))))))
 exact ⟨(),trivial,by rw [lines_bad hk0 hil (hlb.2 (by simp_all <;> omega))];rfl,Lh⟩
 refine Zq J J (Zz (n:=0) (m:=0) J J J (Zzf ?_))
 refine Zq J J (Zz (n:=7) (m:=7) J J J (Zzf ?_))
 refine Zq J J (Zv J J (Zq J J (Z2 J J (Zu J J (Zo J (ZS (ZT 41) (fun h41=>?_) (fun h41=>?_)))))))
 refine Zr J J J J (Zr J J J J (Zr J J J J (Zs J J J (Zs J J J (Zs J J J (Zs J J J (Zs J J J (Zs J J J (Zs J J J (Zs J J J (Zs J J J (Zs J J J (Zr J J J J (Zt J J (Zo J (Zr J J J J (Zr J J J J (Zr J J J J (Zt J J (Zo J (Zr J J J J (Zr J J J J (Zr J J J J (oHead (Zt J J (oNilT (Za (wCondT J (Zh ?_)))))))))))))))))))))))))))))
 refine Zi (Zzc ?_)
 exact ⟨(),trivial,by rw [lines_bad hk0 hil (hlb.2 (by simp_all <;> omega))];rfl,Lh⟩
 refine Zq J J (Zo J (Zq J J (Z1 J J (Zq J J (Zo J (ZS (ZT 44) (fun h44=>?_) (fun h44=>?_)))))))
 have hi0:0<i:=by omega
 obtain ⟨e2,cs2,hE2⟩:=g1.elm (hpv hi0)
 obtain rfl:=kApiLine_open hE2.K
 refine Zq J J (Zz (n:=0) (m:=0) J J J (Zzf ?_))
 refine Zq J J (Zz (n:=6) (m:=6) J J J (Zzf ?_))
 refine Zq J J (Zo J (Zq J J (oSub J J ZO ?_)))
 refine ZS0 (t:=50) (v':=.int .i64 ((i-1:Nat):Int)) J (by congr 1;omega) ?_
 refine Zq J J (oIdxE J J (hE2) ZO J J ?_)
 have hc51:=(hE2).cell
 refine Zq J J (ZF (ZT 0) (ZT 0) ?_)
 refine Zq J J (Zlx hc51 ?_)
 refine Zq J J (oLeq J J (Zq J J (Zt J J (Zu J J (Zo J (ZS (ZT 57) (fun h57=>?_) (fun h57=>?_)))))))
 refine Zr J J J J (Zr J J J J (Zr J J J J (Zt J J (Zo J (Zr J J J J (Zr J J J J (Zr J J J J (oHead (Zt J J (oNilT (Za (wCondT J (Zh (Zi (Zzc ?_)))))))))))))))
 exact ⟨(),trivial,by rw [lines_bad hk0 hil (hlb.2 (by simp_all <;> omega))];rfl,Lh⟩
 refine Zq J J (Zz (n:=1) (m:=1) J J J (Zzf ?_))
 refine Zq J J (Zx J J (Zu J J (Zo J (ZS (ZT 62) (fun h62=>?_) (fun h62=>?_)))))
 refine Zr J J J J (Zr J J J J (Zr J J J J (oHead (Zt J J (oNilT (Za (wCondT J (Zh (Zi (Zzc ?_))))))))))
 exact ⟨(),trivial,by rw [lines_bad hk0 hil (hlb.2 (by simp_all <;> omega))];rfl,Lh⟩
 refine Zq J J (Zz (n:=1) (m:=1) J J J (Zzf ?_))
 refine Zq J J (Z1 J J (oHead (Zu J J (oNilT (Za (wC (fun h66=>?_) (fun h66=>?_)))))))
 refine Zh (Zi (Zzc ?_))
 exact ⟨(),trivial,by rw [lines_bad hk0 hil (hlb.2 (by simp_all <;> omega))];rfl,Lh⟩
 refine Zj (Zze ?_)
 refine Zp J (Zn (Za ?_))
 exact ⟨rfl,i+1,⟨by omega,fun j hj=>by
 by_cases e:j=i
 · subst e;rw [hlb];simp_all <;> omega
 · exact hs j ZO⟩,by omega,cv,Lh⟩
 refine Zr J J J J (Zr J J J J (Zr J J J J (Zr J J J J (Zr J J J J (Zr J J J J (Zr J J J J (Zr J J J J (Zr J J J J (Zr J J J J (Zq J J (Zu J J (Zu J J (Zo J (Zq J J (Zz (n:=1) (m:=1) J J J (Zzf ?_))))))))))))))))
 refine Zq J J (Zx J J (Zu J J (Zo J (ZS (ZT 62) (fun h62=>?_) (fun h62=>?_)))))
 refine Zr J J J J (Zr J J J J (Zr J J J J (oHead (Zt J J (oNilT (Za (wCondT J (Zh (Zi (Zzc ?_))))))))))
 exact ⟨(),trivial,by rw [lines_bad hk0 hil (hlb.2 (by simp_all <;> omega))];rfl,Lh⟩
 refine Zq J J (Zz (n:=1) (m:=1) J J J (Zzf ?_))
 refine Zq J J (Z1 J J (oHead (Zu J J (oNilT (Za (wC (fun h66=>?_) (fun h66=>?_)))))))
 refine Zh (Zi (Zzc ?_))
 exact ⟨(),trivial,by rw [lines_bad hk0 hil (hlb.2 (by simp_all <;> omega))];rfl,Lh⟩
 refine Zj (Zze ?_)
 refine Zp J (Zn (Za ?_))
 exact ⟨rfl,i+1,⟨by omega,fun j hj=>by
 by_cases e:j=i
 · subst e;rw [hlb];simp_all <;> omega
 · exact hs j ZO⟩,by omega,cv,Lh⟩
 refine Zr J J J J (Zr J J J J (Zr J J J J (Zu J J (Zo J (Zq J J (Zz (n:=0) (m:=0) J J J (Zzf ?_)))))))
 refine Zq J J (Zx J J (Zu J J (Zo J (ZS (ZT 33) (fun h33=>?_) (fun h33=>?_)))))
 refine Zr J J J J (Zzo ?_)
 refine Zr J J J J (Zr J J J J (oHead (Zt J J (oNilT (Za (wCondT J (Zh (Zi (Zzc ?_)))))))))
 exact ⟨(),trivial,by rw [lines_bad hk0 hil (hlb.2 (by simp_all <;> omega))];rfl,Lh⟩
 refine Zq J J (Zz (n:=0) (m:=0) J J J (Zzf ?_))
 refine Zq J J (Zz (n:=7) (m:=7) J J J (Zzf ?_))
 refine Zq J J (Zv J J (Zq J J (Z2 J J (Zu J J (Zo J (ZS (ZT 41) (fun h41=>?_) (fun h41=>?_)))))))
 refine Zr J J J J (Zr J J J J (Zr J J J J (Zs J J J (Zs J J J (Zs J J J (Zs J J J (Zs J J J (Zs J J J (Zs J J J (Zs J J J (Zs J J J (Zs J J J (Zr J J J J (Zt J J (Zo J (Zr J J J J (Zr J J J J (Zr J J J J (Zt J J (Zo J (Zr J J J J (Zr J J J J (Zr J J J J (oHead (Zt J J (oNilT (Za (wCondT J (Zh ?_)))))))))))))))))))))))))))))
 refine Zi (Zzc ?_)
 exact ⟨(),trivial,by rw [lines_bad hk0 hil (hlb.2 (by simp_all <;> omega))];rfl,Lh⟩
 refine Zq J J (Zo J (Zq J J (Z1 J J (Zq J J (Zo J (ZS (ZT 44) (fun h44=>?_) (fun h44=>?_)))))))
 have hi0:0<i:=by omega
 obtain ⟨e2,cs2,hE2⟩:=g1.elm (hpv hi0)
 obtain rfl:=kApiLine_open hE2.K
 refine Zq J J (Zz (n:=0) (m:=0) J J J (Zzf ?_))
 refine Zq J J (Zz (n:=6) (m:=6) J J J (Zzf ?_))
 refine Zq J J (Zo J (Zq J J (oSub J J ZO ?_)))
 refine ZS0 (t:=50) (v':=.int .i64 ((i-1:Nat):Int)) J (by congr 1;omega) ?_
 refine Zq J J (oIdxE J J (hE2) ZO J J ?_)
 have hc51:=(hE2).cell
 refine Zq J J (ZF (ZT 0) (ZT 0) ?_)
 refine Zq J J (Zlx hc51 ?_)
 refine Zq J J (oLeq J J (Zq J J (Zt J J (Zu J J (Zo J (ZS (ZT 57) (fun h57=>?_) (fun h57=>?_)))))))
 refine Zr J J J J (Zr J J J J (Zr J J J J (Zt J J (Zo J (Zr J J J J (Zr J J J J (Zr J J J J (oHead (Zt J J (oNilT (Za (wCondT J (Zh (Zi (Zzc ?_)))))))))))))))
 exact ⟨(),trivial,by rw [lines_bad hk0 hil (hlb.2 (by simp_all <;> omega))];rfl,Lh⟩
 refine Zq J J (Zz (n:=1) (m:=1) J J J (Zzf ?_))
 refine Zq J J (Zx J J (Zu J J (Zo J (ZS (ZT 62) (fun h62=>?_) (fun h62=>?_)))))
 refine Zr J J J J (Zr J J J J (Zr J J J J (oHead (Zt J J (oNilT (Za (wCondT J (Zh (Zi (Zzc ?_))))))))))
 exact ⟨(),trivial,by rw [lines_bad hk0 hil (hlb.2 (by simp_all <;> omega))];rfl,Lh⟩
 refine Zq J J (Zz (n:=1) (m:=1) J J J (Zzf ?_))
 refine Zq J J (Z1 J J (oHead (Zu J J (oNilT (Za (wC (fun h66=>?_) (fun h66=>?_)))))))
 refine Zh (Zi (Zzc ?_))
 exact ⟨(),trivial,by rw [lines_bad hk0 hil (hlb.2 (by simp_all <;> omega))];rfl,Lh⟩
 refine Zj (Zze ?_)
 refine Zp J (Zn (Za ?_))
 exact ⟨rfl,i+1,⟨by omega,fun j hj=>by
 by_cases e:j=i
 · subst e;rw [hlb];simp_all <;> omega
 · exact hs j ZO⟩,by omega,cv,Lh⟩
 refine Zr J J J J (Zr J J J J (Zr J J J J (Zr J J J J (Zr J J J J (Zr J J J J (Zr J J J J (Zr J J J J (Zr J J J J (Zr J J J J (Zq J J (Zu J J (Zu J J (Zo J (Zq J J (Zz (n:=1) (m:=1) J J J (Zzf ?_))))))))))))))))
 refine Zq J J (Zx J J (Zu J J (Zo J (ZS (ZT 62) (fun h62=>?_) (fun h62=>?_)))))
 refine Zr J J J J (Zr J J J J (Zr J J J J (oHead (Zt J J (oNilT (Za (wCondT J (Zh (Zi (Zzc ?_))))))))))
 exact ⟨(),trivial,by rw [lines_bad hk0 hil (hlb.2 (by simp_all <;> omega))];rfl,Lh⟩
 refine Zq J J (Zz (n:=1) (m:=1) J J J (Zzf ?_))
 refine Zq J J (Z1 J J (oHead (Zu J J (oNilT (Za (wC (fun h66=>?_) (fun h66=>?_)))))))
 refine Zh (Zi (Zzc ?_))
 exact ⟨(),trivial,by rw [lines_bad hk0 hil (hlb.2 (by simp_all <;> omega))];rfl,Lh⟩
 refine Zj (Zze ?_)
 refine Zp J (Zn (Za ?_))
 exact ⟨rfl,i+1,⟨by omega,fun j hj=>by
 by_cases e:j=i
 · subst e;rw [hlb];simp_all <;> omega
 · exact hs j ZO⟩,by omega,cv,Lh⟩
 refine Zm (Zzg ?_)
 obtain rfl:i=f.fLines.length:=by omega
 exact ⟨(),trivial,by rw [lines_good hk0 hs];rfl,Lh⟩
def rlBad (f:ApiFunc) (j:Nat):Prop:=atBad f.fCode.length (f.fRelocs.map (·.fAt)) j∨(f.fRelocs.map (·.fSym)).getD j 0<0∨32≤(f.fRelocs.map (·.fSym)).getD j 0
theorem relocs_bad {f:ApiFunc}{j:Nat}(hj:j<f.fRelocs.length) (h:rlBad f j):relocsF f=11:=by
 unfold relocsF
 by_cases ha:f.fRelocs.any relBad=true
 · rw [if_pos ha]
 · rw [if_neg ha]
   obtain ⟨x,hx⟩:∃ x,f.fRelocs[j]?=some x:=⟨_,List.getElem?_eq_getElem hj⟩
   rcases h with h | h
   · rw [ris_bad (by rw [List.length_map];exact hj) h];rfl
   · rw [map_getD hx] at h
     exact absurd (List.any_eq_true.2 ⟨x,List.mem_of_getElem? hx,decide_eq_true h⟩) ha
theorem relocs_good {f:ApiFunc}(h:∀ j,j<f.fRelocs.length→¬ rlBad f j):relocsF f=0:=by
 unfold relocsF
 rw [if_neg,ris_good (fun j hj hb=>h j (by rw [List.length_map] at hj;exact hj) (.inl hb)),if_pos rfl]
 intro k
 obtain ⟨x,hx,hb⟩:=List.any_eq_true.1 k
 obtain ⟨j,hj⟩:=List.getElem?_of_mem hx
 refine h j (List.getElem?_eq_some_iff.1 hj).1 (.inr ?_)
 rw [map_getD hj]
 exact of_decide_eq_true hb
theorem rl_iff {f:ApiFunc}{i:Nat}{x pv:ApiReloc}(hx:f.fRelocs[i]?=some x) (hp:0<i→f.fRelocs[i-1]?=some pv):rlBad f i↔(x.fAt<0∨(f.fCode.length:Int)≤x.fAt∨(0<i∧x.fAt≤pv.fAt))∨x.fSym<0∨32≤x.fSym:=by
 unfold rlBad atBad
 have h1:(f.fRelocs.map (·.fAt)).getD i 0=x.fAt:=map_getD hx
 have h2:(f.fRelocs.map (·.fSym)).getD i 0=x.fSym:=map_getD hx
 rw [h1,h2]
 by_cases h0:0<i
 · have h3:(f.fRelocs.map (·.fAt)).getD (i-1) 0=pv.fAt:=map_getD (hp h0)
   rw [h3]
 · obtain rfl:i=0:=by omega
   simp
theorem ref16_Check {B:Base}{w:World}(hS:St B [] w) (f:ApiFunc) (fc:List Value) (hf:kApiFunc.K B.e f fc) (hv:∀ y ∈ f.fKinds,in64 y) :
 CW 140 #[.agg fc.toArray] w (Ret B (fun _:Unit=>True) (fun _=>.int .i64 (funF f)) (fun _=>[])):=by
 obtain ⟨A0,c0,A1,c1,A2,c2,A3,c3,rfl,l0,g0,l1,g1,l2,g2,l3,g3⟩:=kApiFunc_open hf
 have hrl:=g3.1
 refine ZX Tryz.func140 hS ?_
 refine Zh (Zi (oBox J ZP (fun b1=>?_)))
 refine Zp J (Zn (Zzw ?_))
 (refine ZC0 rfl ZK (fun w hS=>frame hS ZQ (fun B' hB hS'=>ref16_slots hS' f _ (kApiFunc.K_grow hB hf) hv)) ?_;rintro ⟨⟩ -)
 refine Zp J (Zn (Za (Zh (Zi (Zo J (Z0 J J (Zn (Za (wC (fun h11=>?_) (fun h11=>?_))))))))))
 refine Zh (Zi (Zo J (Zzb ?_)))
 exact ⟨(),trivial,by unfold funF;rw [if_pos h11];rfl,Lh⟩
 refine Zj (Za (Zh (Zh (Zi (Zz (n:=2) (m:=2) J J J (Zld ?_))))))
 refine Zx J J (Zo J (ZS (ZT 16) (fun h16=>?_) (fun h16=>?_)))
 refine Zr J J J J (Zr J J J J (Zr J J J J (Zt J J (Zn (Za (wCondT J (ZzF ?_)))))))
 exact ⟨(),trivial,by unfold funF;rw [if_neg h11,if_pos ZO];rfl,Lh⟩
 refine Zq J J (Zz (n:=2) (m:=2) J J J (Zzf ?_))
 refine Zq J J (Z1 J J (Zu J J (Zn (Za (wC (fun h20=>?_) (fun h20=>?_))))))
 refine Zh (Zi (Zzb ?_))
 exact ⟨(),trivial,by unfold funF;rw [if_neg h11,if_pos ZO];rfl,Lh⟩
 refine Zj (Zzw ?_)
 (refine ZC0 rfl ZK (fun w hS=>frame hS ZQ (fun B' hB hS'=>ref16_code hS' f _ (kApiFunc.K_grow hB hf))) ?_;rintro ⟨⟩ -)
 refine Zp J (Zn (Za (Zh (Zi (Zo J (Z0 J J (Zn (Za (wC (fun h24=>?_) (fun h24=>?_))))))))))
 refine Zh (Zi (Zo J (Zzb ?_)))
 exact ⟨(),trivial,by unfold funF;rw [if_neg h11,if_neg ZO,if_pos h24];rfl,Lh⟩
 refine Zj (Za (Zh (Zh (Zi (Zz (n:=4) (m:=4) J J J (Zld ?_))))))
 refine Zx J J (Zo J (ZS (ZT 29) (fun h29=>?_) (fun h29=>?_)))
 refine Zr J J J J (Zr J J J J (Zr J J J J (Zr J J J J (Zr J J J J (Zt J J (Zo J (Zr J J J J (Zr J J J J (Zr J J J J (Zr J J J J (Zr J J J J (Zr J J J J (Zt J J (Zn (Za (wCondT J (ZzF ?_)))))))))))))))))
 exact ⟨(),trivial,by unfold funF;rw [if_neg h11,if_neg ZO,if_neg h24,if_pos ZO];rfl,Lh⟩
 refine Zq J J (Zz (n:=5) (m:=5) J J J (Zzf ?_))
 refine Zq J J (Zz (n:=4) (m:=4) J J J (Zzf ?_))
 refine Zq J J (Zx J J (Zu J J (Zo J (ZS (ZT 36) (fun h36=>?_) (fun h36=>?_)))))
 refine Zr J J J J (Zr J J J J (Zr J J J J (Zr J J J J (Zr J J J J (Zr J J J J (Zt J J (Zn (Za (wCondT J (ZzF ?_))))))))))
 exact ⟨(),trivial,by unfold funF;rw [if_neg h11,if_neg ZO,if_neg h24,if_pos ZO];rfl,Lh⟩
 refine Zq J J (Zz (n:=5) (m:=5) J J J (Zzf ?_))
 refine Zq J J (Zz (n:=7) (m:=7) J J J (Zzf ?_))
 refine Zq J J (Zv J J (Zq J J (Z1 J J (Zu J J (Zn (Za (wC (fun h43=>?_) (fun h43=>?_))))))))
 refine Zh (Zi (Zzb ?_))
 exact ⟨(),trivial,by unfold funF;rw [if_neg h11,if_neg ZO,if_neg h24,if_pos ZO];rfl,Lh⟩
 refine Zj (Zzw ?_)
 (refine ZC0 rfl ZK (fun w hS=>frame hS ZQ (fun B' hB hS'=>ref16_lines hS' f _ (kApiFunc.K_grow hB hf))) ?_;rintro ⟨⟩ -)
 refine Zp J (Zn (Za (Zh (Zi (Zo J (Z0 J J (Zn (Za (wC (fun h47=>?_) (fun h47=>?_))))))))))
 refine Zh (Zi (Zo J (Zzb ?_)))
 exact ⟨(),trivial,by unfold funF;rw [if_neg h11,if_neg ZO,if_neg h24,if_neg ZO,if_pos h47];rfl,Lh⟩
 have hfr:funF f=relocsF f:=by unfold funF;rw [if_neg h11,if_neg ZO,if_neg h24,if_neg ZO,if_neg h47]
 refine Zj (Za (Zh (Zh (Zi (Zp J (Zn (Za (Zk (wLoop (ι:=Nat) (fun i=>[(1,.pointer (some ⟨b1,0,none⟩)),(6,.int .i64 (i:Int))]) (fun i=>[blk b1 51 [.int .i64 f.fClass,.slice A0 f.fKinds.length c0,.int .i64 f.fPad,.bool f.fNosplit,.int .i64 f.fFrom,.int .i64 f.fTo,.slice A1 f.fLines.length c1,.slice A2 f.fCode.length c2,.slice A3 f.fRelocs.length c3]]) (fun i=>i≤f.fRelocs.length∧∀ j,j<i→¬ rlBad f j) (fun i=>f.fRelocs.length-i) 0 ?_ cv (Leads.has ZQ) ?_)))))))))
 exact ⟨Nat.zero_le _,fun j hj=>by omega⟩
 rintro i ⟨hi,hs⟩
 try dsimp only
 refine Zh (Zh (Zi (Zo J (Zz (n:=8) (m:=8) J J J (Zld ?_)))))
 refine Zv J J (Zx J J (Zn (Za (wC (fun h53=>?_) (fun h53=>?_)))))
 obtain ⟨x,hx⟩:∃ x,f.fRelocs[i]?=some x:=⟨_,List.getElem?_eq_getElem ZO⟩
 have hil:i<f.fRelocs.length:=by omega
 obtain ⟨e1,cs1,hE⟩:=g3.elm hx
 obtain rfl:=kApiReloc_open hE.K
 obtain ⟨pv,hpv⟩:∃ y:ApiReloc,0<i→f.fRelocs[i-1]?=some y:=by
  by_cases h0:0<i
  · exact ⟨_,fun _=>List.getElem?_eq_getElem (show i-1<f.fRelocs.length by omega)⟩
  · exact ⟨default,fun h=>absurd h h0⟩
 have hlb:rlBad f i↔(x.fAt<0∨(f.fCode.length:Int)≤x.fAt∨(0<i∧x.fAt≤pv.fAt))∨x.fSym<0∨32≤x.fSym:=rl_iff hx hpv
 refine Zj (Za (Zh (Zk (Zh (Zi (Zz (n:=8) (m:=8) J J J (Zld ?_)))))))
 refine Zo J (oIdxE J J (hE) ZO J J ?_)
 have hc59:=(hE).cell
 refine ZF (ZT 0) (ZT 0) ?_
 refine Zlx hc59 ?_
 refine Zp J (Zn (Za (Zh (Zi (Zo J (Zx J J (Zo J (ZS (ZT 64) (fun h64=>?_) (fun h64=>?_)))))))))
 refine Zr J J J J (Zr J J J J (Zr J J J J (Zr J J J J (Zr J J J J (Zt J J (Zo J (Zr J J J J (Zr J J J J (Zr J J J J (Zs J J J (Zs J J J (Zs J J J (Zs J J J (Zs J J J (Zs J J J (Zs J J J (Zs J J J (Zs J J J (Zr J J J J (Zt J J (Zo J (Zr J J J J (Zr J J J J (Zr J J J J (Zr J J J J (Zr J J J J (Zr J J J J (Zr J J J J (Zt J J ?_)))))))))))))))))))))))))))))
 refine Zo J (Zr J J J J (Zr J J J J (Zr J J J J (Zr J J J J (Zr J J J J (Zr J J J J (Zr J J J J (Zt J J (Zn (Za (wCondT J (Zh (Zi (Zzc ?_))))))))))))))
 exact ⟨(),trivial,by rw [hfr,relocs_bad hil (hlb.2 (by simp_all <;> omega))];rfl,Lh⟩
 refine Zq J J (Zo J (Zq J J (Zz (n:=7) (m:=7) J J J (Zzf ?_))))
 refine Zq J J (Zv J J (Zq J J (Z2 J J (Zu J J (Zo J (ZS (ZT 71) (fun h71=>?_) (fun h71=>?_)))))))
 refine Zr J J J J (Zr J J J J (Zr J J J J (Zs J J J (Zs J J J (Zs J J J (Zs J J J (Zs J J J (Zs J J J (Zs J J J (Zs J J J (Zs J J J (Zr J J J J (Zt J J (Zo J (Zr J J J J (Zr J J J J (Zr J J J J (Zr J J J J (Zr J J J J (Zr J J J J (Zr J J J J (Zt J J (Zo J (Zr J J J J (Zr J J J J (Zr J J J J (Zr J J J J (Zr J J J J (Zr J J J J ?_)))))))))))))))))))))))))))))
 refine Zr J J J J (Zt J J (Zn (Za (wCondT J (Zh (Zi (Zzc ?_)))))))
 exact ⟨(),trivial,by rw [hfr,relocs_bad hil (hlb.2 (by simp_all <;> omega))];rfl,Lh⟩
 refine Zq J J (Zo J (Zq J J (Z1 J J (Zq J J (Zo J (ZS (ZT 74) (fun h74=>?_) (fun h74=>?_)))))))
 have hi0:0<i:=by omega
 obtain ⟨e2,cs2,hE2⟩:=g3.elm (hpv hi0)
 obtain rfl:=kApiReloc_open hE2.K
 refine Zq J J (Zo J (Zq J J (Zz (n:=8) (m:=8) J J J (Zzf ?_))))
 refine Zq J J (Zo J (Zq J J (oSub J J ZO ?_)))
 refine ZS0 (t:=79) (v':=.int .i64 ((i-1:Nat):Int)) J (by congr 1;omega) ?_
 refine Zq J J (oIdxE J J (hE2) ZO J J ?_)
 have hc80:=(hE2).cell
 refine Zq J J (ZF (ZT 0) (ZT 0) ?_)
 refine Zq J J (Zlx hc80 ?_)
 refine Zq J J (oLeq J J (Zq J J (Zt J J (Zu J J (Zo J (ZS (ZT 86) (fun h86=>?_) (fun h86=>?_)))))))
 refine Zr J J J J (Zr J J J J (Zr J J J J (Zr J J J J (Zr J J J J (Zr J J J J (Zr J J J J (Zt J J (Zo J (Zr J J J J (Zr J J J J (Zr J J J J (Zr J J J J (Zr J J J J (Zr J J J J (Zr J J J J (Zt J J (Zn (Za (wCondT J (Zh (Zi (Zp J (Zn (Za (Zl (Zf (Zc (Zc (Zf ?_)))))))))))))))))))))))))))))
 refine Zc (Zw (fi1 J ?_))
 exact ⟨(),trivial,by rw [hfr,relocs_bad hil (hlb.2 (by simp_all <;> omega))];rfl,Lh⟩
 refine Zq J J (Zz (n:=8) (m:=8) J J J (Zzf ?_))
 refine Zq J J (Zo J (Zq J J (oIdxE J J (hE) ZO J J ?_)))
 have hc90:=(hE).cell
 refine Zq J J (ZF (ZT 1) (ZT 1) ?_)
 refine Zq J J (Zlx hc90 ?_)
 refine Zq J J (Zx J J (Zu J J (Zo J (ZS (ZT 95) (fun h95=>?_) (fun h95=>?_)))))
 refine Zr J J J J (Zr J J J J (Zr J J J J (Zr J J J J (Zr J J J J (Zr J J J J (Zr J J J J (Zt J J (Zn (Za (wCondT J (Zh (Zi (Zzc ?_)))))))))))))
 exact ⟨(),trivial,by rw [hfr,relocs_bad hil (hlb.2 (by simp_all <;> omega))];rfl,Lh⟩
 refine Zq J J (Zz (n:=8) (m:=8) J J J (Zzf ?_))
 refine Zq J J (Zo J (Zq J J (oIdxE J J (hE) ZO J J ?_)))
 have hc99:=(hE).cell
 refine Zq J J (ZF (ZT 1) (ZT 1) ?_)
 refine Zq J J (Zlx hc99 ?_)
 refine Zq J J (Z2 J J (Zu J J (Zn (Za (wC (fun h103=>?_) (fun h103=>?_))))))
 refine Zh (Zi (Zzc ?_))
 exact ⟨(),trivial,by rw [hfr,relocs_bad hil (hlb.2 (by simp_all <;> omega))];rfl,Lh⟩
 refine Zj (Zze ?_)
 refine Zp J (Zn (Za ?_))
 exact ⟨rfl,i+1,⟨by omega,fun j hj=>by
 by_cases e:j=i
 · subst e;rw [hlb];simp_all <;> omega
 · exact hs j ZO⟩,by omega,cv,Lh⟩
 refine Zr J J J J (Zr J J J J (Zr J J J J (Zr J J J J (Zr J J J J (Zr J J J J (Zr J J J J (Zr J J J J (Zr J J J J (Zq J J (Zu J J (Zu J J (Zo J (Zq J J (Zz (n:=8) (m:=8) J J J (Zzf ?_)))))))))))))))
 refine Zq J J (Zo J (Zq J J (oIdxE J J (hE) ZO J J ?_)))
 have hc90:=(hE).cell
 refine Zq J J (ZF (ZT 1) (ZT 1) ?_)
 refine Zq J J (Zlx hc90 ?_)
 refine Zq J J (Zx J J (Zu J J (Zo J (ZS (ZT 95) (fun h95=>?_) (fun h95=>?_)))))
 refine Zr J J J J (Zr J J J J (Zr J J J J (Zr J J J J (Zr J J J J (Zr J J J J (Zr J J J J (Zt J J (Zn (Za (wCondT J (Zh (Zi (Zzc ?_)))))))))))))
 exact ⟨(),trivial,by rw [hfr,relocs_bad hil (hlb.2 (by simp_all <;> omega))];rfl,Lh⟩
 refine Zq J J (Zz (n:=8) (m:=8) J J J (Zzf ?_))
 refine Zq J J (Zo J (Zq J J (oIdxE J J (hE) ZO J J ?_)))
 have hc99:=(hE).cell
 refine Zq J J (ZF (ZT 1) (ZT 1) ?_)
 refine Zq J J (Zlx hc99 ?_)
 refine Zq J J (Z2 J J (Zu J J (Zn (Za (wC (fun h103=>?_) (fun h103=>?_))))))
 refine Zh (Zi (Zzc ?_))
 exact ⟨(),trivial,by rw [hfr,relocs_bad hil (hlb.2 (by simp_all <;> omega))];rfl,Lh⟩
 refine Zj (Zze ?_)
 refine Zp J (Zn (Za ?_))
 exact ⟨rfl,i+1,⟨by omega,fun j hj=>by
 by_cases e:j=i
 · subst e;rw [hlb];simp_all <;> omega
 · exact hs j ZO⟩,by omega,cv,Lh⟩
 refine Zm (Zzg ?_)
 obtain rfl:i=f.fRelocs.length:=by omega
 exact ⟨(),trivial,by rw [hfr,relocs_good hs];rfl,Lh⟩
def operK (f:ApiFunc) (k letter n:Int):Int:=if letter=119∨letter=114 then slotF f.fKinds n 0 else if letter=103∨letter=102 then slotF f.fKinds n (IntKind.i64.wrap (1+k)) else if letter=99 then callF f.fKinds k n else if letter=100 then lateF f.fKinds k n else if letter=118 then answF f.fKinds f.fClass n else 0
def clsR (x:ApiInstr) (s:ApiSymbol):Int:=if x.fOp=18 then IntKind.i64.wrap (s.fKind-1) else if x.fOp=19∨x.fOp=17∨x.fOp=21 then s.fKind else x.fC
def lettersL:List Int:=[119,114,103,102,99,100,118,116,110,107,45]
theorem fst0 (l : List Int) : fstE (0 :: l) = fstE l := by conv => lhs; unfold fstE
                                                           simp
theorem fstA (e:Int) {l:List Int}(h:fstE l=0):fstE (e :: l)=e:=by
 unfold fstE
 split
 · rfl
 · omega
theorem range6:List.range 6=[0,1,2,3,4,5]:=rfl
theorem hasL_tab:∀ c ∈ lettersL,(hasL 0 c,hasL 1 c,hasL 2 c,hasL 3 c,hasL 4 c,hasL 5 c)=(decide (c=119∨c=114),decide (c=103∨c=102),decide (c=99),decide (c=100),decide (c=118),decide (c=116∨c=110∨c=107∨c=45)):=by decide
theorem letE_eq {f:ApiFunc}{k letter n:Int}(h:letter ∈ lettersL):letE f k letter n=operK f k letter n:=by
 have ht:=hasL_tab letter h
 simp only [Prod.mk.injEq] at ht
 obtain ⟨h0,h1,h2,h3,h4,h5⟩:=ht
 unfold letE operK
 rw [range6]
 simp only [List.map_cons,List.map_nil,lookE,h0,h1,h2,h3,h4,h5,decide_eq_true_eq]
 have v0:lookV f k n 0=slotF f.fKinds n 0:=rfl
 have v1:lookV f k n 1=slotF f.fKinds n (IntKind.i64.wrap (1+k)):=rfl
 have v2:lookV f k n 2=callF f.fKinds k n:=rfl
 have v3:lookV f k n 3=lateF f.fKinds k n:=rfl
 have v4:lookV f k n 4=answF f.fKinds f.fClass n:=rfl
 have v5:lookV f k n 5=0:=rfl
 rw [v0,v1,v2,v3,v4,v5]
 simp only [lettersL,List.mem_cons,List.not_mem_nil,or_false] at h
 rcases h with rfl | rfl | rfl | rfl | rfl | rfl | rfl | rfl | rfl | rfl | rfl <;> simp [fst0,fstA,fstE] <;> exact fun h=>h.symm
theorem shape_letters {o:Int}{i:Nat}(h:i<(shapeF o).size):byteAt (shapeF o) i ∈ lettersL:=by
 rw [shapeF_size] at h
 split at h
 · next ho=>
   have h2:=ownF_iff.1 ho
   have:∀ n,n<24→∀ i,i<4→byteAt (shapesL.getD n ByteArray.empty) i ∈ lettersL:=by decide
   unfold shapeF
   rw [if_pos ho]
   exact this _ ZO i h
 · omega
theorem shape_plain {o:Int}{i:Nat}(h:i<(shapeF o).size) (ho:¬ (17≤o∧o≤21)):byteAt (shapeF o) i≠103∧byteAt (shapeF o) i≠102∧byteAt (shapeF o) i≠99∧byteAt (shapeF o) i≠100:=by
 rw [shapeF_size] at h
 split at h
 · next hw=>
   have h2:=ownF_iff.1 hw
   have:∀ n,n<24→¬ (16≤n∧n≤20)→∀ i,i<4→byteAt (shapesL.getD n ByteArray.empty) i≠103∧byteAt (shapesL.getD n ByteArray.empty) i≠102∧byteAt (shapesL.getD n ByteArray.empty) i≠99∧byteAt (shapesL.getD n ByteArray.empty) i≠100:=by decide
   unfold shapeF
   rw [if_pos hw]
   exact this _ ZO ZO i h
 · omega
def operR (f:ApiFunc) (x:ApiInstr) (s:ApiSymbol) (i:Nat):Int:=operK f (clsR x s) (byteAt (shapeF x.fOp) i) (opdF x i)
theorem fst_map {n:Nat}{e e':Nat→Int}(h:∀ i,i<n→e i=e' i):fstE ((List.range n).map e)=fstE ((List.range n).map e'):=by
 rw [List.map_congr_left (fun i hi=>h i (List.mem_range.1 hi))]
theorem operF_R {f:ApiFunc}{x:ApiInstr}{s:ApiSymbol}{k:Int}(h:(17≤x.fOp∧x.fOp≤21)→k=clsR x s):operF f x k=fstE ((List.range (shapeF x.fOp).size).map (operR f x s)):=by
 unfold operF
 refine fst_map (fun i hi=>?_)
 unfold opsE operR
 rw [letE_eq (shape_letters hi)]
 by_cases ho:17≤x.fOp∧x.fOp≤21
 · rw [h ho]
 · obtain ⟨h1,h2,h3,h4⟩:=shape_plain hi ho
   unfold operK
   simp only [h1,h2,h3,h4,or_self,if_false]
theorem instrF_R {f:ApiFunc}{l:List ApiSymbol}{i:Int}(hi:¬ (i<0∨(f.fCode.length:Int)≤i)) (he:refE f l i=0):instrF f l i=if ((codeAt f i).fOp=20∧isC (codeAt f i).fC=false)∨((codeAt f i).fOp=21∧latF (refS f l i).fKind=false) then 14 else fstE ((List.range (shapeF (codeAt f i).fOp).size).map (operR f (codeAt f i) (refS f l i))):=by
 unfold instrF
 rw [if_neg hi,if_neg (by rw [he];simp)]
 generalize codeAt f i=x
 generalize refS f l i=s
 by_cases h20:x.fOp=20
 · rw [if_pos h20]
   by_cases hc:isC x.fC=true
   · rw [if_pos hc,if_neg (by rintro (h | h);rw [hc] at h;cases h.2;omega),operF_R (s:=s) (fun _=>by unfold clsR;rw [if_neg ZO,if_neg ZO])]
   · rw [if_neg hc,if_pos (.inl ⟨h20,by simpa using hc⟩)]
 · rw [if_neg h20]
   by_cases h21:x.fOp=21
   · rw [if_pos h21]
     by_cases hc:latF s.fKind=true
     · rw [if_pos hc,if_neg (by rintro (h | h);exact h20 h.1;rw [hc] at h;cases h.2),operF_R (s:=s) (fun _=>by unfold clsR;rw [if_neg ZO,if_pos ZO])]
     · rw [if_neg hc,if_pos (.inr ⟨h21,by simpa using hc⟩)]
   · have hR : ¬ ((x.fOp = 20 ∧ isC x.fC = false) ∨ (x.fOp = 21 ∧ latF s.fKind = false)) := by
      rintro (h | h)
      · exact h20 h.1
      · exact h21 h.1
     rw [if_neg h21,if_neg hR]
     by_cases h18:x.fOp=18
     · rw [if_pos h18,operF_R (s:=s) (fun _=>by unfold clsR;rw [if_pos h18])]
     · rw [if_neg h18,operF_R (s:=s) (fun h=>by unfold clsR;rw [if_neg h18,if_pos ZO])]
theorem ref17_has {B:Base}{w:World}(hS:St B [] w) (f:ApiFunc) (fc:List Value) (hf:kApiFunc.K B.e f fc) (i:Int) :
 CW 196 #[.agg fc.toArray,.int .i64 i] w (Ret B (fun _:Unit=>True) (fun _=>.bool (decide (0≤markF f i))) (fun _=>[])):=by
 obtain ⟨A0,c0,A1,c1,A2,c2,A3,c3,rfl,l0,g0,l1,g1,l2,g2,l3,g3⟩:=kApiFunc_open hf
 have hcl:=g3.1
 refine ZX Tryz.func196 hS ?_
 refine Zh (Zi (oBox J ZP (fun b2=>?_)))
 refine Zp J (Zn (Za (Zh (Zh (Zi (Zp J (Zn (Za (Zk (wLoop (ι:=Nat) (fun j=>[(1,.int .i64 i),(2,.pointer (some ⟨b2,0,none⟩)),(5,.int .i64 (j:Int))]) (fun j=>[blk b2 51 [.int .i64 f.fClass,.slice A0 f.fKinds.length c0,.int .i64 f.fPad,.bool f.fNosplit,.int .i64 f.fFrom,.int .i64 f.fTo,.slice A1 f.fLines.length c1,.slice A2 f.fCode.length c2,.slice A3 f.fRelocs.length c3]]) (fun j=>j≤f.fRelocs.length∧∀ y ∈ f.fRelocs.take j,atR i y=false) (fun j=>f.fRelocs.length-j) 0 ?_ cv (Leads.has ZQ) ?_))))))))))
 exact ⟨Nat.zero_le _,by simp⟩
 rintro j ⟨hj,hs⟩
 try dsimp only
 refine Zh (Zh (Zi (Zo J (Zz (n:=8) (m:=8) J J J (Zld ?_)))))
 refine Zv J J (Zx J J (Zn (Za (wC (fun h10=>?_) (fun h10=>?_)))))
 obtain ⟨x,hx⟩:∃ x,f.fRelocs[j]?=some x:=⟨_,List.getElem?_eq_getElem ZO⟩
 obtain ⟨e1,cs1,hE⟩:=g3.elm hx
 obtain rfl:=kApiReloc_open hE.K
 refine Zj (Za (Zh (Zk (Zh (Zi (Zz (n:=8) (m:=8) J J J (Zld ?_)))))))
 refine Zo J (oIdxE J J (hE) ZO J J ?_)
 have hc16:=(hE).cell
 refine ZF (ZT 0) (ZT 0) ?_
 refine Zlx hc16 ?_
 refine Zo J (Zy J J (Zn (Za (wC (fun h20=>?_) (fun h20=>?_)))))
 refine Zh (Zi (Zzc ?_))
 have hm:markF f i=(j:Int):=idxI_stop hs hx (decide_eq_true h20)
 exact ⟨(),trivial,by rw [hm,decide_eq_true ZO];rfl,Lh⟩
 refine Zj (Zze ?_)
 refine Zp J (Zn (Za ?_))
 exact ⟨rfl,j+1,⟨by omega,take_not hs hx (decide_eq_false h20)⟩,by omega,cv,Lh⟩
 refine Zm (Zzg ?_)
 obtain rfl:j=f.fRelocs.length:=by omega
 rw [List.take_length] at hs
 have hm:markF f i = -1:=idxI_none hs
 exact ⟨(),trivial,by rw [hm];rfl,Lh⟩
theorem needF_in (o:Int):0≤needF o∧needF o≤5:=by
 unfold needF
 repeat' split
 all_goals omega
theorem ref17_fits {B:Base}{w:World}(hS:St B [] w) (need:Int) (hn:1≤need∧need≤5) (s:ApiSymbol) (sc:List Value) (hs:kApiSymbol.K B.e s sc) :
 CW 198 #[.int .i64 need,.agg sc.toArray] w (Ret B (fun _:Unit=>True) (fun _=>.bool (fitsF need s)) (fun _=>[])):=by
 obtain rfl:=kApiSymbol_open hs
 generalize hz:IntKind.i64.wrap (s.fKind-1)=z
 have hfz:fitsF need s=if need=3 then decide (s.fSort=2) && decide (s.fKind=0) else if need=4 then decide (s.fSort=2) && isC z else decide (s.fSort=1):=by unfold fitsF;rw [hz]
 rw [hfz]
 refine ZX Tryz.func198 hS ?_
 refine Zh (Zi (oBox J ZP (fun b3=>?_)))
 refine Zp J (Zn (Za (Zh (Zi (Zo J (Zn (Za (Zk (Zh (Zh (Zi (Zy J J (Zp J (Zn (Za (wC (fun h15=>?_) (fun h15=>?_)))))))))))))))))
 refine Zj (Za (ZY h15 ?_))
 refine Zh (Zi (Zz (n:=2) (m:=2) J J J (Zld ?_)))
 refine Zy J J (Zp J (Zzd ?_))
 exact ⟨(),trivial,by rw [if_neg ZO,if_neg ZO];rfl,Lh⟩
 refine Zh (Zi (Zy J J (Zp J (Zn (Za (wC (fun h15=>?_) (fun h15=>?_)))))))
 refine Zj (Za (ZY h15 ?_))
 refine Zh (Zi (Zz (n:=2) (m:=2) J J J (Zld ?_)))
 refine Zy J J (Zp J (Zzd ?_))
 exact ⟨(),trivial,by rw [if_neg ZO,if_neg ZO];rfl,Lh⟩
 refine Zi (Zy J J (Zp J (Zn (Za (wC (fun h15=>?_) (fun h15=>?_))))))
 refine Zh (Zi (Zz (n:=2) (m:=2) J J J (Zld ?_)))
 refine Zy J J (Zp J (Zzd ?_))
 exact ⟨(),trivial,by rw [if_neg ZO,if_neg ZO];rfl,Lh⟩
 refine Zh (Zi (Zy J J (Zp J (Zn (Za (wC (fun h22=>?_) (fun h22=>?_)))))))
 refine Zh (Zi (Zz (n:=2) (m:=2) J J J (Zld ?_)))
 refine Zy J J (Zo J (ZS (ZT 27) (fun h27=>?_) (fun h27=>?_)))
 refine Zq J J (Zz (n:=3) (m:=3) J J J (Zzf ?_))
 refine Zq J J (Zy J J (Zt J J (Zp J (Zzd ?_))))
 exact ⟨(),trivial,by rw [if_pos h22];simp_all [resVal],Lh⟩
 refine Zr J J J J (Zr J J J J (Zr J J J J (Zu J J (Zp J (Zzd ?_)))))
 exact ⟨(),trivial,by rw [if_pos h22];simp_all [resVal],Lh⟩
 refine Zh (Zi (Zz (n:=2) (m:=2) J J J (Zld ?_)))
 refine Zy J J (Zo J (ZS (ZT 9) (fun h9=>?_) (fun h9=>?_)))
 refine Zq J J (Zz (n:=3) (m:=3) J J J (Zzf ?_))
 refine Zq J J (oSubW J J ?_)
 rw [hz]
 refine Zq J J ?_
 (refine ZC0 rfl ZK (fun w hS=>frame hS ZQ (fun B' hB hS'=>ref5_Is hS' z)) ?_;rintro ⟨⟩ -)
 refine Zt J J (Zp J (Zzd ?_))
 exact ⟨(),trivial,by rw [if_neg h22,if_pos ZO];simp_all [resVal],Lh⟩
 refine Zr J J J J (Zr J J J J (Zr J J J J (Zr J J J J (Zu J J (Zp J (Zzd ?_))))))
 exact ⟨(),trivial,by rw [if_neg h22,if_pos ZO];simp_all [resVal],Lh⟩
theorem ref17_refers {B:Base}{w:World}(hS:St B [] w) (f:ApiFunc) (fc:List Value) (hf:kApiFunc.K B.e f fc) (Al:Option Addr) (cl:Nat) (l:List ApiSymbol) (hl:kApiSymbol.C B.e Al l) (i:Nat) (hi:i<f.fCode.length) :
 CW 172 #[.agg fc.toArray,.slice Al l.length cl,.int .i64 (i:Int)] w (Ret B (fun _:Unit=>True) (fun _=>.tuple #[.agg (symL (refS f l i)).toArray,.int .i64 (refE f l i)]) (fun _=>[])):=by
 obtain ⟨A0,c0,A1,c1,A2,c2,A3,c3,rfl,l0,g0,l1,g1,l2,g2,l3,g3⟩:=kApiFunc_open hf
 obtain ⟨x,hx⟩:∃ x,f.fCode[i]?=some x:=⟨_,List.getElem?_eq_getElem hi⟩
 have hca:codeAt f (i:Int)=x:=by unfold codeAt;rw [Int.toNat_natCast,List.getD_eq_getElem?_getD,hx];rfl
 obtain ⟨e0,cs0,hE0⟩:=g2.elm hx
 obtain rfl:=kApiInstr_open hE0.K
 have hnin:=needF_in x.fOp
 generalize hne:needF x.fOp=need at *
 refine ZX Tryz.func172 hS ?_
 refine Zh (Zi (oBox J ZP (fun b3=>?_)))
 refine oAlloc J ZP (fun b6=>?_)
 refine Zp J (Zn (Za (Zh (Zi (Zz (n:=7) (m:=7) J J J (Zld ?_))))))
 refine Zo J (oIdxE J J (hE0) ZO J J ?_)
 have hc13:=(hE0).cell
 refine ZF (ZT 0) (ZT 0) ?_
 refine Zlx hc13 ?_
 (refine ZC0 rfl ZK (fun w hS=>frame hS ZQ (fun B' hB hS'=>ref7_Need hS' x.fOp)) ?_;rintro ⟨⟩ -)
 rw [hne]
 refine Zp J (Zn (Za (Zh (Zh (Zi (Zo J (Z1 J J (Zla ?_))))))))
 refine Zo J ?_
 (refine ZC0 rfl ZK (fun w hS=>frame hS ZQ (fun B' hB hS'=>ref17_has hS' f _ (kApiFunc.K_grow hB hf) (i:Int))) ?_;rintro ⟨⟩ -)
 refine oNeqBool J J J (Zn (Za (wC (fun h22=>?_) (fun h22=>?_))))
 have h22:¬ ((0<need)↔(0≤markF f i)):=by have:=h22;simp at this;omega
 refine Zh (Zi (oBuild Parts.nil J J Built.nil (Zsa ?_)))
 refine Zp J (Zzn ?_)
 have he:refE f l i=11:=by unfold refE;rw [hca,hne,if_neg ZO,if_pos ZO]
 have hr:refS f l i=default:=by unfold refS;rw [he,if_pos (.inr (by decide))]
 exact ⟨(),trivial,by rw [he,hr];rfl,Lh⟩
 have h22:(0<need)↔(0≤markF f i):=by have:=h22;simp at this;omega
 refine Zj (Za (Zh (Zh (Zi (Zo J (Zy J J (Zn (Za (wC (fun h25=>?_) (fun h25=>?_))))))))))
 refine Zh (Zi (oBuild Parts.nil J J Built.nil (Zsa ?_)))
 refine Zp J (Zzn ?_)
 have he:refE f l i=0:=by unfold refE;rw [hca,hne,if_pos ZO]
 have hr:refS f l i=default:=by unfold refS;rw [hca,hne,if_pos (.inl h25)]
 exact ⟨(),trivial,by rw [he,hr];rfl,Lh⟩
 refine Zj (Zzj ?_)
 refine Zo J ?_
 (refine ZC0 rfl ZK (fun w hS=>frame hS ZQ (fun B' hB hS'=>ref17_Sym hS' f _ (kApiFunc.K_grow hB hf) (i:Int))) ?_;rintro ⟨⟩ -)
 refine Zp J (Zn (Za (Zh (Zh (Zi (Zo J (Zx J J (Zo J (ZS (ZT 32) (fun h32=>?_) (fun h32=>?_))))))))))
 refine Zr J J J J (Zr J J J J (Zr J J J J (Zr J J J J (Zt J J (Zn (Za (wCondT J (Zh (Zi (oBuild Parts.nil J J Built.nil (Zsa ?_)))))))))))
 refine Zp J (Zzn ?_)
 have he:refE f l i=11:=by unfold refE;rw [hca,hne,if_neg ZO,if_pos ZO]
 have hr:refS f l i=default:=by unfold refS;rw [he,if_pos (.inr (by decide))]
 exact ⟨(),trivial,by rw [he,hr];rfl,Lh⟩
 refine Zq J J (Zo J (Zq J J (Zo J (Zq J J (Zv J J (Zq J J (Z2 J J (Zu J J (Zn (Za (wC (fun h37=>?_) (fun h37=>?_))))))))))))
 refine Zh (Zi (oBuild Parts.nil J J Built.nil (Zsa ?_)))
 refine Zp J (Zzn ?_)
 have he:refE f l i=11:=by unfold refE;rw [hca,hne,if_neg ZO,if_pos ZO]
 have hr:refS f l i=default:=by unfold refS;rw [he,if_pos (.inr (by decide))]
 exact ⟨(),trivial,by rw [he,hr];rfl,Lh⟩
 obtain ⟨n,hn⟩:=Int.eq_ofNat_of_zero_le (show 0≤symF f (i:Int) by omega)
 obtain ⟨s,hs⟩:∃ s,l[n]?=some s:=⟨_,List.getElem?_eq_getElem ZO⟩
 obtain ⟨e2,cs2,hE2⟩:=hl.elm hs
 obtain rfl:=kApiSymbol_open hE2.K
 have hnl:=(List.getElem?_eq_some_iff.1 hs).1
 have hsa:symAtF f l i=s:=by unfold symAtF;rw [hn,Int.toNat_natCast,List.getD_eq_getElem?_getD,hs];rfl
 rw [hn]
 refine Zj (Za (Zh (Zh (Zi (Zo J (Zo J (Zo J (oIdxE J J (hE2) ZO J J ?_))))))))
 have hc42:=(hE2).cell
 refine Zlx hc42 ?_
 (refine ZC0 rfl ZK (fun w hS=>frame hS ZQ (fun B' hB hS'=>ref17_fits hS' need ZO s _ (kApiSymbol_mk _ s))) ?_;rintro ⟨⟩ -)
 refine Zno ?_
 refine Zn (Za (wC (fun h45=>?_) (fun h45=>?_)))
 refine Zh (Zi (oBuild Parts.nil J J Built.nil (Zsa ?_)))
 refine Zp J (Zzn ?_)
 have he:refE f l i=8:=by unfold refE;rw [hca,hne,hsa,if_neg ZO,if_neg ZO,if_neg (by simpa using h45)]
 have hr:refS f l i=default:=by unfold refS;rw [he,if_pos (.inr (by decide))]
 exact ⟨(),trivial,by rw [he,hr];rfl,Lh⟩
 refine Zj (Za (Zh (Zi (Zo J (Zo J (oIdxE J J (hE2) ZO J J ?_))))))
 have hc49:=(hE2).cell
 refine Zlx hc49 ?_
 refine Zsa ?_
 refine Zp J (ZzA ?_)
 have he:refE f l i=0:=by unfold refE;rw [hca,hne,hsa,if_neg ZO,if_neg ZO,if_pos (by simpa using h45)]
 have hr:refS f l i=s:=by unfold refS;rw [he,hca,hne,hsa,if_neg ZO]
 exact ⟨(),trivial,by rw [he,hr];rfl,Lh⟩
theorem ref17_slot {B:Base}{w:World}(hS:St B [] w) (f:ApiFunc) (fc:List Value) (hf:kApiFunc.K B.e f fc) (at_ kind:Int) :
 CW 199 #[.agg fc.toArray,.int .i64 at_,.int .i64 kind] w (Ret B (fun _:Unit=>True) (fun _=>.int .i64 (slotF f.fKinds at_ kind)) (fun _=>[])):=by
 obtain ⟨A0,c0,A1,c1,A2,c2,A3,c3,rfl,l0,g0,l1,g1,l2,g2,l3,g3⟩:=kApiFunc_open hf
 refine ZX Tryz.func199 hS ?_
 refine Zh (Zi (oBox J ZP (fun b3=>?_)))
 refine Zp J (Zn (Za (Zh (Zh (Zi (Zo J (Zx J J (Zo J (ZS (ZT 9) (fun h9=>?_) (fun h9=>?_))))))))))
 refine Zr J J J J (Zr J J J J (Zr J J J J (Zr J J J J (Zr J J J J (Zt J J (Zn (Za (wCondT J (ZzF ?_)))))))))
 exact ⟨(),trivial,by unfold slotF;rw [if_pos ZO];rfl,Lh⟩
 refine Zq J J (Zo J (Zq J J (Zz (n:=1) (m:=1) J J J (Zzf ?_))))
 refine Zq J J (Zv J J (Zq J J (Z2 J J (Zu J J (Zn (Za (wC (fun h15=>?_) (fun h15=>?_))))))))
 refine Zh (Zi (Zzb ?_))
 exact ⟨(),trivial,by unfold slotF;rw [if_pos ZO];rfl,Lh⟩
 obtain ⟨n,rfl⟩:=Int.eq_ofNat_of_zero_le (show 0≤at_ by omega)
 refine Zj (Za (Zh (Zh (Zi (Zz (n:=1) (m:=1) J J J (Zld ?_))))))
 refine Zo J (oIdx J J (g0) J ZO J J (fun e19 u19 cs19 hu19 hk19 hc19=>?_))
 obtain rfl:=hk19
 refine Zlx hc19 ?_
 refine Zo J (Z0 J J (Zn (Za (wC (fun h22=>?_) (fun h22=>?_)))))
 refine Zh (Zi (Zzb ?_))
 exact ⟨(),trivial,by unfold slotF;rw [if_neg ZO,Int.toNat_natCast,getDat hu19,if_pos h22];rfl,Lh⟩
 refine Zj (Zzx ?_)
 exact ⟨(),trivial,by unfold slotF;rw [if_neg ZO,Int.toNat_natCast,getDat hu19,if_neg h22];rfl,Lh⟩
theorem nCall_max {k:Int}(h:¬ (parF k=0∧ansF k=false)):nCall k=if parF k<1 then 1 else parF k:=by
 have:=parF_in k
 unfold nCall
 by_cases h0:parF k=0
 · have ha : ansF k = true := by
    cases e:ansF k with
    | true=>rfl
    | false=>exact absurd ⟨h0,e⟩ h
   rw [if_pos ⟨h0,ha⟩,if_pos ZO]
 · rw [if_neg (fun e=>h0 e.1),if_neg ZO]
theorem ref17_called {B:Base}{w:World}(hS:St B [] w) (f:ApiFunc) (fc:List Value) (hf:kApiFunc.K B.e f fc) (at_ k:Int) :
 CW 200 #[.agg fc.toArray,.int .i64 at_,.int .i64 k] w (Ret B (fun _:Unit=>True) (fun _=>.int .i64 (callF f.fKinds k at_)) (fun _=>[])):=by
 obtain ⟨A0,c0,A1,c1,A2,c2,A3,c3,rfl,l0,g0,l1,g1,l2,g2,l3,g3⟩:=kApiFunc_open hf
 have hn:=nCall_in k
 have hpn:=parF_in k
 have hml:((List.range (nCall k).toNat).map fun i:Nat=>slotF f.fKinds (IntKind.i64.wrap (at_+(i:Int))) 0).length=(nCall k).toNat:=by simp
 refine ZX Tryz.func200 hS ?_
 refine Zh (Zi (oBox J ZP (fun b3=>?_)))
 refine Zp J (Zn (Zzm ?_))
 (refine ZC0 rfl ZK (fun w hS=>frame hS ZQ (fun B' hB hS'=>ref5_Params hS' k)) ?_;rintro ⟨⟩ -)
 refine Zp J (Zn (Za (Zh (Zh (Zi (Zo J (Zy J J (Zo J (ZS (ZT 14) (fun h14=>?_) (fun h14=>?_))))))))))
 refine Zq J J (Zo J (Zq J J ?_))
 (refine ZC0 rfl ZK (fun w hS=>frame hS ZQ (fun B' hB hS'=>ref5_Answers hS' k)) ?_;rintro ⟨⟩ -)
 refine Zq J J (Zno ?_)
 refine Zt J J (Zn (Za (wC (fun h18=>?_) (fun h18=>?_))))
 have hn0:nCall k=0:=by unfold nCall;rw [if_neg (by rintro ⟨_,h⟩;simp [h] at h18)];exact h14
 refine Zh (Zh (Zi (Zo J (Z0 J J (Zn (Za (wC (fun h20=>?_) (fun h20=>?_))))))))
 refine Zh (Zi (Zp J (Zn (Za (Zl (Zc (Zc (Zw (fi1 J ?_)))))))))
 exact ⟨(),trivial,by unfold callF zeroF;rw [if_pos hn0,if_pos h20];rfl,Lh⟩
 refine Zj (Za (ZzF ?_))
 exact ⟨(),trivial,by unfold callF zeroF;rw [if_pos hn0,if_neg h20];rfl,Lh⟩
 refine Zj (Za (Zh (Zh (Zi (Zp J ?_)))))
 have hnm:=nCall_max (k:=k) (by rintro ⟨h,h'⟩;simp_all)
 have hnz:¬ nCall k=0:=by rw [hnm];split <;> omega
 refine Zn (Za (Zk (wLoop (ι:=Nat) (fun i=>[(1,.int .i64 at_),(3,.pointer (some ⟨b3,0,none⟩)),(7,.int .i64 (parF k)),(8,.int .i64 (i:Int))]) (fun i=>[blk b3 51 [.int .i64 f.fClass,.slice A0 f.fKinds.length c0,.int .i64 f.fPad,.bool f.fNosplit,.int .i64 f.fFrom,.int .i64 f.fTo,.slice A1 f.fLines.length c1,.slice A2 f.fCode.length c2,.slice A3 f.fRelocs.length c3]]) (fun i=>i≤(nCall k).toNat∧fstE (((List.range (nCall k).toNat).map fun i:Nat=>slotF f.fKinds (IntKind.i64.wrap (at_+(i:Int))) 0).take i)=0) (fun i=>(nCall k).toNat-i) 0 ?_ cv (Leads.has ZQ) ?_)))
 exact ⟨Nat.zero_le _,rfl⟩
 rintro i ⟨hi,hs⟩
 try dsimp only
 refine Zh (Zh (Zi (Zo J (Zo J (oMaxI J J ?_)))))
 rw [← hnm]
 refine Zx J J (Zn (Za (wC (fun h24=>?_) (fun h24=>?_))))
 have hxe:((List.range (nCall k).toNat).map fun i:Nat=>slotF f.fKinds (IntKind.i64.wrap (at_+(i:Int))) 0)[i]?=some (slotF f.fKinds (IntKind.i64.wrap (at_+(i:Int))) 0):=by rw [List.getElem?_map,List.getElem?_range ZO];rfl
 refine Zj (Zzz ?_)
 refine Zo J (Zo J (oAddW J J ?_))
 (refine ZC0 rfl ZK (fun w hS=>frame hS ZQ (fun B' hB hS'=>ref17_slot hS' f _ (kApiFunc.K_grow hB hf) (IntKind.i64.wrap (at_+(i:Int))) 0)) ?_;rintro ⟨⟩ -)
 refine Zp J (Zn (Za (Zh (Zi (Zo J (Z0 J J (Zn (Za (wC (fun h33=>?_) (fun h33=>?_))))))))))
 refine Zh (Zi (Zo J (Zzc ?_)))
 exact ⟨(),trivial,by unfold callF;rw [if_neg hnz,fstE_stop hs hxe h33];rfl,Lh⟩
 refine Zj (Zze ?_)
 refine Zp J ?_
 skip
 refine Zn (Za ?_)
 exact ⟨rfl,i+1,⟨by omega,fstE_next hs hxe (Classical.not_not.1 h33)⟩,by omega,cv,Lh⟩
 refine Zm (Zzg ?_)
 obtain rfl:i=(nCall k).toNat:=by omega
 rw [List.take_of_length_le (by rw [hml];exact Nat.le_refl _)] at hs
 exact ⟨(),trivial,by unfold callF;rw [if_neg hnz,hs];rfl,Lh⟩
 refine Zr J J J J (Zr J J J J (Zr J J J J (Zu J J (Zn (Za (wCondF J (Zj (Za (Zh (Zh (Zi (Zp J ?_))))))))))))
 have hnm:=nCall_max (k:=k) (by rintro ⟨h,h'⟩;simp_all)
 have hnz:¬ nCall k=0:=by rw [hnm];split <;> omega
 refine Zn (Za (Zk (wLoop (ι:=Nat) (fun i=>[(1,.int .i64 at_),(3,.pointer (some ⟨b3,0,none⟩)),(7,.int .i64 (parF k)),(8,.int .i64 (i:Int))]) (fun i=>[blk b3 51 [.int .i64 f.fClass,.slice A0 f.fKinds.length c0,.int .i64 f.fPad,.bool f.fNosplit,.int .i64 f.fFrom,.int .i64 f.fTo,.slice A1 f.fLines.length c1,.slice A2 f.fCode.length c2,.slice A3 f.fRelocs.length c3]]) (fun i=>i≤(nCall k).toNat∧fstE (((List.range (nCall k).toNat).map fun i:Nat=>slotF f.fKinds (IntKind.i64.wrap (at_+(i:Int))) 0).take i)=0) (fun i=>(nCall k).toNat-i) 0 ?_ cv (Leads.has ZQ) ?_)))
 exact ⟨Nat.zero_le _,rfl⟩
 rintro i ⟨hi,hs⟩
 try dsimp only
 refine Zh (Zh (Zi (Zo J (Zo J (oMaxI J J ?_)))))
 rw [← hnm]
 refine Zx J J (Zn (Za (wC (fun h24=>?_) (fun h24=>?_))))
 have hxe:((List.range (nCall k).toNat).map fun i:Nat=>slotF f.fKinds (IntKind.i64.wrap (at_+(i:Int))) 0)[i]?=some (slotF f.fKinds (IntKind.i64.wrap (at_+(i:Int))) 0):=by rw [List.getElem?_map,List.getElem?_range ZO];rfl
 refine Zj (Zzz ?_)
 refine Zo J (Zo J (oAddW J J ?_))
 (refine ZC0 rfl ZK (fun w hS=>frame hS ZQ (fun B' hB hS'=>ref17_slot hS' f _ (kApiFunc.K_grow hB hf) (IntKind.i64.wrap (at_+(i:Int))) 0)) ?_;rintro ⟨⟩ -)
 refine Zp J (Zn (Za (Zh (Zi (Zo J (Z0 J J (Zn (Za (wC (fun h33=>?_) (fun h33=>?_))))))))))
 refine Zh (Zi (Zo J (Zzc ?_)))
 exact ⟨(),trivial,by unfold callF;rw [if_neg hnz,fstE_stop hs hxe h33];rfl,Lh⟩
 refine Zj (Zze ?_)
 refine Zp J ?_
 skip
 refine Zn (Za ?_)
 exact ⟨rfl,i+1,⟨by omega,fstE_next hs hxe (Classical.not_not.1 h33)⟩,by omega,cv,Lh⟩
 refine Zm (Zzg ?_)
 obtain rfl:i=(nCall k).toNat:=by omega
 rw [List.take_of_length_le (by rw [hml];exact Nat.le_refl _)] at hs
 exact ⟨(),trivial,by unfold callF;rw [if_neg hnz,hs];rfl,Lh⟩
theorem ref17_perhaps {B:Base}{w:World}(hS:St B [] w) (f:ApiFunc) (fc:List Value) (hf:kApiFunc.K B.e f fc) (at_:Int) (is:Bool) :
 CW 201 #[.agg fc.toArray,.int .i64 at_,.bool is] w (Ret B (fun _:Unit=>True) (fun _=>.int .i64 (if is then slotF f.fKinds at_ 0 else zeroF at_)) (fun _=>[])):=by
 obtain ⟨A0,c0,A1,c1,A2,c2,A3,c3,rfl,l0,g0,l1,g1,l2,g2,l3,g3⟩:=kApiFunc_open hf
 refine ZX Tryz.func201 hS ?_
 refine Zh (Zi (oBox J ZP (fun b3=>?_)))
 refine Zp J (Zn (Za (Zh (Zh (Zi (Zo J (Zn (Za (wC (fun h7=>?_) (fun h7=>?_))))))))))
 refine Zh (Zi (Zla ?_))
 refine Zo J ?_
 (refine ZC0 rfl ZK (fun w hS=>frame hS ZQ (fun B' hB hS'=>ref17_slot hS' f _ (kApiFunc.K_grow hB hf) at_ 0)) ?_;rintro ⟨⟩ -)
 refine Zp J (Zzv ?_)
 exact ⟨(),trivial,by rw [if_pos (by simpa using h7)];rfl,Lh⟩
 refine Zj (Za (Zh (Zh (Zi (Zo J (Z0 J J (Zn (Za (wC (fun h12=>?_) (fun h12=>?_))))))))))
 refine Zh (Zi (Zzb ?_))
 exact ⟨(),trivial,by rw [if_neg (by simpa using h7)];unfold zeroF;rw [if_pos h12];rfl,Lh⟩
 refine Zj (Zzx ?_)
 exact ⟨(),trivial,by rw [if_neg (by simpa using h7)];unfold zeroF;rw [if_neg h12];rfl,Lh⟩
theorem late_perhaps {kinds:List Int}{k n:Int} : lateF kinds k n=if decide (0<parF k)=true then slotF kinds n 0 else zeroF n:=by
 have hpn:=parF_in k
 unfold lateF
 by_cases h0:parF k=0
 · rw [if_neg (show ¬ decide (0<parF k)=true by rw [h0];decide),if_pos h0]
 · rw [if_pos (show decide (0<parF k)=true from decide_eq_true ZO),if_neg h0]
theorem ref17_operand {B:Base}{w:World}(hS:St B [] w) (f:ApiFunc) (fc:List Value) (hf:kApiFunc.K B.e f fc) (x:ApiInstr) (xc:List Value) (hx:kApiInstr.K B.e x xc) (s:ApiSymbol) (letter n:Int) :
 CW 174 #[.agg fc.toArray,.agg xc.toArray,.agg (symL s).toArray,.int .u8 letter,.int .i64 n] w (Ret B (fun _:Unit=>True) (fun _=>.int .i64 (operK f (clsR x s) letter n)) (fun _=>[])):=by
 obtain ⟨A0,c0,A1,c1,A2,c2,A3,c3,rfl,l0,g0,l1,g1,l2,g2,l3,g3⟩:=kApiFunc_open hf
 obtain rfl:=kApiInstr_open hx
 generalize hz:IntKind.i64.wrap (s.fKind-1)=z
 generalize hk:clsR x s=k
 refine ZX Tryz.func174 hS ?_
 refine Zh (Zi (oBox J ZP (fun b5=>?_)))
 refine oBox J ZP (fun b6=>?_)
 refine oBox J ZP (fun b7=>?_)
 refine Zp J (Zn (Za (Zh (Zi (Zz (n:=3) (m:=3) J J J (Zld ?_))))))
 refine Zp J (Zn (Za (Zh (Zh (Zi (Zz (n:=0) (m:=0) J J J (Zld ?_)))))))
 refine Zy J J (Zo J (ZS (ZT 17) (fun h17=>?_) (fun h17=>?_)))
 refine Zr J J J J (Zr J J J J (Zr J J J J (Zt J J (Zo J (Zr J J J J (Zr J J J J (Zr J J J J (Zt J J (Zn (Za (wCondT J (Zi (Zz (n:=3) (m:=3) J J J (Zld ?_))))))))))))))
 refine Zp J (Zn (Za (Zh (Zh (Zi (Zz (n:=0) (m:=0) J J J (Zld ?_)))))))
 refine Zy J J (Zn (Za (wC (fun h31=>?_) (fun h31=>?_))))
 refine Zi (Zz (n:=3) (m:=3) J J J (Zld ?_))
 refine oSubW J J ?_
 rw [hz]
 refine Zp J (Zn (Zzm ?_))
 refine ZS0 (t:=11) (v':=.int .i64 k) rfl (by rw [← hk,← hz];unfold clsR;rw [if_pos h31]) ?_
 refine Zn (Za (Zk (Zh (Zh (Zi (Zy J J (Zp J (Zn (Za (wC (fun h36=>?_) (fun h36=>?_)))))))))))
 refine Zj (Za (ZY h36 ?_))
 refine Zh (Zi (Zla ?_))
 refine Zo J ?_
 (refine ZC0 rfl ZK (fun w hS=>frame hS ZQ (fun B' hB hS'=>ref17_slot hS' f _ (kApiFunc.K_grow hB hf) n 0)) ?_;rintro ⟨⟩ -)
 refine Zp J (Zzd ?_)
 exact ⟨(),trivial,by unfold operK;rw [if_pos ZO];rfl,Lh⟩
 refine Zi (Zy J J ?_)
 have hl119:¬ letter=119:=h36
 refine Zp J (Zn (Za (wC (fun h36=>?_) (fun h36=>?_))))
 refine Zh (Zi (Zla ?_))
 refine Zo J ?_
 (refine ZC0 rfl ZK (fun w hS=>frame hS ZQ (fun B' hB hS'=>ref17_slot hS' f _ (kApiFunc.K_grow hB hf) n 0)) ?_;rintro ⟨⟩ -)
 refine Zp J (Zzd ?_)
 exact ⟨(),trivial,by unfold operK;rw [if_pos ZO];rfl,Lh⟩
 refine Zh (Zh (Zi (Zy J J (Zp J (Zn (Za (wC (fun h42=>?_) (fun h42=>?_))))))))
 refine Zj (Za (ZY h42 ?_))
 refine Zh (Zi (Zla ?_))
 refine Zo J (Zo J (oAddW J J ?_))
 (refine ZC0 rfl ZK (fun w hS=>frame hS ZQ (fun B' hB hS'=>ref17_slot hS' f _ (kApiFunc.K_grow hB hf) n (IntKind.i64.wrap (1+k)))) ?_;rintro ⟨⟩ -)
 refine Zp J (Zzd ?_)
 exact ⟨(),trivial,by unfold operK;rw [if_neg ZO,if_pos ZO];rfl,Lh⟩
 refine Zi (Zy J J ?_)
 have hl103:¬ letter=103:=h42
 refine Zp J (Zn (Za (wC (fun h42=>?_) (fun h42=>?_))))
 refine Zh (Zi (Zla ?_))
 refine Zo J (Zo J (oAddW J J ?_))
 (refine ZC0 rfl ZK (fun w hS=>frame hS ZQ (fun B' hB hS'=>ref17_slot hS' f _ (kApiFunc.K_grow hB hf) n (IntKind.i64.wrap (1+k)))) ?_;rintro ⟨⟩ -)
 refine Zp J (Zzd ?_)
 exact ⟨(),trivial,by unfold operK;rw [if_neg ZO,if_pos ZO];rfl,Lh⟩
 refine Zh (Zi (Zy J J (Zp J (Zn (Za (wC (fun h50=>?_) (fun h50=>?_)))))))
 refine Zh (Zi (Zla ?_))
 refine Zo J (Zo J ?_)
 (refine ZC0 rfl ZK (fun w hS=>frame hS ZQ (fun B' hB hS'=>ref17_called hS' f _ (kApiFunc.K_grow hB hf) n k)) ?_;rintro ⟨⟩ -)
 refine Zp J (Zzd ?_)
 exact ⟨(),trivial,by unfold operK;rw [if_neg ZO,if_neg ZO,if_pos h50];rfl,Lh⟩
 refine Zh (Zi (Zy J J (Zp J (Zn (Za (wC (fun h56=>?_) (fun h56=>?_)))))))
 refine Zh (wDrawG J [0,1,2] [(3,[0,1],[4]),(5,[],[])] [6] 24 ZK J J (fun w0=>?_))
 refine Zla ?_
 refine Zo J (Zo J (Z4 (Z5 J ?_)))
 (refine ZC0 rfl ZK (fun w hS=>frame hS ZQ (fun B' hB hS'=>ref5_Params hS' k)) ?_;rintro ⟨⟩ -)
 refine ZG ?_ J (fun w0=>?_)
 refine Z8 J J J J (fun w0=>?_) ?_
 refine Zla ?_
 exact Z9 rfl
 refine Z8 J J J J (fun w0=>?_) ?_
 refine Zo J ?_
 exact Z9 rfl
 exact AgainG.nil
 refine Z1 J J (Z4 (Z5 J ?_))
 (refine ZC0 rfl ZK (fun w hS=>frame hS ZQ (fun B' hB hS'=>ref17_perhaps hS' f _ (kApiFunc.K_grow hB hf) n (decide (0<parF k)))) ?_;rintro ⟨⟩ -)
 refine ZG ?_ J (fun w0=>?_)
 exact AgainG.nil
 refine Z6 (Zp J (Zzd ?_))
 have hpn:=parF_in k
 have hop:operK f k letter n=lateF f.fKinds k n:=by unfold operK;rw [if_neg (show ¬ (letter=119∨letter=114) by omega),if_neg (show ¬ (letter=103∨letter=102) by omega),if_neg h50,if_pos h56]
 exact ⟨(),trivial,by rw [hop,late_perhaps];rfl,Lh⟩
 refine Zh (Zi (Zy J J (Zp J (Zn (Za (wC (fun h64=>?_) (fun h64=>?_)))))))
 refine Zh (wDrawG J [0,1,2,3] [(4,[0,1],[]),(5,[],[])] [6] 24 ZK J J (fun w0=>?_))
 refine Zla ?_
 refine Zo J (Zz (n:=0) (m:=0) J J J (Zld ?_))
 refine Z4 (Z5 J ?_)
 (refine ZC0 rfl ZK (fun w hS=>frame hS ZQ (fun B' hB hS'=>ref5_Answers hS' f.fClass)) ?_;rintro ⟨⟩ -)
 refine ZG ?_ J (fun w0=>?_)
 refine Z8 J J J J (fun w0=>?_) ?_
 refine Zla ?_
 exact Z9 rfl
 refine Z8 J J J J (fun w0=>?_) ?_
 refine Zo J ?_
 exact Z9 rfl
 exact AgainG.nil
 refine Z4 (Z5 J ?_)
 (refine ZC0 rfl ZK (fun w hS=>frame hS ZQ (fun B' hB hS'=>ref17_perhaps hS' f _ (kApiFunc.K_grow hB hf) n (ansF f.fClass))) ?_;rintro ⟨⟩ -)
 refine ZG ?_ J (fun w0=>?_)
 exact AgainG.nil
 refine Z6 (Zp J (Zzd ?_))
 have hop:operK f k letter n=answF f.fKinds f.fClass n:=by unfold operK;rw [if_neg (show ¬ (letter=119∨letter=114) by omega),if_neg (show ¬ (letter=103∨letter=102) by omega),if_neg h50,if_neg h56,if_pos h64]
 exact ⟨(),trivial,by rw [hop];rfl,Lh⟩
 refine Zh (Zzp ?_)
 exact ⟨(),trivial,by unfold operK;rw [if_neg ZO,if_neg ZO,if_neg h50,if_neg h56,if_neg h64];rfl,Lh⟩
 refine Zj (Zzm ?_)
 refine ZS0 (t:=11) (v':=.int .i64 k) rfl (by rw [← hk];unfold clsR;rw [if_neg h31,if_pos ZO]) ?_
 refine Zn (Za (Zk (Zh (Zh (Zi (Zy J J (Zp J (Zn (Za (wC (fun h36=>?_) (fun h36=>?_)))))))))))
 refine Zj (Za (ZY h36 ?_))
 refine Zh (Zi (Zla ?_))
 refine Zo J ?_
 (refine ZC0 rfl ZK (fun w hS=>frame hS ZQ (fun B' hB hS'=>ref17_slot hS' f _ (kApiFunc.K_grow hB hf) n 0)) ?_;rintro ⟨⟩ -)
 refine Zp J (Zzd ?_)
 exact ⟨(),trivial,by unfold operK;rw [if_pos ZO];rfl,Lh⟩
 refine Zi (Zy J J ?_)
 have hl119:¬ letter=119:=h36
 refine Zp J (Zn (Za (wC (fun h36=>?_) (fun h36=>?_))))
 refine Zh (Zi (Zla ?_))
 refine Zo J ?_
 (refine ZC0 rfl ZK (fun w hS=>frame hS ZQ (fun B' hB hS'=>ref17_slot hS' f _ (kApiFunc.K_grow hB hf) n 0)) ?_;rintro ⟨⟩ -)
 refine Zp J (Zzd ?_)
 exact ⟨(),trivial,by unfold operK;rw [if_pos ZO];rfl,Lh⟩
 refine Zh (Zh (Zi (Zy J J (Zp J (Zn (Za (wC (fun h42=>?_) (fun h42=>?_))))))))
 refine Zj (Za (ZY h42 ?_))
 refine Zh (Zi (Zla ?_))
 refine Zo J (Zo J (oAddW J J ?_))
 (refine ZC0 rfl ZK (fun w hS=>frame hS ZQ (fun B' hB hS'=>ref17_slot hS' f _ (kApiFunc.K_grow hB hf) n (IntKind.i64.wrap (1+k)))) ?_;rintro ⟨⟩ -)
 refine Zp J (Zzd ?_)
 exact ⟨(),trivial,by unfold operK;rw [if_neg ZO,if_pos ZO];rfl,Lh⟩
 refine Zi (Zy J J ?_)
 have hl103:¬ letter=103:=h42
 refine Zp J (Zn (Za (wC (fun h42=>?_) (fun h42=>?_))))
 refine Zh (Zi (Zla ?_))
 refine Zo J (Zo J (oAddW J J ?_))
 (refine ZC0 rfl ZK (fun w hS=>frame hS ZQ (fun B' hB hS'=>ref17_slot hS' f _ (kApiFunc.K_grow hB hf) n (IntKind.i64.wrap (1+k)))) ?_;rintro ⟨⟩ -)
 refine Zp J (Zzd ?_)
 exact ⟨(),trivial,by unfold operK;rw [if_neg ZO,if_pos ZO];rfl,Lh⟩
 refine Zh (Zi (Zy J J (Zp J (Zn (Za (wC (fun h50=>?_) (fun h50=>?_)))))))
 refine Zh (Zi (Zla ?_))
 refine Zo J (Zo J ?_)
 (refine ZC0 rfl ZK (fun w hS=>frame hS ZQ (fun B' hB hS'=>ref17_called hS' f _ (kApiFunc.K_grow hB hf) n k)) ?_;rintro ⟨⟩ -)
 refine Zp J (Zzd ?_)
 exact ⟨(),trivial,by unfold operK;rw [if_neg ZO,if_neg ZO,if_pos h50];rfl,Lh⟩
 refine Zh (Zi (Zy J J (Zp J (Zn (Za (wC (fun h56=>?_) (fun h56=>?_)))))))
 refine Zh (wDrawG J [0,1,2] [(3,[0,1],[4]),(5,[],[])] [6] 24 ZK J J (fun w0=>?_))
 refine Zla ?_
 refine Zo J (Zo J (Z4 (Z5 J ?_)))
 (refine ZC0 rfl ZK (fun w hS=>frame hS ZQ (fun B' hB hS'=>ref5_Params hS' k)) ?_;rintro ⟨⟩ -)
 refine ZG ?_ J (fun w0=>?_)
 refine Z8 J J J J (fun w0=>?_) ?_
 refine Zla ?_
 exact Z9 rfl
 refine Z8 J J J J (fun w0=>?_) ?_
 refine Zo J ?_
 exact Z9 rfl
 exact AgainG.nil
 refine Z1 J J (Z4 (Z5 J ?_))
 (refine ZC0 rfl ZK (fun w hS=>frame hS ZQ (fun B' hB hS'=>ref17_perhaps hS' f _ (kApiFunc.K_grow hB hf) n (decide (0<parF k)))) ?_;rintro ⟨⟩ -)
 refine ZG ?_ J (fun w0=>?_)
 exact AgainG.nil
 refine Z6 (Zp J (Zzd ?_))
 have hpn:=parF_in k
 have hop:operK f k letter n=lateF f.fKinds k n:=by unfold operK;rw [if_neg (show ¬ (letter=119∨letter=114) by omega),if_neg (show ¬ (letter=103∨letter=102) by omega),if_neg h50,if_pos h56]
 exact ⟨(),trivial,by rw [hop,late_perhaps];rfl,Lh⟩
 refine Zh (Zi (Zy J J (Zp J (Zn (Za (wC (fun h64=>?_) (fun h64=>?_)))))))
 refine Zh (wDrawG J [0,1,2,3] [(4,[0,1],[]),(5,[],[])] [6] 24 ZK J J (fun w0=>?_))
 refine Zla ?_
 refine Zo J (Zz (n:=0) (m:=0) J J J (Zld ?_))
 refine Z4 (Z5 J ?_)
 (refine ZC0 rfl ZK (fun w hS=>frame hS ZQ (fun B' hB hS'=>ref5_Answers hS' f.fClass)) ?_;rintro ⟨⟩ -)
 refine ZG ?_ J (fun w0=>?_)
 refine Z8 J J J J (fun w0=>?_) ?_
 refine Zla ?_
 exact Z9 rfl
 refine Z8 J J J J (fun w0=>?_) ?_
 refine Zo J ?_
 exact Z9 rfl
 exact AgainG.nil
 refine Z4 (Z5 J ?_)
 (refine ZC0 rfl ZK (fun w hS=>frame hS ZQ (fun B' hB hS'=>ref17_perhaps hS' f _ (kApiFunc.K_grow hB hf) n (ansF f.fClass))) ?_;rintro ⟨⟩ -)
 refine ZG ?_ J (fun w0=>?_)
 exact AgainG.nil
 refine Z6 (Zp J (Zzd ?_))
 have hop:operK f k letter n=answF f.fKinds f.fClass n:=by unfold operK;rw [if_neg (show ¬ (letter=119∨letter=114) by omega),if_neg (show ¬ (letter=103∨letter=102) by omega),if_neg h50,if_neg h56,if_pos h64]
 exact ⟨(),trivial,by rw [hop];rfl,Lh⟩
 refine Zh (Zzp ?_)
 exact ⟨(),trivial,by unfold operK;rw [if_neg ZO,if_neg ZO,if_neg h50,if_neg h56,if_neg h64];rfl,Lh⟩
 refine Zq J J (Zz (n:=0) (m:=0) J J J (Zzf ?_))
 refine Zq J J (Zy J J (Zu J J (Zo J (ZS (ZT 22) (fun h22=>?_) (fun h22=>?_)))))
 refine Zr J J J J (Zr J J J J (Zr J J J J (Zt J J (Zn (Za (wCondT J (Zi (Zz (n:=3) (m:=3) J J J (Zld ?_)))))))))
 refine Zp J (Zn (Za (Zh (Zh (Zi (Zz (n:=0) (m:=0) J J J (Zld ?_)))))))
 refine Zy J J (Zn (Za (wC (fun h31=>?_) (fun h31=>?_))))
 refine Zi (Zz (n:=3) (m:=3) J J J (Zld ?_))
 refine oSubW J J ?_
 rw [hz]
 refine Zp J (Zn (Zzm ?_))
 refine ZS0 (t:=11) (v':=.int .i64 k) rfl (by rw [← hk,← hz];unfold clsR;rw [if_pos h31]) ?_
 refine Zn (Za (Zk (Zh (Zh (Zi (Zy J J (Zp J (Zn (Za (wC (fun h36=>?_) (fun h36=>?_)))))))))))
 refine Zj (Za (ZY h36 ?_))
 refine Zh (Zi (Zla ?_))
 refine Zo J ?_
 (refine ZC0 rfl ZK (fun w hS=>frame hS ZQ (fun B' hB hS'=>ref17_slot hS' f _ (kApiFunc.K_grow hB hf) n 0)) ?_;rintro ⟨⟩ -)
 refine Zp J (Zzd ?_)
 exact ⟨(),trivial,by unfold operK;rw [if_pos ZO];rfl,Lh⟩
 refine Zi (Zy J J ?_)
 have hl119:¬ letter=119:=h36
 refine Zp J (Zn (Za (wC (fun h36=>?_) (fun h36=>?_))))
 refine Zh (Zi (Zla ?_))
 refine Zo J ?_
 (refine ZC0 rfl ZK (fun w hS=>frame hS ZQ (fun B' hB hS'=>ref17_slot hS' f _ (kApiFunc.K_grow hB hf) n 0)) ?_;rintro ⟨⟩ -)
 refine Zp J (Zzd ?_)
 exact ⟨(),trivial,by unfold operK;rw [if_pos ZO];rfl,Lh⟩
 refine Zh (Zh (Zi (Zy J J (Zp J (Zn (Za (wC (fun h42=>?_) (fun h42=>?_))))))))
 refine Zj (Za (ZY h42 ?_))
 refine Zh (Zi (Zla ?_))
 refine Zo J (Zo J (oAddW J J ?_))
 (refine ZC0 rfl ZK (fun w hS=>frame hS ZQ (fun B' hB hS'=>ref17_slot hS' f _ (kApiFunc.K_grow hB hf) n (IntKind.i64.wrap (1+k)))) ?_;rintro ⟨⟩ -)
 refine Zp J (Zzd ?_)
 exact ⟨(),trivial,by unfold operK;rw [if_neg ZO,if_pos ZO];rfl,Lh⟩
 refine Zi (Zy J J ?_)
 have hl103:¬ letter=103:=h42
 refine Zp J (Zn (Za (wC (fun h42=>?_) (fun h42=>?_))))
 refine Zh (Zi (Zla ?_))
 refine Zo J (Zo J (oAddW J J ?_))
 (refine ZC0 rfl ZK (fun w hS=>frame hS ZQ (fun B' hB hS'=>ref17_slot hS' f _ (kApiFunc.K_grow hB hf) n (IntKind.i64.wrap (1+k)))) ?_;rintro ⟨⟩ -)
 refine Zp J (Zzd ?_)
 exact ⟨(),trivial,by unfold operK;rw [if_neg ZO,if_pos ZO];rfl,Lh⟩
 refine Zh (Zi (Zy J J (Zp J (Zn (Za (wC (fun h50=>?_) (fun h50=>?_)))))))
 refine Zh (Zi (Zla ?_))
 refine Zo J (Zo J ?_)
 (refine ZC0 rfl ZK (fun w hS=>frame hS ZQ (fun B' hB hS'=>ref17_called hS' f _ (kApiFunc.K_grow hB hf) n k)) ?_;rintro ⟨⟩ -)
 refine Zp J (Zzd ?_)
 exact ⟨(),trivial,by unfold operK;rw [if_neg ZO,if_neg ZO,if_pos h50];rfl,Lh⟩
 refine Zh (Zi (Zy J J (Zp J (Zn (Za (wC (fun h56=>?_) (fun h56=>?_)))))))
 refine Zh (wDrawG J [0,1,2] [(3,[0,1],[4]),(5,[],[])] [6] 24 ZK J J (fun w0=>?_))
 refine Zla ?_
 refine Zo J (Zo J (Z4 (Z5 J ?_)))
 (refine ZC0 rfl ZK (fun w hS=>frame hS ZQ (fun B' hB hS'=>ref5_Params hS' k)) ?_;rintro ⟨⟩ -)
 refine ZG ?_ J (fun w0=>?_)
 refine Z8 J J J J (fun w0=>?_) ?_
 refine Zla ?_
 exact Z9 rfl
 refine Z8 J J J J (fun w0=>?_) ?_
 refine Zo J ?_
 exact Z9 rfl
 exact AgainG.nil
 refine Z1 J J (Z4 (Z5 J ?_))
 (refine ZC0 rfl ZK (fun w hS=>frame hS ZQ (fun B' hB hS'=>ref17_perhaps hS' f _ (kApiFunc.K_grow hB hf) n (decide (0<parF k)))) ?_;rintro ⟨⟩ -)
 refine ZG ?_ J (fun w0=>?_)
 exact AgainG.nil
 refine Z6 (Zp J (Zzd ?_))
 have hpn:=parF_in k
 have hop:operK f k letter n=lateF f.fKinds k n:=by unfold operK;rw [if_neg (show ¬ (letter=119∨letter=114) by omega),if_neg (show ¬ (letter=103∨letter=102) by omega),if_neg h50,if_pos h56]
 exact ⟨(),trivial,by rw [hop,late_perhaps];rfl,Lh⟩
 refine Zh (Zi (Zy J J (Zp J (Zn (Za (wC (fun h64=>?_) (fun h64=>?_)))))))
 refine Zh (wDrawG J [0,1,2,3] [(4,[0,1],[]),(5,[],[])] [6] 24 ZK J J (fun w0=>?_))
 refine Zla ?_
 refine Zo J (Zz (n:=0) (m:=0) J J J (Zld ?_))
 refine Z4 (Z5 J ?_)
 (refine ZC0 rfl ZK (fun w hS=>frame hS ZQ (fun B' hB hS'=>ref5_Answers hS' f.fClass)) ?_;rintro ⟨⟩ -)
 refine ZG ?_ J (fun w0=>?_)
 refine Z8 J J J J (fun w0=>?_) ?_
 refine Zla ?_
 exact Z9 rfl
 refine Z8 J J J J (fun w0=>?_) ?_
 refine Zo J ?_
 exact Z9 rfl
 exact AgainG.nil
 refine Z4 (Z5 J ?_)
 (refine ZC0 rfl ZK (fun w hS=>frame hS ZQ (fun B' hB hS'=>ref17_perhaps hS' f _ (kApiFunc.K_grow hB hf) n (ansF f.fClass))) ?_;rintro ⟨⟩ -)
 refine ZG ?_ J (fun w0=>?_)
 exact AgainG.nil
 refine Z6 (Zp J (Zzd ?_))
 have hop:operK f k letter n=answF f.fKinds f.fClass n:=by unfold operK;rw [if_neg (show ¬ (letter=119∨letter=114) by omega),if_neg (show ¬ (letter=103∨letter=102) by omega),if_neg h50,if_neg h56,if_pos h64]
 exact ⟨(),trivial,by rw [hop];rfl,Lh⟩
 refine Zh (Zzp ?_)
 exact ⟨(),trivial,by unfold operK;rw [if_neg ZO,if_neg ZO,if_neg h50,if_neg h56,if_neg h64];rfl,Lh⟩
 refine Zj (Zzm ?_)
 refine ZS0 (t:=11) (v':=.int .i64 k) rfl (by rw [← hk];unfold clsR;rw [if_neg h31,if_pos ZO]) ?_
 refine Zn (Za (Zk (Zh (Zh (Zi (Zy J J (Zp J (Zn (Za (wC (fun h36=>?_) (fun h36=>?_)))))))))))
 refine Zj (Za (ZY h36 ?_))
 refine Zh (Zi (Zla ?_))
 refine Zo J ?_
 (refine ZC0 rfl ZK (fun w hS=>frame hS ZQ (fun B' hB hS'=>ref17_slot hS' f _ (kApiFunc.K_grow hB hf) n 0)) ?_;rintro ⟨⟩ -)
 refine Zp J (Zzd ?_)
 exact ⟨(),trivial,by unfold operK;rw [if_pos ZO];rfl,Lh⟩
 refine Zi (Zy J J ?_)
 have hl119:¬ letter=119:=h36
 refine Zp J (Zn (Za (wC (fun h36=>?_) (fun h36=>?_))))
 refine Zh (Zi (Zla ?_))
 refine Zo J ?_
 (refine ZC0 rfl ZK (fun w hS=>frame hS ZQ (fun B' hB hS'=>ref17_slot hS' f _ (kApiFunc.K_grow hB hf) n 0)) ?_;rintro ⟨⟩ -)
 refine Zp J (Zzd ?_)
 exact ⟨(),trivial,by unfold operK;rw [if_pos ZO];rfl,Lh⟩
 refine Zh (Zh (Zi (Zy J J (Zp J (Zn (Za (wC (fun h42=>?_) (fun h42=>?_))))))))
 refine Zj (Za (ZY h42 ?_))
 refine Zh (Zi (Zla ?_))
 refine Zo J (Zo J (oAddW J J ?_))
 (refine ZC0 rfl ZK (fun w hS=>frame hS ZQ (fun B' hB hS'=>ref17_slot hS' f _ (kApiFunc.K_grow hB hf) n (IntKind.i64.wrap (1+k)))) ?_;rintro ⟨⟩ -)
 refine Zp J (Zzd ?_)
 exact ⟨(),trivial,by unfold operK;rw [if_neg ZO,if_pos ZO];rfl,Lh⟩
 refine Zi (Zy J J ?_)
 have hl103:¬ letter=103:=h42
 refine Zp J (Zn (Za (wC (fun h42=>?_) (fun h42=>?_))))
 refine Zh (Zi (Zla ?_))
 refine Zo J (Zo J (oAddW J J ?_))
 (refine ZC0 rfl ZK (fun w hS=>frame hS ZQ (fun B' hB hS'=>ref17_slot hS' f _ (kApiFunc.K_grow hB hf) n (IntKind.i64.wrap (1+k)))) ?_;rintro ⟨⟩ -)
 refine Zp J (Zzd ?_)
 exact ⟨(),trivial,by unfold operK;rw [if_neg ZO,if_pos ZO];rfl,Lh⟩
 refine Zh (Zi (Zy J J (Zp J (Zn (Za (wC (fun h50=>?_) (fun h50=>?_)))))))
 refine Zh (Zi (Zla ?_))
 refine Zo J (Zo J ?_)
 (refine ZC0 rfl ZK (fun w hS=>frame hS ZQ (fun B' hB hS'=>ref17_called hS' f _ (kApiFunc.K_grow hB hf) n k)) ?_;rintro ⟨⟩ -)
 refine Zp J (Zzd ?_)
 exact ⟨(),trivial,by unfold operK;rw [if_neg ZO,if_neg ZO,if_pos h50];rfl,Lh⟩
 refine Zh (Zi (Zy J J (Zp J (Zn (Za (wC (fun h56=>?_) (fun h56=>?_)))))))
 refine Zh (wDrawG J [0,1,2] [(3,[0,1],[4]),(5,[],[])] [6] 24 ZK J J (fun w0=>?_))
 refine Zla ?_
 refine Zo J (Zo J (Z4 (Z5 J ?_)))
 (refine ZC0 rfl ZK (fun w hS=>frame hS ZQ (fun B' hB hS'=>ref5_Params hS' k)) ?_;rintro ⟨⟩ -)
 refine ZG ?_ J (fun w0=>?_)
 refine Z8 J J J J (fun w0=>?_) ?_
 refine Zla ?_
 exact Z9 rfl
 refine Z8 J J J J (fun w0=>?_) ?_
 refine Zo J ?_
 exact Z9 rfl
 exact AgainG.nil
 refine Z1 J J (Z4 (Z5 J ?_))
 (refine ZC0 rfl ZK (fun w hS=>frame hS ZQ (fun B' hB hS'=>ref17_perhaps hS' f _ (kApiFunc.K_grow hB hf) n (decide (0<parF k)))) ?_;rintro ⟨⟩ -)
 refine ZG ?_ J (fun w0=>?_)
 exact AgainG.nil
 refine Z6 (Zp J (Zzd ?_))
 have hpn:=parF_in k
 have hop:operK f k letter n=lateF f.fKinds k n:=by unfold operK;rw [if_neg (show ¬ (letter=119∨letter=114) by omega),if_neg (show ¬ (letter=103∨letter=102) by omega),if_neg h50,if_pos h56]
 exact ⟨(),trivial,by rw [hop,late_perhaps];rfl,Lh⟩
 refine Zh (Zi (Zy J J (Zp J (Zn (Za (wC (fun h64=>?_) (fun h64=>?_)))))))
 refine Zh (wDrawG J [0,1,2,3] [(4,[0,1],[]),(5,[],[])] [6] 24 ZK J J (fun w0=>?_))
 refine Zla ?_
 refine Zo J (Zz (n:=0) (m:=0) J J J (Zld ?_))
 refine Z4 (Z5 J ?_)
 (refine ZC0 rfl ZK (fun w hS=>frame hS ZQ (fun B' hB hS'=>ref5_Answers hS' f.fClass)) ?_;rintro ⟨⟩ -)
 refine ZG ?_ J (fun w0=>?_)
 refine Z8 J J J J (fun w0=>?_) ?_
 refine Zla ?_
 exact Z9 rfl
 refine Z8 J J J J (fun w0=>?_) ?_
 refine Zo J ?_
 exact Z9 rfl
 exact AgainG.nil
 refine Z4 (Z5 J ?_)
 (refine ZC0 rfl ZK (fun w hS=>frame hS ZQ (fun B' hB hS'=>ref17_perhaps hS' f _ (kApiFunc.K_grow hB hf) n (ansF f.fClass))) ?_;rintro ⟨⟩ -)
 refine ZG ?_ J (fun w0=>?_)
 exact AgainG.nil
 refine Z6 (Zp J (Zzd ?_))
 have hop:operK f k letter n=answF f.fKinds f.fClass n:=by unfold operK;rw [if_neg (show ¬ (letter=119∨letter=114) by omega),if_neg (show ¬ (letter=103∨letter=102) by omega),if_neg h50,if_neg h56,if_pos h64]
 exact ⟨(),trivial,by rw [hop];rfl,Lh⟩
 refine Zh (Zzp ?_)
 exact ⟨(),trivial,by unfold operK;rw [if_neg ZO,if_neg ZO,if_neg h50,if_neg h56,if_neg h64];rfl,Lh⟩
 refine Zq J J (Zz (n:=0) (m:=0) J J J (Zzf ?_))
 refine Zq J J (Zy J J (Zu J J (Zn (Za (wC (fun h26=>?_) (fun h26=>?_))))))
 refine Zi (Zz (n:=3) (m:=3) J J J (Zld ?_))
 refine Zp J (Zn (Za (Zh (Zh (Zi (Zz (n:=0) (m:=0) J J J (Zld ?_)))))))
 refine Zy J J (Zn (Za (wC (fun h31=>?_) (fun h31=>?_))))
 refine Zi (Zz (n:=3) (m:=3) J J J (Zld ?_))
 refine oSubW J J ?_
 rw [hz]
 refine Zp J (Zn (Zzm ?_))
 refine ZS0 (t:=11) (v':=.int .i64 k) rfl (by rw [← hk,← hz];unfold clsR;rw [if_pos h31]) ?_
 refine Zn (Za (Zk (Zh (Zh (Zi (Zy J J (Zp J (Zn (Za (wC (fun h36=>?_) (fun h36=>?_)))))))))))
 refine Zj (Za (ZY h36 ?_))
 refine Zh (Zi (Zla ?_))
 refine Zo J ?_
 (refine ZC0 rfl ZK (fun w hS=>frame hS ZQ (fun B' hB hS'=>ref17_slot hS' f _ (kApiFunc.K_grow hB hf) n 0)) ?_;rintro ⟨⟩ -)
 refine Zp J (Zzd ?_)
 exact ⟨(),trivial,by unfold operK;rw [if_pos ZO];rfl,Lh⟩
 refine Zi (Zy J J ?_)
 have hl119:¬ letter=119:=h36
 refine Zp J (Zn (Za (wC (fun h36=>?_) (fun h36=>?_))))
 refine Zh (Zi (Zla ?_))
 refine Zo J ?_
 (refine ZC0 rfl ZK (fun w hS=>frame hS ZQ (fun B' hB hS'=>ref17_slot hS' f _ (kApiFunc.K_grow hB hf) n 0)) ?_;rintro ⟨⟩ -)
 refine Zp J (Zzd ?_)
 exact ⟨(),trivial,by unfold operK;rw [if_pos ZO];rfl,Lh⟩
 refine Zh (Zh (Zi (Zy J J (Zp J (Zn (Za (wC (fun h42=>?_) (fun h42=>?_))))))))
 refine Zj (Za (ZY h42 ?_))
 refine Zh (Zi (Zla ?_))
 refine Zo J (Zo J (oAddW J J ?_))
 (refine ZC0 rfl ZK (fun w hS=>frame hS ZQ (fun B' hB hS'=>ref17_slot hS' f _ (kApiFunc.K_grow hB hf) n (IntKind.i64.wrap (1+k)))) ?_;rintro ⟨⟩ -)
 refine Zp J (Zzd ?_)
 exact ⟨(),trivial,by unfold operK;rw [if_neg ZO,if_pos ZO];rfl,Lh⟩
 refine Zi (Zy J J ?_)
 have hl103:¬ letter=103:=h42
 refine Zp J (Zn (Za (wC (fun h42=>?_) (fun h42=>?_))))
 refine Zh (Zi (Zla ?_))
 refine Zo J (Zo J (oAddW J J ?_))
 (refine ZC0 rfl ZK (fun w hS=>frame hS ZQ (fun B' hB hS'=>ref17_slot hS' f _ (kApiFunc.K_grow hB hf) n (IntKind.i64.wrap (1+k)))) ?_;rintro ⟨⟩ -)
 refine Zp J (Zzd ?_)
 exact ⟨(),trivial,by unfold operK;rw [if_neg ZO,if_pos ZO];rfl,Lh⟩
 refine Zh (Zi (Zy J J (Zp J (Zn (Za (wC (fun h50=>?_) (fun h50=>?_)))))))
 refine Zh (Zi (Zla ?_))
 refine Zo J (Zo J ?_)
 (refine ZC0 rfl ZK (fun w hS=>frame hS ZQ (fun B' hB hS'=>ref17_called hS' f _ (kApiFunc.K_grow hB hf) n k)) ?_;rintro ⟨⟩ -)
 refine Zp J (Zzd ?_)
 exact ⟨(),trivial,by unfold operK;rw [if_neg ZO,if_neg ZO,if_pos h50];rfl,Lh⟩
 refine Zh (Zi (Zy J J (Zp J (Zn (Za (wC (fun h56=>?_) (fun h56=>?_)))))))
 refine Zh (wDrawG J [0,1,2] [(3,[0,1],[4]),(5,[],[])] [6] 24 ZK J J (fun w0=>?_))
 refine Zla ?_
 refine Zo J (Zo J (Z4 (Z5 J ?_)))
 (refine ZC0 rfl ZK (fun w hS=>frame hS ZQ (fun B' hB hS'=>ref5_Params hS' k)) ?_;rintro ⟨⟩ -)
 refine ZG ?_ J (fun w0=>?_)
 refine Z8 J J J J (fun w0=>?_) ?_
 refine Zla ?_
 exact Z9 rfl
 refine Z8 J J J J (fun w0=>?_) ?_
 refine Zo J ?_
 exact Z9 rfl
 exact AgainG.nil
 refine Z1 J J (Z4 (Z5 J ?_))
 (refine ZC0 rfl ZK (fun w hS=>frame hS ZQ (fun B' hB hS'=>ref17_perhaps hS' f _ (kApiFunc.K_grow hB hf) n (decide (0<parF k)))) ?_;rintro ⟨⟩ -)
 refine ZG ?_ J (fun w0=>?_)
 exact AgainG.nil
 refine Z6 (Zp J (Zzd ?_))
 have hpn:=parF_in k
 have hop:operK f k letter n=lateF f.fKinds k n:=by unfold operK;rw [if_neg (show ¬ (letter=119∨letter=114) by omega),if_neg (show ¬ (letter=103∨letter=102) by omega),if_neg h50,if_pos h56]
 exact ⟨(),trivial,by rw [hop,late_perhaps];rfl,Lh⟩
 refine Zh (Zi (Zy J J (Zp J (Zn (Za (wC (fun h64=>?_) (fun h64=>?_)))))))
 refine Zh (wDrawG J [0,1,2,3] [(4,[0,1],[]),(5,[],[])] [6] 24 ZK J J (fun w0=>?_))
 refine Zla ?_
 refine Zo J (Zz (n:=0) (m:=0) J J J (Zld ?_))
 refine Z4 (Z5 J ?_)
 (refine ZC0 rfl ZK (fun w hS=>frame hS ZQ (fun B' hB hS'=>ref5_Answers hS' f.fClass)) ?_;rintro ⟨⟩ -)
 refine ZG ?_ J (fun w0=>?_)
 refine Z8 J J J J (fun w0=>?_) ?_
 refine Zla ?_
 exact Z9 rfl
 refine Z8 J J J J (fun w0=>?_) ?_
 refine Zo J ?_
 exact Z9 rfl
 exact AgainG.nil
 refine Z4 (Z5 J ?_)
 (refine ZC0 rfl ZK (fun w hS=>frame hS ZQ (fun B' hB hS'=>ref17_perhaps hS' f _ (kApiFunc.K_grow hB hf) n (ansF f.fClass))) ?_;rintro ⟨⟩ -)
 refine ZG ?_ J (fun w0=>?_)
 exact AgainG.nil
 refine Z6 (Zp J (Zzd ?_))
 have hop:operK f k letter n=answF f.fKinds f.fClass n:=by unfold operK;rw [if_neg (show ¬ (letter=119∨letter=114) by omega),if_neg (show ¬ (letter=103∨letter=102) by omega),if_neg h50,if_neg h56,if_pos h64]
 exact ⟨(),trivial,by rw [hop];rfl,Lh⟩
 refine Zh (Zzp ?_)
 exact ⟨(),trivial,by unfold operK;rw [if_neg ZO,if_neg ZO,if_neg h50,if_neg h56,if_neg h64];rfl,Lh⟩
 refine Zj (Zzm ?_)
 refine ZS0 (t:=11) (v':=.int .i64 k) rfl (by rw [← hk];unfold clsR;rw [if_neg h31,if_pos ZO]) ?_
 refine Zn (Za (Zk (Zh (Zh (Zi (Zy J J (Zp J (Zn (Za (wC (fun h36=>?_) (fun h36=>?_)))))))))))
 refine Zj (Za (ZY h36 ?_))
 refine Zh (Zi (Zla ?_))
 refine Zo J ?_
 (refine ZC0 rfl ZK (fun w hS=>frame hS ZQ (fun B' hB hS'=>ref17_slot hS' f _ (kApiFunc.K_grow hB hf) n 0)) ?_;rintro ⟨⟩ -)
 refine Zp J (Zzd ?_)
 exact ⟨(),trivial,by unfold operK;rw [if_pos ZO];rfl,Lh⟩
 refine Zi (Zy J J ?_)
 have hl119:¬ letter=119:=h36
 refine Zp J (Zn (Za (wC (fun h36=>?_) (fun h36=>?_))))
 refine Zh (Zi (Zla ?_))
 refine Zo J ?_
 (refine ZC0 rfl ZK (fun w hS=>frame hS ZQ (fun B' hB hS'=>ref17_slot hS' f _ (kApiFunc.K_grow hB hf) n 0)) ?_;rintro ⟨⟩ -)
 refine Zp J (Zzd ?_)
 exact ⟨(),trivial,by unfold operK;rw [if_pos ZO];rfl,Lh⟩
 refine Zh (Zh (Zi (Zy J J (Zp J (Zn (Za (wC (fun h42=>?_) (fun h42=>?_))))))))
 refine Zj (Za (ZY h42 ?_))
 refine Zh (Zi (Zla ?_))
 refine Zo J (Zo J (oAddW J J ?_))
 (refine ZC0 rfl ZK (fun w hS=>frame hS ZQ (fun B' hB hS'=>ref17_slot hS' f _ (kApiFunc.K_grow hB hf) n (IntKind.i64.wrap (1+k)))) ?_;rintro ⟨⟩ -)
 refine Zp J (Zzd ?_)
 exact ⟨(),trivial,by unfold operK;rw [if_neg ZO,if_pos ZO];rfl,Lh⟩
 refine Zi (Zy J J ?_)
 have hl103:¬ letter=103:=h42
 refine Zp J (Zn (Za (wC (fun h42=>?_) (fun h42=>?_))))
 refine Zh (Zi (Zla ?_))
 refine Zo J (Zo J (oAddW J J ?_))
 (refine ZC0 rfl ZK (fun w hS=>frame hS ZQ (fun B' hB hS'=>ref17_slot hS' f _ (kApiFunc.K_grow hB hf) n (IntKind.i64.wrap (1+k)))) ?_;rintro ⟨⟩ -)
 refine Zp J (Zzd ?_)
 exact ⟨(),trivial,by unfold operK;rw [if_neg ZO,if_pos ZO];rfl,Lh⟩
 refine Zh (Zi (Zy J J (Zp J (Zn (Za (wC (fun h50=>?_) (fun h50=>?_)))))))
 refine Zh (Zi (Zla ?_))
 refine Zo J (Zo J ?_)
 (refine ZC0 rfl ZK (fun w hS=>frame hS ZQ (fun B' hB hS'=>ref17_called hS' f _ (kApiFunc.K_grow hB hf) n k)) ?_;rintro ⟨⟩ -)
 refine Zp J (Zzd ?_)
 exact ⟨(),trivial,by unfold operK;rw [if_neg ZO,if_neg ZO,if_pos h50];rfl,Lh⟩
 refine Zh (Zi (Zy J J (Zp J (Zn (Za (wC (fun h56=>?_) (fun h56=>?_)))))))
 refine Zh (wDrawG J [0,1,2] [(3,[0,1],[4]),(5,[],[])] [6] 24 ZK J J (fun w0=>?_))
 refine Zla ?_
 refine Zo J (Zo J (Z4 (Z5 J ?_)))
 (refine ZC0 rfl ZK (fun w hS=>frame hS ZQ (fun B' hB hS'=>ref5_Params hS' k)) ?_;rintro ⟨⟩ -)
 refine ZG ?_ J (fun w0=>?_)
 refine Z8 J J J J (fun w0=>?_) ?_
 refine Zla ?_
 exact Z9 rfl
 refine Z8 J J J J (fun w0=>?_) ?_
 refine Zo J ?_
 exact Z9 rfl
 exact AgainG.nil
 refine Z1 J J (Z4 (Z5 J ?_))
 (refine ZC0 rfl ZK (fun w hS=>frame hS ZQ (fun B' hB hS'=>ref17_perhaps hS' f _ (kApiFunc.K_grow hB hf) n (decide (0<parF k)))) ?_;rintro ⟨⟩ -)
 refine ZG ?_ J (fun w0=>?_)
 exact AgainG.nil
 refine Z6 (Zp J (Zzd ?_))
 have hpn:=parF_in k
 have hop:operK f k letter n=lateF f.fKinds k n:=by unfold operK;rw [if_neg (show ¬ (letter=119∨letter=114) by omega),if_neg (show ¬ (letter=103∨letter=102) by omega),if_neg h50,if_pos h56]
 exact ⟨(),trivial,by rw [hop,late_perhaps];rfl,Lh⟩
 refine Zh (Zi (Zy J J (Zp J (Zn (Za (wC (fun h64=>?_) (fun h64=>?_)))))))
 refine Zh (wDrawG J [0,1,2,3] [(4,[0,1],[]),(5,[],[])] [6] 24 ZK J J (fun w0=>?_))
 refine Zla ?_
 refine Zo J (Zz (n:=0) (m:=0) J J J (Zld ?_))
 refine Z4 (Z5 J ?_)
 (refine ZC0 rfl ZK (fun w hS=>frame hS ZQ (fun B' hB hS'=>ref5_Answers hS' f.fClass)) ?_;rintro ⟨⟩ -)
 refine ZG ?_ J (fun w0=>?_)
 refine Z8 J J J J (fun w0=>?_) ?_
 refine Zla ?_
 exact Z9 rfl
 refine Z8 J J J J (fun w0=>?_) ?_
 refine Zo J ?_
 exact Z9 rfl
 exact AgainG.nil
 refine Z4 (Z5 J ?_)
 (refine ZC0 rfl ZK (fun w hS=>frame hS ZQ (fun B' hB hS'=>ref17_perhaps hS' f _ (kApiFunc.K_grow hB hf) n (ansF f.fClass))) ?_;rintro ⟨⟩ -)
 refine ZG ?_ J (fun w0=>?_)
 exact AgainG.nil
 refine Z6 (Zp J (Zzd ?_))
 have hop:operK f k letter n=answF f.fKinds f.fClass n:=by unfold operK;rw [if_neg (show ¬ (letter=119∨letter=114) by omega),if_neg (show ¬ (letter=103∨letter=102) by omega),if_neg h50,if_neg h56,if_pos h64]
 exact ⟨(),trivial,by rw [hop];rfl,Lh⟩
 refine Zh (Zzp ?_)
 exact ⟨(),trivial,by unfold operK;rw [if_neg ZO,if_neg ZO,if_neg h50,if_neg h56,if_neg h64];rfl,Lh⟩
 refine Zj (Za (Zh (Zh (Zi (Zz (n:=0) (m:=0) J J J (Zld ?_))))))
 refine Zy J J (Zn (Za (wC (fun h31=>?_) (fun h31=>?_))))
 refine Zi (Zz (n:=3) (m:=3) J J J (Zld ?_))
 refine oSubW J J ?_
 rw [hz]
 refine Zp J (Zn (Zzm ?_))
 refine ZS0 (t:=11) (v':=.int .i64 k) rfl (by rw [← hk,← hz];unfold clsR;rw [if_pos h31]) ?_
 refine Zn (Za (Zk (Zh (Zh (Zi (Zy J J (Zp J (Zn (Za (wC (fun h36=>?_) (fun h36=>?_)))))))))))
 refine Zj (Za (ZY h36 ?_))
 refine Zh (Zi (Zla ?_))
 refine Zo J ?_
 (refine ZC0 rfl ZK (fun w hS=>frame hS ZQ (fun B' hB hS'=>ref17_slot hS' f _ (kApiFunc.K_grow hB hf) n 0)) ?_;rintro ⟨⟩ -)
 refine Zp J (Zzd ?_)
 exact ⟨(),trivial,by unfold operK;rw [if_pos ZO];rfl,Lh⟩
 refine Zi (Zy J J ?_)
 have hl119:¬ letter=119:=h36
 refine Zp J (Zn (Za (wC (fun h36=>?_) (fun h36=>?_))))
 refine Zh (Zi (Zla ?_))
 refine Zo J ?_
 (refine ZC0 rfl ZK (fun w hS=>frame hS ZQ (fun B' hB hS'=>ref17_slot hS' f _ (kApiFunc.K_grow hB hf) n 0)) ?_;rintro ⟨⟩ -)
 refine Zp J (Zzd ?_)
 exact ⟨(),trivial,by unfold operK;rw [if_pos ZO];rfl,Lh⟩
 refine Zh (Zh (Zi (Zy J J (Zp J (Zn (Za (wC (fun h42=>?_) (fun h42=>?_))))))))
 refine Zj (Za (ZY h42 ?_))
 refine Zh (Zi (Zla ?_))
 refine Zo J (Zo J (oAddW J J ?_))
 (refine ZC0 rfl ZK (fun w hS=>frame hS ZQ (fun B' hB hS'=>ref17_slot hS' f _ (kApiFunc.K_grow hB hf) n (IntKind.i64.wrap (1+k)))) ?_;rintro ⟨⟩ -)
 refine Zp J (Zzd ?_)
 exact ⟨(),trivial,by unfold operK;rw [if_neg ZO,if_pos ZO];rfl,Lh⟩
 refine Zi (Zy J J ?_)
 have hl103:¬ letter=103:=h42
 refine Zp J (Zn (Za (wC (fun h42=>?_) (fun h42=>?_))))
 refine Zh (Zi (Zla ?_))
 refine Zo J (Zo J (oAddW J J ?_))
 (refine ZC0 rfl ZK (fun w hS=>frame hS ZQ (fun B' hB hS'=>ref17_slot hS' f _ (kApiFunc.K_grow hB hf) n (IntKind.i64.wrap (1+k)))) ?_;rintro ⟨⟩ -)
 refine Zp J (Zzd ?_)
 exact ⟨(),trivial,by unfold operK;rw [if_neg ZO,if_pos ZO];rfl,Lh⟩
 refine Zh (Zi (Zy J J (Zp J (Zn (Za (wC (fun h50=>?_) (fun h50=>?_)))))))
 refine Zh (Zi (Zla ?_))
 refine Zo J (Zo J ?_)
 (refine ZC0 rfl ZK (fun w hS=>frame hS ZQ (fun B' hB hS'=>ref17_called hS' f _ (kApiFunc.K_grow hB hf) n k)) ?_;rintro ⟨⟩ -)
 refine Zp J (Zzd ?_)
 exact ⟨(),trivial,by unfold operK;rw [if_neg ZO,if_neg ZO,if_pos h50];rfl,Lh⟩
 refine Zh (Zi (Zy J J (Zp J (Zn (Za (wC (fun h56=>?_) (fun h56=>?_)))))))
 refine Zh (wDrawG J [0,1,2] [(3,[0,1],[4]),(5,[],[])] [6] 24 ZK J J (fun w0=>?_))
 refine Zla ?_
 refine Zo J (Zo J (Z4 (Z5 J ?_)))
 (refine ZC0 rfl ZK (fun w hS=>frame hS ZQ (fun B' hB hS'=>ref5_Params hS' k)) ?_;rintro ⟨⟩ -)
 refine ZG ?_ J (fun w0=>?_)
 refine Z8 J J J J (fun w0=>?_) ?_
 refine Zla ?_
 exact Z9 rfl
 refine Z8 J J J J (fun w0=>?_) ?_
 refine Zo J ?_
 exact Z9 rfl
 exact AgainG.nil
 refine Z1 J J (Z4 (Z5 J ?_))
 (refine ZC0 rfl ZK (fun w hS=>frame hS ZQ (fun B' hB hS'=>ref17_perhaps hS' f _ (kApiFunc.K_grow hB hf) n (decide (0<parF k)))) ?_;rintro ⟨⟩ -)
 refine ZG ?_ J (fun w0=>?_)
 exact AgainG.nil
 refine Z6 (Zp J (Zzd ?_))
 have hpn:=parF_in k
 have hop:operK f k letter n=lateF f.fKinds k n:=by unfold operK;rw [if_neg (show ¬ (letter=119∨letter=114) by omega),if_neg (show ¬ (letter=103∨letter=102) by omega),if_neg h50,if_pos h56]
 exact ⟨(),trivial,by rw [hop,late_perhaps];rfl,Lh⟩
 refine Zh (Zi (Zy J J (Zp J (Zn (Za (wC (fun h64=>?_) (fun h64=>?_)))))))
 refine Zh (wDrawG J [0,1,2,3] [(4,[0,1],[]),(5,[],[])] [6] 24 ZK J J (fun w0=>?_))
 refine Zla ?_
 refine Zo J (Zz (n:=0) (m:=0) J J J (Zld ?_))
 refine Z4 (Z5 J ?_)
 (refine ZC0 rfl ZK (fun w hS=>frame hS ZQ (fun B' hB hS'=>ref5_Answers hS' f.fClass)) ?_;rintro ⟨⟩ -)
 refine ZG ?_ J (fun w0=>?_)
 refine Z8 J J J J (fun w0=>?_) ?_
 refine Zla ?_
 exact Z9 rfl
 refine Z8 J J J J (fun w0=>?_) ?_
 refine Zo J ?_
 exact Z9 rfl
 exact AgainG.nil
 refine Z4 (Z5 J ?_)
 (refine ZC0 rfl ZK (fun w hS=>frame hS ZQ (fun B' hB hS'=>ref17_perhaps hS' f _ (kApiFunc.K_grow hB hf) n (ansF f.fClass))) ?_;rintro ⟨⟩ -)
 refine ZG ?_ J (fun w0=>?_)
 exact AgainG.nil
 refine Z6 (Zp J (Zzd ?_))
 have hop:operK f k letter n=answF f.fKinds f.fClass n:=by unfold operK;rw [if_neg (show ¬ (letter=119∨letter=114) by omega),if_neg (show ¬ (letter=103∨letter=102) by omega),if_neg h50,if_neg h56,if_pos h64]
 exact ⟨(),trivial,by rw [hop];rfl,Lh⟩
 refine Zh (Zzp ?_)
 exact ⟨(),trivial,by unfold operK;rw [if_neg ZO,if_neg ZO,if_neg h50,if_neg h56,if_neg h64];rfl,Lh⟩
 refine Zj (Zzm ?_)
 refine ZS0 (t:=11) (v':=.int .i64 k) rfl (by rw [← hk];unfold clsR;rw [if_neg h31,if_neg ZO]) ?_
 refine Zn (Za (Zk (Zh (Zh (Zi (Zy J J (Zp J (Zn (Za (wC (fun h36=>?_) (fun h36=>?_)))))))))))
 refine Zj (Za (ZY h36 ?_))
 refine Zh (Zi (Zla ?_))
 refine Zo J ?_
 (refine ZC0 rfl ZK (fun w hS=>frame hS ZQ (fun B' hB hS'=>ref17_slot hS' f _ (kApiFunc.K_grow hB hf) n 0)) ?_;rintro ⟨⟩ -)
 refine Zp J (Zzd ?_)
 exact ⟨(),trivial,by unfold operK;rw [if_pos ZO];rfl,Lh⟩
 refine Zi (Zy J J ?_)
 have hl119:¬ letter=119:=h36
 refine Zp J (Zn (Za (wC (fun h36=>?_) (fun h36=>?_))))
 refine Zh (Zi (Zla ?_))
 refine Zo J ?_
 (refine ZC0 rfl ZK (fun w hS=>frame hS ZQ (fun B' hB hS'=>ref17_slot hS' f _ (kApiFunc.K_grow hB hf) n 0)) ?_;rintro ⟨⟩ -)
 refine Zp J (Zzd ?_)
 exact ⟨(),trivial,by unfold operK;rw [if_pos ZO];rfl,Lh⟩
 refine Zh (Zh (Zi (Zy J J (Zp J (Zn (Za (wC (fun h42=>?_) (fun h42=>?_))))))))
 refine Zj (Za (ZY h42 ?_))
 refine Zh (Zi (Zla ?_))
 refine Zo J (Zo J (oAddW J J ?_))
 (refine ZC0 rfl ZK (fun w hS=>frame hS ZQ (fun B' hB hS'=>ref17_slot hS' f _ (kApiFunc.K_grow hB hf) n (IntKind.i64.wrap (1+k)))) ?_;rintro ⟨⟩ -)
 refine Zp J (Zzd ?_)
 exact ⟨(),trivial,by unfold operK;rw [if_neg ZO,if_pos ZO];rfl,Lh⟩
 refine Zi (Zy J J ?_)
 have hl103:¬ letter=103:=h42
 refine Zp J (Zn (Za (wC (fun h42=>?_) (fun h42=>?_))))
 refine Zh (Zi (Zla ?_))
 refine Zo J (Zo J (oAddW J J ?_))
 (refine ZC0 rfl ZK (fun w hS=>frame hS ZQ (fun B' hB hS'=>ref17_slot hS' f _ (kApiFunc.K_grow hB hf) n (IntKind.i64.wrap (1+k)))) ?_;rintro ⟨⟩ -)
 refine Zp J (Zzd ?_)
 exact ⟨(),trivial,by unfold operK;rw [if_neg ZO,if_pos ZO];rfl,Lh⟩
 refine Zh (Zi (Zy J J (Zp J (Zn (Za (wC (fun h50=>?_) (fun h50=>?_)))))))
 refine Zh (Zi (Zla ?_))
 refine Zo J (Zo J ?_)
 (refine ZC0 rfl ZK (fun w hS=>frame hS ZQ (fun B' hB hS'=>ref17_called hS' f _ (kApiFunc.K_grow hB hf) n k)) ?_;rintro ⟨⟩ -)
 refine Zp J (Zzd ?_)
 exact ⟨(),trivial,by unfold operK;rw [if_neg ZO,if_neg ZO,if_pos h50];rfl,Lh⟩
 refine Zh (Zi (Zy J J (Zp J (Zn (Za (wC (fun h56=>?_) (fun h56=>?_)))))))
 refine Zh (wDrawG J [0,1,2] [(3,[0,1],[4]),(5,[],[])] [6] 24 ZK J J (fun w0=>?_))
 refine Zla ?_
 refine Zo J (Zo J (Z4 (Z5 J ?_)))
 (refine ZC0 rfl ZK (fun w hS=>frame hS ZQ (fun B' hB hS'=>ref5_Params hS' k)) ?_;rintro ⟨⟩ -)
 refine ZG ?_ J (fun w0=>?_)
 refine Z8 J J J J (fun w0=>?_) ?_
 refine Zla ?_
 exact Z9 rfl
 refine Z8 J J J J (fun w0=>?_) ?_
 refine Zo J ?_
 exact Z9 rfl
 exact AgainG.nil
 refine Z1 J J (Z4 (Z5 J ?_))
 (refine ZC0 rfl ZK (fun w hS=>frame hS ZQ (fun B' hB hS'=>ref17_perhaps hS' f _ (kApiFunc.K_grow hB hf) n (decide (0<parF k)))) ?_;rintro ⟨⟩ -)
 refine ZG ?_ J (fun w0=>?_)
 exact AgainG.nil
 refine Z6 (Zp J (Zzd ?_))
 have hpn:=parF_in k
 have hop:operK f k letter n=lateF f.fKinds k n:=by unfold operK;rw [if_neg (show ¬ (letter=119∨letter=114) by omega),if_neg (show ¬ (letter=103∨letter=102) by omega),if_neg h50,if_pos h56]
 exact ⟨(),trivial,by rw [hop,late_perhaps];rfl,Lh⟩
 refine Zh (Zi (Zy J J (Zp J (Zn (Za (wC (fun h64=>?_) (fun h64=>?_)))))))
 refine Zh (wDrawG J [0,1,2,3] [(4,[0,1],[]),(5,[],[])] [6] 24 ZK J J (fun w0=>?_))
 refine Zla ?_
 refine Zo J (Zz (n:=0) (m:=0) J J J (Zld ?_))
 refine Z4 (Z5 J ?_)
 (refine ZC0 rfl ZK (fun w hS=>frame hS ZQ (fun B' hB hS'=>ref5_Answers hS' f.fClass)) ?_;rintro ⟨⟩ -)
 refine ZG ?_ J (fun w0=>?_)
 refine Z8 J J J J (fun w0=>?_) ?_
 refine Zla ?_
 exact Z9 rfl
 refine Z8 J J J J (fun w0=>?_) ?_
 refine Zo J ?_
 exact Z9 rfl
 exact AgainG.nil
 refine Z4 (Z5 J ?_)
 (refine ZC0 rfl ZK (fun w hS=>frame hS ZQ (fun B' hB hS'=>ref17_perhaps hS' f _ (kApiFunc.K_grow hB hf) n (ansF f.fClass))) ?_;rintro ⟨⟩ -)
 refine ZG ?_ J (fun w0=>?_)
 exact AgainG.nil
 refine Z6 (Zp J (Zzd ?_))
 have hop:operK f k letter n=answF f.fKinds f.fClass n:=by unfold operK;rw [if_neg (show ¬ (letter=119∨letter=114) by omega),if_neg (show ¬ (letter=103∨letter=102) by omega),if_neg h50,if_neg h56,if_pos h64]
 exact ⟨(),trivial,by rw [hop];rfl,Lh⟩
 refine Zh (Zzp ?_)
 exact ⟨(),trivial,by unfold operK;rw [if_neg ZO,if_neg ZO,if_neg h50,if_neg h56,if_neg h64];rfl,Lh⟩
theorem ref17_Instr {B:Base}{w:World}(hS:St B [] w) (f:ApiFunc) (fc:List Value) (hf:kApiFunc.K B.e f fc) (Al:Option Addr) (cl:Nat) (l:List ApiSymbol) (hl:kApiSymbol.C B.e Al l) (i:Int) :
 CW 141 #[.agg fc.toArray,.slice Al l.length cl,.int .i64 i] w (Ret B (fun _:Unit=>True) (fun _=>.int .i64 (instrF f l i)) (fun _=>[])):=by
 obtain ⟨A0,c0,A1,c1,A2,c2,A3,c3,rfl,l0,g0,l1,g1,l2,g2,l3,g3⟩:=kApiFunc_open hf
 refine ZX Tryz.func141 hS ?_
 refine Zh (Zi (oBox J ZP (fun b3=>?_)))
 refine Zp J (Zn (Za (Zh (Zh (Zi (Zo J (Zx J J (Zo J (ZS (ZT 15) (fun h15=>?_) (fun h15=>?_))))))))))
 refine Zr J J J J (Zr J J J J (Zr J J J J (Zr J J J J (Zr J J J J (Zt J J (Zn (Za (wCondT J (ZzF ?_)))))))))
 exact ⟨(),trivial,by unfold instrF;rw [if_pos (.inl h15)];rfl,Lh⟩
 refine Zq J J (Zo J (Zq J J (Zz (n:=7) (m:=7) J J J (Zzf ?_))))
 refine Zq J J (Zv J J (Zq J J (Z2 J J (Zu J J (Zn (Za (wC (fun h21=>?_) (fun h21=>?_))))))))
 refine Zh (Zi (Zzb ?_))
 exact ⟨(),trivial,by unfold instrF;rw [if_pos (.inr h21)];rfl,Lh⟩
 have hir:¬ (i<0∨(f.fCode.length:Int)≤i):=by omega
 obtain ⟨n,rfl⟩:=Int.eq_ofNat_of_zero_le (show 0≤i by omega)
 have hnl:n<f.fCode.length:=by omega
 obtain ⟨x,hx⟩:∃ x,f.fCode[n]?=some x:=⟨_,List.getElem?_eq_getElem hnl⟩
 have hca:codeAt f (n:Int)=x:=by unfold codeAt;rw [Int.toNat_natCast,List.getD_eq_getElem?_getD,hx];rfl
 obtain ⟨e0,cs0,hE0⟩:=g2.elm hx
 obtain rfl:=kApiInstr_open hE0.K
 have hsz:=shapeF_size x.fOp
 have hs4:(shapeF x.fOp).size≤4:=by rw [hsz];split <;> omega
 refine Zj (Za (Zh (Zi (Zz (n:=7) (m:=7) J J J (Zld ?_)))))
 refine Zo J (oIdxE J J (hE0) ZO J J ?_)
 have hc25:=(hE0).cell
 refine Zlx hc25 ?_
 refine oAlloc J ZP (fun b7=>?_)
 refine Zsa ?_
 refine Zn (Zzj ?_)
 refine Zo J (Zo J ?_)
 (refine ZC0 rfl ZK (fun w hS=>frame hS ZQ (fun B' hB hS'=>ref17_refers hS' f _ (kApiFunc.K_grow hB hf) Al cl l (Kd.C_grow hB hl) n hnl)) ?_;rintro ⟨⟩ -)
 refine Zo J (oExt J ZP ?_)
 refine oExt J ZP ?_
 refine oAlloc J ZP (fun b8=>?_)
 refine Zsa ?_
 refine Zp J (Zn (Za (Zh (Zh (Zi (Zo J (Z0 J J (Zn (Za (wC (fun h35=>?_) (fun h35=>?_)))))))))))
 refine Zh (Zi (Zo J (Zzb ?_)))
 exact ⟨(),trivial,by unfold instrF;rw [if_neg hir,if_pos h35];rfl,Lh⟩
 have hiR:=instrF_R hir (Classical.not_not.1 h35)
 rw [hca] at hiR
 generalize hs:refS f l (n:Int)=s at *
 refine Zj (Za (Zh (Zh (Zi (Zz (n:=0) (m:=0) J J J (Zld ?_))))))
 refine Zy J J (Zo J (ZS (ZT 40) (fun h40=>?_) (fun h40=>?_)))
 refine Zq J J (Zz (n:=3) (m:=3) J J J (Zzf ?_))
 refine Zq J J ?_
 (refine ZC0 rfl ZK (fun w hS=>frame hS ZQ (fun B' hB hS'=>ref5_Is hS' x.fC)) ?_;rintro ⟨⟩ -)
 refine Zq J J (Zno ?_)
 refine Zt J J (Zo J (ZS (ZT 46) (fun h46=>?_) (fun h46=>?_)))
 refine Zr J J J J (Zr J J J J (Zr J J J J (Zr J J J J (Zs J J J (Zs J J J (Zs J J J (Zs J J J (Zr J J J J (Zt J J (Zn (Za (wCondT J (ZzF ?_)))))))))))))
 exact ⟨(),trivial,by rw [hiR,if_pos (by simp_all)];rfl,Lh⟩
 refine Zq J J (Zz (n:=0) (m:=0) J J J (Zzf ?_))
 refine Zq J J (Zy J J (Zq J J (Zo J (ZS (ZT 50) (fun h50=>?_) (fun h50=>?_)))))
 refine Zq J J (Zz (n:=3) (m:=3) J J J (Zzf ?_))
 refine Zq J J ?_
 (refine ZC0 rfl ZK (fun w hS=>frame hS ZQ (fun B' hB hS'=>ref5_Later hS' s.fKind)) ?_;rintro ⟨⟩ -)
 refine Zq J J (Zno ?_)
 refine Zq J J (Zt J J (Zu J J (Zn (Za (wC (fun h56=>?_) (fun h56=>?_))))))
 refine Zh (Zi (Zzb ?_))
 exact ⟨(),trivial,by rw [hiR,if_pos (by simp_all)];rfl,Lh⟩
 refine Zj (Za (Zh (Zi (Zz (n:=0) (m:=0) J J J (Zld ?_)))))
 (refine ZC0 rfl ZK (fun w hS=>frame hS ZQ (fun B' hB hS'=>ref7_Shape hS' x.fOp)) ?_;rintro ⟨⟩ -)
 rw [if_neg (by simp_all)] at hiR
 refine Zp J (Zn (Za (Zh (Zh (Zi (Zp J (Zn (Za (Zk (wLoop (ι:=Nat) (fun j=>[(3,.pointer (some ⟨b3,0,none⟩)),(7,.pointer (some ⟨b7,0,none⟩)),(8,.pointer (some ⟨b8,0,none⟩)),(10,.string (shapeF x.fOp)),(11,.int .i64 (j:Int))]) (fun j=>[blk b3 51 [.int .i64 f.fClass,.slice A0 f.fKinds.length c0,.int .i64 f.fPad,.bool f.fNosplit,.int .i64 f.fFrom,.int .i64 f.fTo,.slice A1 f.fLines.length c1,.slice A2 f.fCode.length c2,.slice A3 f.fRelocs.length c3],blk b7 90 [.int .i64 x.fOp,.int .i64 x.fA,.int .i64 x.fB,.int .i64 x.fC,.int .i64 x.fN],blk b8 44 (symL s)]) (fun j=>j≤(shapeF x.fOp).size∧fstE (((List.range (shapeF x.fOp).size).map (operR f x s)).take j)=0) (fun j=>(shapeF x.fOp).size-j) 0 ?_ cv (Leads.has ZQ) ?_))))))))))
 exact ⟨Nat.zero_le _,rfl⟩
 rintro j ⟨hj,hfs⟩
 try dsimp only
 refine Zh (Zh (Zi (Zo J (Zo J (oLenStr J J (Zx J J (Zn (Za (wC (fun h63=>?_) (fun h63=>?_))))))))))
 have hj4:j<(shapeF x.fOp).size:=by omega
 refine Zj (Za (Zh (Zk (Zh (wDrawG J [0,1,2,3,4,5,6,7] [(8,[0,1,2,3,4,5],[]),(9,[],[])] [10] 24 ZK J J (fun w0=>?_))))))
 refine Zla ?_
 refine Zla ?_
 refine Zla ?_
 refine Zo J (Zo J (oIndexStr J J J hj4 (Zla ?_)))
 refine Zo J (Z4 (Z5 J ?_))
 (refine ZC0 rfl ZK (fun w hS=>frame hS ZQ (fun B' hB hS'=>ref8_Operand hS' x _ (kApiInstr_mk _ x) (j:Int))) ?_;rintro ⟨⟩ -)
 refine ZG ?_ J (fun w0=>?_)
 refine Z8 J J J J (fun w0=>?_) ?_
 refine Zla ?_
 exact Z9 rfl
 refine Z8 J J J J (fun w0=>?_) ?_
 refine Zla ?_
 exact Z9 rfl
 refine Z8 J J J J (fun w0=>?_) ?_
 refine Zla ?_
 exact Z9 rfl
 refine Z8 J J J J (fun w0=>?_) ?_
 refine Zo J ?_
 exact Z9 rfl
 refine Z8 J J J J (fun w0=>?_) ?_
 refine Zo J ?_
 exact Z9 rfl
 refine Z8 J J J J (fun w0=>?_) ?_
 refine oIndexStr J J J hj4 ?_
 exact Z9 rfl
 exact AgainG.nil
 refine Z4 (Z5 J ?_)
 (refine ZC0 rfl ZK (fun w hS=>frame hS ZQ (fun B' hB hS'=>ref17_operand hS' f _ (kApiFunc.K_grow hB hf) x _ (kApiInstr_mk _ x) s (byteAt (shapeF x.fOp) j) (opdF x j))) ?_;rintro ⟨⟩ -)
 refine ZG ?_ J (fun w0=>?_)
 exact AgainG.nil
 refine Z6 (Zp J (Zn (Za (Zh (Zi (Zo J (Z0 J J (Zn (Za (wC (fun h77=>?_) (fun h77=>?_)))))))))))
 refine Zh (Zi (Zo J (Zzc ?_)))
 exact ⟨(),trivial,by rw [hiR,fstE_stop hfs (rmap_at hj4) h77];rfl,Lh⟩
 refine Zj (Zze ?_)
 refine Zp J (Zn (Za ?_))
 exact ⟨rfl,j+1,⟨by omega,fstE_next hfs (rmap_at hj4) (Classical.not_not.1 h77)⟩,by omega,cv,Lh⟩
 refine Zm (Zzg ?_)
 obtain rfl:j=(shapeF x.fOp).size:=by omega
 rw [rmap_all] at hfs
 exact ⟨(),trivial,by rw [hiR,hfs];rfl,Lh⟩
 refine Zr J J J J (Zr J J J J (Zr J J J J (Zr J J J J (Zq J J (Zu J J (Zu J J (Zn (Za (wCondF J (Zj (Za (Zh (Zi (Zz (n:=0) (m:=0) J J J (Zld ?_)))))))))))))))
 (refine ZC0 rfl ZK (fun w hS=>frame hS ZQ (fun B' hB hS'=>ref7_Shape hS' x.fOp)) ?_;rintro ⟨⟩ -)
 rw [if_neg (by simp_all)] at hiR
 refine Zp J (Zn (Za (Zh (Zh (Zi (Zp J (Zn (Za (Zk (wLoop (ι:=Nat) (fun j=>[(3,.pointer (some ⟨b3,0,none⟩)),(7,.pointer (some ⟨b7,0,none⟩)),(8,.pointer (some ⟨b8,0,none⟩)),(10,.string (shapeF x.fOp)),(11,.int .i64 (j:Int))]) (fun j=>[blk b3 51 [.int .i64 f.fClass,.slice A0 f.fKinds.length c0,.int .i64 f.fPad,.bool f.fNosplit,.int .i64 f.fFrom,.int .i64 f.fTo,.slice A1 f.fLines.length c1,.slice A2 f.fCode.length c2,.slice A3 f.fRelocs.length c3],blk b7 90 [.int .i64 x.fOp,.int .i64 x.fA,.int .i64 x.fB,.int .i64 x.fC,.int .i64 x.fN],blk b8 44 (symL s)]) (fun j=>j≤(shapeF x.fOp).size∧fstE (((List.range (shapeF x.fOp).size).map (operR f x s)).take j)=0) (fun j=>(shapeF x.fOp).size-j) 0 ?_ cv (Leads.has ZQ) ?_))))))))))
 exact ⟨Nat.zero_le _,rfl⟩
 rintro j ⟨hj,hfs⟩
 try dsimp only
 refine Zh (Zh (Zi (Zo J (Zo J (oLenStr J J (Zx J J (Zn (Za (wC (fun h63=>?_) (fun h63=>?_))))))))))
 have hj4:j<(shapeF x.fOp).size:=by omega
 refine Zj (Za (Zh (Zk (Zh (wDrawG J [0,1,2,3,4,5,6,7] [(8,[0,1,2,3,4,5],[]),(9,[],[])] [10] 24 ZK J J (fun w0=>?_))))))
 refine Zla ?_
 refine Zla ?_
 refine Zla ?_
 refine Zo J (Zo J (oIndexStr J J J hj4 (Zla ?_)))
 refine Zo J (Z4 (Z5 J ?_))
 (refine ZC0 rfl ZK (fun w hS=>frame hS ZQ (fun B' hB hS'=>ref8_Operand hS' x _ (kApiInstr_mk _ x) (j:Int))) ?_;rintro ⟨⟩ -)
 refine ZG ?_ J (fun w0=>?_)
 refine Z8 J J J J (fun w0=>?_) ?_
 refine Zla ?_
 exact Z9 rfl
 refine Z8 J J J J (fun w0=>?_) ?_
 refine Zla ?_
 exact Z9 rfl
 refine Z8 J J J J (fun w0=>?_) ?_
 refine Zla ?_
 exact Z9 rfl
 refine Z8 J J J J (fun w0=>?_) ?_
 refine Zo J ?_
 exact Z9 rfl
 refine Z8 J J J J (fun w0=>?_) ?_
 refine Zo J ?_
 exact Z9 rfl
 refine Z8 J J J J (fun w0=>?_) ?_
 refine oIndexStr J J J hj4 ?_
 exact Z9 rfl
 exact AgainG.nil
 refine Z4 (Z5 J ?_)
 (refine ZC0 rfl ZK (fun w hS=>frame hS ZQ (fun B' hB hS'=>ref17_operand hS' f _ (kApiFunc.K_grow hB hf) x _ (kApiInstr_mk _ x) s (byteAt (shapeF x.fOp) j) (opdF x j))) ?_;rintro ⟨⟩ -)
 refine ZG ?_ J (fun w0=>?_)
 exact AgainG.nil
 refine Z6 (Zp J (Zn (Za (Zh (Zi (Zo J (Z0 J J (Zn (Za (wC (fun h77=>?_) (fun h77=>?_)))))))))))
 refine Zh (Zi (Zo J (Zzc ?_)))
 exact ⟨(),trivial,by rw [hiR,fstE_stop hfs (rmap_at hj4) h77];rfl,Lh⟩
 refine Zj (Zze ?_)
 refine Zp J (Zn (Za ?_))
 exact ⟨rfl,j+1,⟨by omega,fstE_next hfs (rmap_at hj4) (Classical.not_not.1 h77)⟩,by omega,cv,Lh⟩
 refine Zm (Zzg ?_)
 obtain rfl:j=(shapeF x.fOp).size:=by omega
 rw [rmap_all] at hfs
 exact ⟨(),trivial,by rw [hiR,hfs];rfl,Lh⟩
 refine Zr J J J J (Zr J J J J (Zr J J J J (Zr J J J J (Zu J J (Zo J (Zq J J (Zz (n:=0) (m:=0) J J J (Zzf ?_))))))))
 refine Zq J J (Zy J J (Zq J J (Zo J (ZS (ZT 50) (fun h50=>?_) (fun h50=>?_)))))
 refine Zq J J (Zz (n:=3) (m:=3) J J J (Zzf ?_))
 refine Zq J J ?_
 (refine ZC0 rfl ZK (fun w hS=>frame hS ZQ (fun B' hB hS'=>ref5_Later hS' s.fKind)) ?_;rintro ⟨⟩ -)
 refine Zq J J (Zno ?_)
 refine Zq J J (Zt J J (Zu J J (Zn (Za (wC (fun h56=>?_) (fun h56=>?_))))))
 refine Zh (Zi (Zzb ?_))
 exact ⟨(),trivial,by rw [hiR,if_pos (by simp_all)];rfl,Lh⟩
 refine Zj (Za (Zh (Zi (Zz (n:=0) (m:=0) J J J (Zld ?_)))))
 (refine ZC0 rfl ZK (fun w hS=>frame hS ZQ (fun B' hB hS'=>ref7_Shape hS' x.fOp)) ?_;rintro ⟨⟩ -)
 rw [if_neg (by simp_all)] at hiR
 refine Zp J (Zn (Za (Zh (Zh (Zi (Zp J (Zn (Za (Zk (wLoop (ι:=Nat) (fun j=>[(3,.pointer (some ⟨b3,0,none⟩)),(7,.pointer (some ⟨b7,0,none⟩)),(8,.pointer (some ⟨b8,0,none⟩)),(10,.string (shapeF x.fOp)),(11,.int .i64 (j:Int))]) (fun j=>[blk b3 51 [.int .i64 f.fClass,.slice A0 f.fKinds.length c0,.int .i64 f.fPad,.bool f.fNosplit,.int .i64 f.fFrom,.int .i64 f.fTo,.slice A1 f.fLines.length c1,.slice A2 f.fCode.length c2,.slice A3 f.fRelocs.length c3],blk b7 90 [.int .i64 x.fOp,.int .i64 x.fA,.int .i64 x.fB,.int .i64 x.fC,.int .i64 x.fN],blk b8 44 (symL s)]) (fun j=>j≤(shapeF x.fOp).size∧fstE (((List.range (shapeF x.fOp).size).map (operR f x s)).take j)=0) (fun j=>(shapeF x.fOp).size-j) 0 ?_ cv (Leads.has ZQ) ?_))))))))))
 exact ⟨Nat.zero_le _,rfl⟩
 rintro j ⟨hj,hfs⟩
 try dsimp only
 refine Zh (Zh (Zi (Zo J (Zo J (oLenStr J J (Zx J J (Zn (Za (wC (fun h63=>?_) (fun h63=>?_))))))))))
 have hj4:j<(shapeF x.fOp).size:=by omega
 refine Zj (Za (Zh (Zk (Zh (wDrawG J [0,1,2,3,4,5,6,7] [(8,[0,1,2,3,4,5],[]),(9,[],[])] [10] 24 ZK J J (fun w0=>?_))))))
 refine Zla ?_
 refine Zla ?_
 refine Zla ?_
 refine Zo J (Zo J (oIndexStr J J J hj4 (Zla ?_)))
 refine Zo J (Z4 (Z5 J ?_))
 (refine ZC0 rfl ZK (fun w hS=>frame hS ZQ (fun B' hB hS'=>ref8_Operand hS' x _ (kApiInstr_mk _ x) (j:Int))) ?_;rintro ⟨⟩ -)
 refine ZG ?_ J (fun w0=>?_)
 refine Z8 J J J J (fun w0=>?_) ?_
 refine Zla ?_
 exact Z9 rfl
 refine Z8 J J J J (fun w0=>?_) ?_
 refine Zla ?_
 exact Z9 rfl
 refine Z8 J J J J (fun w0=>?_) ?_
 refine Zla ?_
 exact Z9 rfl
 refine Z8 J J J J (fun w0=>?_) ?_
 refine Zo J ?_
 exact Z9 rfl
 refine Z8 J J J J (fun w0=>?_) ?_
 refine Zo J ?_
 exact Z9 rfl
 refine Z8 J J J J (fun w0=>?_) ?_
 refine oIndexStr J J J hj4 ?_
 exact Z9 rfl
 exact AgainG.nil
 refine Z4 (Z5 J ?_)
 (refine ZC0 rfl ZK (fun w hS=>frame hS ZQ (fun B' hB hS'=>ref17_operand hS' f _ (kApiFunc.K_grow hB hf) x _ (kApiInstr_mk _ x) s (byteAt (shapeF x.fOp) j) (opdF x j))) ?_;rintro ⟨⟩ -)
 refine ZG ?_ J (fun w0=>?_)
 exact AgainG.nil
 refine Z6 (Zp J (Zn (Za (Zh (Zi (Zo J (Z0 J J (Zn (Za (wC (fun h77=>?_) (fun h77=>?_)))))))))))
 refine Zh (Zi (Zo J (Zzc ?_)))
 exact ⟨(),trivial,by rw [hiR,fstE_stop hfs (rmap_at hj4) h77];rfl,Lh⟩
 refine Zj (Zze ?_)
 refine Zp J (Zn (Za ?_))
 exact ⟨rfl,j+1,⟨by omega,fstE_next hfs (rmap_at hj4) (Classical.not_not.1 h77)⟩,by omega,cv,Lh⟩
 refine Zm (Zzg ?_)
 obtain rfl:j=(shapeF x.fOp).size:=by omega
 rw [rmap_all] at hfs
 exact ⟨(),trivial,by rw [hiR,hfs];rfl,Lh⟩
 refine Zr J J J J (Zr J J J J (Zr J J J J (Zr J J J J (Zq J J (Zu J J (Zu J J (Zn (Za (wCondF J (Zj (Za (Zh (Zi (Zz (n:=0) (m:=0) J J J (Zld ?_)))))))))))))))
 (refine ZC0 rfl ZK (fun w hS=>frame hS ZQ (fun B' hB hS'=>ref7_Shape hS' x.fOp)) ?_;rintro ⟨⟩ -)
 rw [if_neg (by simp_all)] at hiR
 refine Zp J (Zn (Za (Zh (Zh (Zi (Zp J (Zn (Za (Zk (wLoop (ι:=Nat) (fun j=>[(3,.pointer (some ⟨b3,0,none⟩)),(7,.pointer (some ⟨b7,0,none⟩)),(8,.pointer (some ⟨b8,0,none⟩)),(10,.string (shapeF x.fOp)),(11,.int .i64 (j:Int))]) (fun j=>[blk b3 51 [.int .i64 f.fClass,.slice A0 f.fKinds.length c0,.int .i64 f.fPad,.bool f.fNosplit,.int .i64 f.fFrom,.int .i64 f.fTo,.slice A1 f.fLines.length c1,.slice A2 f.fCode.length c2,.slice A3 f.fRelocs.length c3],blk b7 90 [.int .i64 x.fOp,.int .i64 x.fA,.int .i64 x.fB,.int .i64 x.fC,.int .i64 x.fN],blk b8 44 (symL s)]) (fun j=>j≤(shapeF x.fOp).size∧fstE (((List.range (shapeF x.fOp).size).map (operR f x s)).take j)=0) (fun j=>(shapeF x.fOp).size-j) 0 ?_ cv (Leads.has ZQ) ?_))))))))))
 exact ⟨Nat.zero_le _,rfl⟩
 rintro j ⟨hj,hfs⟩
 try dsimp only
 refine Zh (Zh (Zi (Zo J (Zo J (oLenStr J J (Zx J J (Zn (Za (wC (fun h63=>?_) (fun h63=>?_))))))))))
 have hj4:j<(shapeF x.fOp).size:=by omega
 refine Zj (Za (Zh (Zk (Zh (wDrawG J [0,1,2,3,4,5,6,7] [(8,[0,1,2,3,4,5],[]),(9,[],[])] [10] 24 ZK J J (fun w0=>?_))))))
 refine Zla ?_
 refine Zla ?_
 refine Zla ?_
 refine Zo J (Zo J (oIndexStr J J J hj4 (Zla ?_)))
 refine Zo J (Z4 (Z5 J ?_))
 (refine ZC0 rfl ZK (fun w hS=>frame hS ZQ (fun B' hB hS'=>ref8_Operand hS' x _ (kApiInstr_mk _ x) (j:Int))) ?_;rintro ⟨⟩ -)
 refine ZG ?_ J (fun w0=>?_)
 refine Z8 J J J J (fun w0=>?_) ?_
 refine Zla ?_
 exact Z9 rfl
 refine Z8 J J J J (fun w0=>?_) ?_
 refine Zla ?_
 exact Z9 rfl
 refine Z8 J J J J (fun w0=>?_) ?_
 refine Zla ?_
 exact Z9 rfl
 refine Z8 J J J J (fun w0=>?_) ?_
 refine Zo J ?_
 exact Z9 rfl
 refine Z8 J J J J (fun w0=>?_) ?_
 refine Zo J ?_
 exact Z9 rfl
 refine Z8 J J J J (fun w0=>?_) ?_
 refine oIndexStr J J J hj4 ?_
 exact Z9 rfl
 exact AgainG.nil
 refine Z4 (Z5 J ?_)
 (refine ZC0 rfl ZK (fun w hS=>frame hS ZQ (fun B' hB hS'=>ref17_operand hS' f _ (kApiFunc.K_grow hB hf) x _ (kApiInstr_mk _ x) s (byteAt (shapeF x.fOp) j) (opdF x j))) ?_;rintro ⟨⟩ -)
 refine ZG ?_ J (fun w0=>?_)
 exact AgainG.nil
 refine Z6 (Zp J (Zn (Za (Zh (Zi (Zo J (Z0 J J (Zn (Za (wC (fun h77=>?_) (fun h77=>?_)))))))))))
 refine Zh (Zi (Zo J (Zzc ?_)))
 exact ⟨(),trivial,by rw [hiR,fstE_stop hfs (rmap_at hj4) h77];rfl,Lh⟩
 refine Zj (Zze ?_)
 refine Zp J (Zn (Za ?_))
 exact ⟨rfl,j+1,⟨by omega,fstE_next hfs (rmap_at hj4) (Classical.not_not.1 h77)⟩,by omega,cv,Lh⟩
 refine Zm (Zzg ?_)
 obtain rfl:j=(shapeF x.fOp).size:=by omega
 rw [rmap_all] at hfs
 exact ⟨(),trivial,by rw [hiR,hfs];rfl,Lh⟩
theorem ref17_Check {B:Base}{w:World}(hS:St B [] w) (f:ApiFunc) (fc:List Value) (hf:kApiFunc.K B.e f fc) (hv:∀ y ∈ f.fKinds,in64 y) (Al:Option Addr) (cl:Nat) (l:List ApiSymbol) (hl:kApiSymbol.C B.e Al l) :
 CW 117 #[.agg fc.toArray,.slice Al l.length cl] w (Ret B (fun _:Unit=>True) (fun _=>.tuple #[.int .i64 (chkE f l),.int .i64 (chkI f l)]) (fun _=>[])):=by
 obtain ⟨A0,c0,A1,c1,A2,c2,A3,c3,rfl,l0,g0,l1,g1,l2,g2,l3,g3⟩:=kApiFunc_open hf
 have hcl:=g2.1
 have hil:(insL f l).length=f.fCode.length:=by simp [insL]
 refine ZX Tryz.func117 hS ?_
 refine Zh (Zi (oBox J ZP (fun b2=>?_)))
 refine Zp J (Zp J (Zn (Zzw ?_)))
 (refine ZC0 rfl ZK (fun w hS=>frame hS ZQ (fun B' hB hS'=>ref16_Check hS' f _ (kApiFunc.K_grow hB hf) hv)) ?_;rintro ⟨⟩ -)
 refine Zp J (Zn (Za (Zh (Zi (Zo J (Z0 J J (Zn (Za (wC (fun h12=>?_) (fun h12=>?_))))))))))
 refine Zh (Zi (Zo J (Zp J (Zp J (Zzq ?_)))))
 refine ⟨rfl,_,(ResL.cons (ResR.tmp rfl) (ResL.cons (ResR.tmp rfl) ResL.nil)),?_⟩
 exact ⟨(),trivial,by unfold chkE chkI;rw [if_pos h12,if_pos h12];rfl,Lh⟩
 refine Zj (Za (Zh (Zh (Zi (Zp J (Zn (Za (Zk (wLoop (ι:=Nat) (fun i=>[(1,.slice Al l.length cl),(2,.pointer (some ⟨b2,0,none⟩)),(7,.int .i64 (i:Int))]) (fun i=>[blk b2 51 [.int .i64 f.fClass,.slice A0 f.fKinds.length c0,.int .i64 f.fPad,.bool f.fNosplit,.int .i64 f.fFrom,.int .i64 f.fTo,.slice A1 f.fLines.length c1,.slice A2 f.fCode.length c2,.slice A3 f.fRelocs.length c3]]) (fun i=>i≤f.fCode.length∧fstE ((insL f l).take i)=0∧∀ y ∈ (insL f l).take i,non0 y=false) (fun i=>f.fCode.length-i) 0 ?_ cv (Leads.has ZQ) ?_)))))))))
 exact ⟨Nat.zero_le _,rfl,by simp⟩
 rintro i ⟨hi,hs,hs2⟩
 try dsimp only
 refine Zh (Zh (Zi (Zo J (Zz (n:=7) (m:=7) J J J (Zld ?_)))))
 refine Zv J J (Zx J J (Zn (Za (wC (fun h18=>?_) (fun h18=>?_)))))
 have hxe:(insL f l)[i]?=some (instrF f l (i:Int)):=rmap_at (e:=fun i:Nat=>instrF f l (i:Int)) ZO
 refine Zj (Zzz ?_)
 refine Zo J (Zo J ?_)
 (refine ZC0 rfl ZK (fun w hS=>frame hS ZQ (fun B' hB hS'=>ref17_Instr hS' f _ (kApiFunc.K_grow hB hf) Al cl l (Kd.C_grow hB hl) (i:Int))) ?_;rintro ⟨⟩ -)
 refine Zp J (Zn (Za (Zh (Zi (Zo J (Z0 J J (Zn (Za (wC (fun h26=>?_) (fun h26=>?_))))))))))
 refine Zh (Zi (Zo J (Zo J (Zp J (Zp J (Zn (Za (Zl (Zf (Zc (Zc (Zf (Zc (Zw ?_))))))))))))))
 refine ⟨rfl,_,(ResL.cons (ResR.tmp rfl) (ResL.cons (ResR.tmp rfl) ResL.nil)),?_⟩
 exact ⟨(),trivial,by unfold chkE chkI;rw [if_neg h12,if_neg h12,fstE_stop hs hxe h26,idxI_stop hs2 hxe (decide_eq_true h26)];rfl,Lh⟩
 refine Zj (Zze ?_)
 refine Zp J (Zn (Za ?_))
 exact ⟨rfl,i+1,⟨by omega,fstE_next hs hxe (Classical.not_not.1 h26),take_not hs2 hxe (decide_eq_false h26)⟩,by omega,cv,Lh⟩
 refine Zm (Zb (Zb (Ze (Za (Zh (Zi (Zp J (ZzE ?_))))))))
 refine ⟨rfl,_,(ResL.cons (ResR.tmp rfl) (ResL.cons (ResR.tmp rfl) ResL.nil)),?_⟩
 obtain rfl:i=f.fCode.length:=by omega
 rw [← hil,List.take_length] at hs hs2
 exact ⟨(),trivial,by unfold chkE chkI;rw [if_neg h12,if_neg h12,hs,idxI_none hs2];rfl,Lh⟩
end Go.Proofs.YtpmdhkjbhjgoaaaGreatV
namespace Go.Proofs.YtpmdhkjbhjgoaaaGreatW
set_option maxRecDepth 100000
set_option maxHeartbeats 4000000
open Go.RowKit Go.Proofs.YtpmdhkjbhjgoaaaGreatK Go.Proofs.YtpmdhkjbhjgoaaaGreatT Go.Proofs.YtpmdhkjbhjgoaaaGreatL Go.Proofs.YtpmdhkjbhjgoaaaGreatV

def mayF (b:Int) (first:Bool):Bool:=(decide (97≤b) && decide (b≤122)) || decide (b=95) || decide (b=46) || (decide (48≤b) && decide (b≤57) && !first)
def badC (s:ByteArray) (i:Nat):Bool:=!mayF (byteAt s i) (decide (i=0))
def nameF4 (s:ByteArray):Int:=if 24<s.size then 6 else if s.size=0 then 7 else if (List.range s.size).any (badC s) then 7 else 0
theorem size_zero {s:ByteArray} : s=ByteArray.empty↔s.size=0:=by
 constructor
 · rintro rfl;rfl
 · intro h
   cases s with
   | mk d=>
    have:d=#[]:=Array.eq_empty_of_size_eq_zero h
    subst this;rfl
theorem ref4_may {B:Base}{w:World}(hS:St B [] w) (b:Int) (first:Bool) :
 CW 136 #[.int .u8 b,.bool first] w (Ret B (fun _:Unit=>True) (fun _=>.bool (mayF b first)) (fun _=>[])):=by
 refine ZX Tryz.func136 hS ?_
 refine Zh (Zi (Zp J (Zn (Za (Zh (Zi (Zo J (Z2 J J (Zo J (ZS (ZT 7) (fun h7=>?_) (fun h7=>?_)))))))))))
 refine Zq J J (Zo J (Zq J J (oLeq J J (Zt J J (Zo J (ZS (ZT 11) (fun h11=>?_) (fun h11=>?_)))))))
 refine Zr J J J J (Zr J J J J (Zt J J (Zo J (Zr J J J J (Zr J J J J (Zt J J (Zo J (Zr J J J J (Zzr ?_)))))))))
 exact ⟨(),trivial,by simp_all [resVal,mayF] <;> omega,Lh⟩
 refine Zq J J (Zo J (Zq J J (Zy J J (Zu J J (Zo J (ZS (ZT 15) (fun h15=>?_) (fun h15=>?_)))))))
 refine Zr J J J J (Zr J J J J (Zt J J (Zo J (Zr J J J J (Zzr ?_)))))
 exact ⟨(),trivial,by simp_all [resVal,mayF] <;> omega,Lh⟩
 refine Zq J J (Zo J (Zq J J (Zy J J (Zu J J (Zo J (ZS (ZT 19) (fun h19=>?_) (fun h19=>?_)))))))
 refine Zr J J J J (Zzr ?_)
 exact ⟨(),trivial,by simp_all [resVal,mayF] <;> omega,Lh⟩
 refine Zq J J (Zo J (Zq J J (Z2 J J (Zq J J (Zo J (ZS (ZT 22) (fun h22=>?_) (fun h22=>?_)))))))
 refine Zq J J (Zo J (Zq J J (oLeq J J (Zq J J (Zt J J (Zq J J (Zo J (ZS (ZT 26) (fun h26=>?_) (fun h26=>?_)))))))))
 refine Zq J J (Zo J (Zq J J (Zno ?_)))
 refine Zq J J (Zt J J (Zu J J (Zza ?_)))
 exact ⟨(),trivial,by simp_all [resVal,mayF] <;> omega,Lh⟩
 refine Zr J J J J (Zr J J J J (Zq J J (Zu J J (Zu J J (Zza ?_)))))
 exact ⟨(),trivial,by simp_all [resVal,mayF] <;> omega,Lh⟩
 refine Zr J J J J (Zr J J J J (Zq J J (Zu J J (Zq J J (Zo J (Zr J J J J (Zr J J J J (Zq J J (Zu J J (Zu J J (Zza ?_)))))))))))
 exact ⟨(),trivial,by simp_all [resVal,mayF] <;> omega,Lh⟩
 refine Zr J J J J (Zr J J J J (Zu J J (Zo J (Zq J J (Zo J (Zq J J (Zy J J (Zu J J (Zo J (ZS (ZT 15) (fun h15=>?_) (fun h15=>?_)))))))))))
 refine Zr J J J J (Zr J J J J (Zt J J (Zo J (Zr J J J J (Zzr ?_)))))
 exact ⟨(),trivial,by simp_all [resVal,mayF] <;> omega,Lh⟩
 refine Zq J J (Zo J (Zq J J (Zy J J (Zu J J (Zo J (ZS (ZT 19) (fun h19=>?_) (fun h19=>?_)))))))
 refine Zr J J J J (Zzr ?_)
 exact ⟨(),trivial,by simp_all [resVal,mayF] <;> omega,Lh⟩
 refine Zq J J (Zo J (Zq J J (Z2 J J (Zq J J (Zo J (ZS (ZT 22) (fun h22=>?_) (fun h22=>?_)))))))
 refine Zq J J (Zo J (Zq J J (oLeq J J (Zq J J (Zt J J (Zq J J (Zo J (ZS (ZT 26) (fun h26=>?_) (fun h26=>?_)))))))))
 refine Zq J J (Zo J (Zq J J (Zno ?_)))
 refine Zq J J (Zt J J (Zu J J (Zza ?_)))
 exact ⟨(),trivial,by simp_all [resVal,mayF] <;> omega,Lh⟩
 refine Zr J J J J (Zr J J J J (Zq J J (Zu J J (Zu J J (Zza ?_)))))
 exact ⟨(),trivial,by simp_all [resVal,mayF] <;> omega,Lh⟩
 refine Zr J J J J (Zr J J J J (Zq J J (Zu J J (Zq J J (Zo J (Zr J J J J (Zr J J J J (Zq J J (Zu J J (Zu J J (Zza ?_)))))))))))
 exact ⟨(),trivial,by simp_all [resVal,mayF] <;> omega,Lh⟩
theorem ref4_Check {B:Base}{w:World}(hS:St B [] w) (s:ByteArray) :
 CW 112 #[.string s] w (Ret B (fun _:Unit=>True) (fun _=>.int .i64 (nameF4 s)) (fun _=>[])):=by
 refine ZX Tryz.func112 hS ?_
 refine Zh (Zi (Zp J (Zn (Za (Zh (Zh (Zi (Zo J (oLenStr J J (Z1 J J (Zn (Za (wC (fun h6=>?_) (fun h6=>?_))))))))))))))
 refine Zh (Zi (Zzb ?_))
 exact ⟨(),trivial,by unfold nameF4;rw [if_pos ZO];rfl,Lh⟩
 refine Zj (Za (Zh (Zh (Zi (Zo J (oSEq J J (Zn (Za (wC (fun h8=>?_) (fun h8=>?_))))))))))
 refine Zh (Zi (Zzb ?_))
 exact ⟨(),trivial,by unfold nameF4;rw [if_neg ZO,if_pos (size_zero.1 h8)];rfl,Lh⟩
 have hz:¬ s.size=0:=fun h=>h8 (size_zero.2 h)
 refine Zj (Za (Zh (Zh (Zi (Zp J (Zn (Za (Zk (wLoop (ι:=Nat) (fun i=>[(0,.string s),(3,.int .i64 (i:Int))]) (fun i=>[]) (fun i=>i≤s.size∧∀ j,j<i→badC s j=false) (fun i=>s.size-i) 0 ?_ cv (Leads.has ZQ) ?_)))))))))
 exact ⟨Nat.zero_le _,fun j hj=>by omega⟩
 rintro i ⟨hi,hs⟩
 try dsimp only
 refine Zh (Zh (Zi (Zo J (Zo J (oLenStr J J (Zx J J (Zn (Za (wC (fun h12=>?_) (fun h12=>?_))))))))))
 have hil:i<s.size:=by omega
 have hz0:decide ((i:Int)=0)=decide (i=0):=decide_eq_decide.2 ZO
 refine Zj (Za (Zh (Zk (Zh (Zi (Zo J (Zo J (oIndexStr J J J hil (Zo J (Zy J J ?_))))))))))
 (refine ZC0 rfl ZK (fun w hS=>frame hS ZQ (fun B' hB hS'=>ref4_may hS' (byteAt s i) (decide ((i:Int)=0)))) ?_;rintro ⟨⟩ -)
 refine Zno ?_
 refine Zn (Za (wC (fun h21=>?_) (fun h21=>?_)))
 refine Zh (Zi (Zzc ?_))
 exact ⟨(),trivial,by unfold nameF4;rw [if_neg ZO,if_neg hz,if_pos (any_T hil (by unfold badC;rw [← hz0];simpa using h21))];rfl,Lh⟩
 refine Zj (Zze ?_)
 refine Zp J (Zn (Za ?_))
 exact ⟨rfl,i+1,⟨by omega,fun j hj=>by
 by_cases e:j=i
 · subst e;unfold badC;rw [← hz0];simpa using h21
 · exact hs j ZO⟩,by omega,cv,Lh⟩
 refine Zm (Zzg ?_)
 obtain rfl:i=s.size:=by omega
 exact ⟨(),trivial,by unfold nameF4;rw [if_neg ZO,if_neg hz,if_neg (by rw [any_F hs];simp)];rfl,Lh⟩
structure FewO (l:List ApiObject):Prop where
  len:l.length≤9
  syms:∀ o ∈ l,o.fSymbols.length≤60
  funcs:∀ o ∈ l,o.fFuncs.length≤20
  datas:∀ o ∈ l,o.fDatas.length≤20
  fun_:∀ o ∈ l,∀ f ∈ o.fFuncs,f.fKinds.length≤100∧f.fLines.length≤100∧f.fCode.length≤100∧f.fRelocs.length≤100
  data:∀ o ∈ l,∀ d ∈ o.fDatas,d.fWords.length≤100∧d.fRelocs.length≤100
theorem ref15_Few {B:Base}{w:World}(hS:St B [] w) (d:ApiData) (dc:List Value) (hd:kApiData.K B.e d dc) :
 CW 19 #[.agg dc.toArray] w (Ret B (fun r:Bool=>r=true→d.fWords.length≤100∧d.fRelocs.length≤100) (fun r=>.bool r) (fun _=>[])):=by
 obtain ⟨A0,c0,A1,c1,rfl,l0,g0,l1,g1⟩:=kApiData_open hd
 refine ZX Tryz.func19 hS ?_
 refine Zh (Zi (oBox J ZP (fun b1=>?_)))
 refine Zp J (Zn (Za (Zh (Zi (Zz (n:=1) (m:=1) J J J (Zld ?_))))))
 refine Zv J J (oLeq J J (Zo J (ZS (ZT 7) (fun h7=>?_) (fun h7=>?_))))
 refine Zq J J (Zz (n:=2) (m:=2) J J J (Zzf ?_))
 refine Zq J J (Zv J J (Zq J J (oLeq J J (Zt J J (Zza ?_)))))
 exact ⟨_,(by intro h;first | focus (simp at h;done) | (have:=of_decide_eq_true h;constructor <;> omega)),rfl,Lh⟩
 refine Zr J J J J (Zzu ?_)
 exact ⟨_,(by intro h;first | focus (simp at h;done) | (have:=of_decide_eq_true h;constructor <;> omega)),rfl,Lh⟩
def dP (code:List ApiInstr) (k:Nat):Bool:=decide ((code.getD k default).fOp=21)
def dfr (code:List ApiInstr) (n:Nat):List Int:=((List.range n).filter (dP code)).map fun k=>((k:Nat):Int)
theorem dfr_succ (code:List ApiInstr) (n:Nat):dfr code (n+1)=dfr code n++(if dP code n=true then [(n:Int)] else []):=by
 unfold dfr
 rw [List.range_succ,List.filter_append,List.map_append]
 congr 1
 simp only [List.filter_cons,List.filter_nil]
 split <;> rfl
theorem dfr_len (code:List ApiInstr) (n:Nat):(dfr code n).length≤n:=by
 unfold dfr
 rw [List.length_map]
 exact Nat.le_trans (List.length_filter_le _ _) (by simp)
theorem dP_at {code:List ApiInstr}{k:Nat}{x:ApiInstr}(h:code[k]?=some x):dP code k=decide (x.fOp=21):=by
 unfold dP;rw [List.getD_eq_getElem?_getD,h];rfl
theorem ref18_Marks {B:Base}{w:World}(hS:St B [] w) (A:Option Addr) (cp:Nat) (code:List ApiInstr) (hC:kApiInstr.C B.e A code) (hl:code.length≤100000) (W0:World) :
 CW 143 #[.slice A code.length cp] w (Ret B (fun _:Option Addr×Nat=>True) (fun z=>.slice z.1 (dfr code code.length).length z.2) (fun z=>[row (Kd.int .i64) W0 3 (.slice z.1 (dfr code code.length).length z.2) (dfr code code.length)])):=by
 refine ZX Tryz.func143 hS ?_
 refine Zh (Zi (Zp J (Zn (Za (Zh (Zi (Zp J (Zn (Za (Zh (Zh (Zi (Zp J (Zn (Za (Zk (wLoop (ι:=Nat×Option Addr×Nat) (fun z=>[(0,.slice A code.length cp),(3,.slice z.2.1 (dfr code z.1).length z.2.2),(4,.int .i64 (z.1:Int))]) (fun z=>[row (Kd.int .i64) W0 3 (.slice z.2.1 (dfr code z.1).length z.2.2) (dfr code z.1)]) (fun z=>z.1≤code.length) (fun z=>code.length-z.1) (0,none,0) ?_ cv (Leads.nilrow.trans Lh) ?_)))))))))))))))))
 exact Nat.zero_le _
 rintro ⟨i,A2,c2⟩ hi
 dsimp only at hi
 have hle:=dfr_len code i
 try dsimp only
 refine Zh (Zh (Zi (Zo J (Zo J (Zv J J (Zx J J (Zn (Za (wC (fun h8=>?_) (fun h8=>?_))))))))))
 obtain ⟨x,hx⟩:∃ x,code[i]?=some x:=⟨_,List.getElem?_eq_getElem ZO⟩
 obtain ⟨e1,cs1,hE⟩:=hC.elm hx
 obtain rfl:=kApiInstr_open hE.K
 have hdp:=dP_at hx
 refine Zj (Za (Zh (Zk (Zh (Zi (Zo J (Zo J (oIdxE J J (hE) ZO J J ?_))))))))
 have hc13:=(hE).cell
 refine ZF (ZT 0) (ZT 0) ?_
 refine Zlx hc13 ?_
 refine Zy J J (Zn (Za (wC (fun h16=>?_) (fun h16=>?_))))
 refine Zi (Zo J (Zo J (oBuildSlice1 J J J J J ZP J (fun b19=>?_))))
 refine oApp1 (i:Int) J J J J ZP ZP J ZO J (fun g20 cp20=>?_)
 have hft:dfr code (i+1)=dfr code i++[(i:Int)]:=by rw [dfr_succ,hdp,if_pos (by simpa using h16)]
 rw [show (dfr code i).length+1=(dfr code (i+1)).length by rw [hft,List.length_append];rfl,← hft]
 refine Zp J (Zn (Zze ?_))
 refine Zp J (Zn (Za ?_))
 exact ⟨rfl,(i+1,some ⟨g20,0,none⟩,cp20),by show i+1≤_;omega,by show code.length-(i+1)<code.length-i;omega,cv,Lh⟩
 refine Zj (Zze ?_)
 refine Zp J (Zn (Za ?_))
 have hft:dfr code (i+1)=dfr code i:=by rw [dfr_succ,hdp,if_neg (by simpa using h16),List.append_nil]
 exact ⟨rfl,(i+1,A2,c2),by show i+1≤_;omega,by show code.length-(i+1)<code.length-i;omega,by dsimp only;rw [hft];exact cv,by dsimp only;rw [hft];exact Lh⟩
 obtain rfl:i=code.length:=by omega
 refine Zm (Zb (Zb (Ze (Zzs ?_))))
 exact ⟨(A2,c2),trivial,rfl,Lh⟩
def rg (code:List ApiInstr):List (List Int):=(List.range code.length).map fun k=>rnext (code.getD k default) k
theorem rg_len (code:List ApiInstr):(rg code).length=code.length:=by simp [rg]
theorem rg_at {code:List ApiInstr}{k:Nat}{x:ApiInstr}(h:code[k]?=some x):(rg code)[k]?=some (rnext x k):=by
 obtain ⟨hk,rfl⟩:=List.getElem?_eq_some_iff.1 h
 unfold rg
 rw [List.getElem?_map,List.getElem?_range hk]
 show some (rnext (code.getD k default) k)=_
 rw [List.getD_eq_getElem?_getD,h];rfl
theorem take_atW {α:Type}{l:List α}{k:Nat}{x:α}(h:l[k]?=some x):l.take k++[x]=l.take (k+1):=by
 rw [List.take_add_one,h];rfl
theorem ref14_Graph {B:Base}{w:World}(hS:St B [] w) (A:Option Addr) (cp:Nat) (code:List ApiInstr) (hC:kApiInstr.C B.e A code) (hl0:code.length≤100000) (W0:World) :
 CW 177 #[.slice A code.length cp] w (Ret B (fun z:Option Addr×Nat×List Hdr=>z.2.2.length=code.length) (fun z=>.slice z.1 code.length z.2.1) (fun z=>[row kHdr W0 46 (.slice z.1 code.length z.2.1) z.2.2,bun (rws (Kd.int .i64) W0 3 z.2.2 (rg code))])):=by
 refine ZX Tryz.func177 hS ?_
 refine Zh (Zi (Zp J (Zn (Za (Zh (Zi (Zp J (Zn (Za (Zh (Zh (Zi (Zp J (Zn (Za (Zk (wLoop (ι:=Nat×List Hdr×Option Addr×Nat) (fun z=>[(0,.slice A code.length cp),(3,.slice z.2.2.1 z.1 z.2.2.2),(4,.int .i64 (z.1:Int))]) (fun z=>[row kHdr W0 46 (.slice z.2.2.1 z.1 z.2.2.2) z.2.1,bun (rws (Kd.int .i64) W0 3 z.2.1 ((rg code).take z.1))]) (fun z=>z.1≤code.length∧z.2.1.length=z.1) (fun z=>code.length-z.1) (0,[],none,0) ?_ cv (Leads.nilrow.trans (bun_nil.trans Lh)) ?_)))))))))))))))))
 exact ⟨Nat.zero_le _,rfl⟩
 rintro ⟨a,hs,A5,c5⟩ ⟨ha,hl⟩
 dsimp only at ha hl
 have hxl:((rg code).take a).length=a:=by rw [List.length_take,rg_len];omega
 try dsimp only
 refine Zh (Zh (Zi (Zo J (Zo J (Zv J J (Zx J J (Zn (Za (wC (fun h8=>?_) (fun h8=>?_))))))))))
 obtain ⟨x,hx⟩:∃ x,code[a]?=some x:=⟨_,List.getElem?_eq_getElem ZO⟩
 refine Zj (Za (Zh (Zk (Zi (Zo J (Zo J (Zo J ?_)))))))
 (refine ZC0 rfl ZK (fun w hS=>frame hS ZQ (fun B' hB hS'=>ref14_Next hS' A cp code (Kd.C_grow hB hC) a x hx W0)) ?_;rintro ⟨A14,c14⟩ -)
 refine oBuildSlice1 J J J J J ZP J (fun b15=>?_)
 refine oApp1 (kd:=kHdr) ((A14,(rnext x a).length,c14):Hdr) J J J J ZP ZP J ZO J (fun g16 cp16=>?_)
 refine oSnoc (kd:=Kd.int .i64) (W:=W0) (ei:=3) (u:=(A14,(rnext x a).length,c14)) (l:=rnext x a) (hs:=hs) (xss:=(rg code).take a) ZP ZP ZO ?_
 rw [take_atW (rg_at hx),hl]
 refine Zp J (Zn (Zze ?_))
 refine Zp J (Zn (Za ?_))
 exact ⟨rfl,(a+1,hs++[(A14,(rnext x a).length,c14)],some ⟨g16,0,none⟩,cp16),⟨by show a+1≤_;omega,by show (hs++_).length=a+1;rw [List.length_append,hl];rfl⟩,by show code.length-(a+1)<code.length-a;omega,cv,Lh⟩
 obtain rfl:a=code.length:=by omega
 rw [show (rg code).take code.length=rg code by rw [← rg_len code,List.take_length]]
 refine Zm (Zb (Zb (Ze (Zzs ?_))))
 exact ⟨(A5,c5,hs),hl,rfl,Lh⟩
end Go.Proofs.YtpmdhkjbhjgoaaaGreatW
/-
  Package digraph: ends and its iterator; the library's AppendSeq and Collect over it.
-/
namespace Go.Proofs.YtpmdhkjbhjgoaaaGreatG
set_option maxRecDepth 100000
set_option maxHeartbeats 4000000
open Go.RowKit Go.Proofs.YtpmdhkjbhjgoaaaGreatK Go.Proofs.YtpmdhkjbhjgoaaaGreatT

abbrev kII:Kd (List Int):=Kd.slice (Kd.int .i64)
abbrev Graph:=List (List Int)
def inG (g:Graph) (x:Int):Bool:=decide (0≤x) && decide (x<(g.length:Int))
def endsOf (g:Graph) (a:Nat):List Int:=(g.getD a []).filter (inG g)
def intV (x:Int):List Value:=[.int .i64 x]
theorem getD_at {α:Type}{l:List α}{i:Nat}{o d:α}(h:l[i]?=some o):l.getD i d=o:=by rw [List.getD_eq_getElem?_getD,h];rfl
theorem filter_drop {u:List Int}{i:Nat}{x:Int}{P:Int→Bool}(h:u[i]?=some x):(u.drop i).filter P=if P x=true then x :: (u.drop (i+1)).filter P else (u.drop (i+1)).filter P:=by
 obtain ⟨hi,rfl⟩:=List.getElem?_eq_some_iff.1 h
 rw [List.drop_eq_getElem_cons hi,List.filter_cons]
theorem drop_cons {α:Type}{l:List α}{j:Nat}{y:α}{r:List α}(h:l.drop j=y :: r):∃ hj:j<l.length,l[j]=y∧l.drop (j+1)=r:=by
 have hj:j<l.length:=by
  rcases Nat.lt_or_ge j l.length with hj | hj
  · exact hj
  · rw [List.drop_of_length_le hj] at h;cases h
 rw [List.drop_eq_getElem_cons hj] at h
 injection h with h1 h2
 exact ⟨hj,h1,h2⟩

theorem ends_any {B:Base}{w:World}(hS:St B [] w) (A:Option Addr) (n cp:Nat) (a:Int) :
 CW 218 #[.slice A n cp,.int .i64 a] w (Ret B (fun _:Nat×Nat=>True) (fun p=>.func (.func 224) #[] #[.pointer (some ⟨p.1,0,none⟩),.pointer (some ⟨p.2,0,none⟩)]) (fun p=>[blk p.1 205 [.slice A n cp],blk p.2 3 [.int .i64 a]])):=by
 refine ZX Tryz.func218 hS ?_
 refine Zh (Zi (oBox J ZP (fun b2=>?_)))
 refine oBox J ZP (fun b3=>?_)
 refine Zp J (Zn (Za (Zh (Zi (oMakeFunc J (Zza ?_))))))
 exact ⟨(b2,b3),trivial,rfl,Lh⟩

theorem ends1 {B:Base}(g:Graph) (A:Option Addr) (cp a p2 p3:Nat) (hC:kII.C B.e A g) (ha:a<g.length) :
 IterC Tryz.prog 224 #[.pointer (some ⟨p2,0,none⟩),.pointer (some ⟨p3,0,none⟩)] B ((endsOf g a).map intV) [blk p2 205 [.slice A g.length cp],blk p3 3 [.int .i64 (a:Int)]]:=by
 intro lp AI Ax r0 w hbody hA hS
 have hl1:=hC.1
 show CW 224 #[.func (.yield lp) #[] #[],.pointer (some ⟨p2,0,none⟩),.pointer (some ⟨p3,0,none⟩)] w _
 refine ZX Tryz.func224 hS ?_
 refine Zh (Zi (Zld ?_))
 refine Zld ?_
 refine oIdx J J (hC) J ZO J J (fun e8 u8 cs8 hu8 hk8 hc8=>?_)
 obtain ⟨A0,c0,rfl,hle8,g0⟩:=hk8
 have hbig8:=g0.1
 have hends:endsOf g a=u8.filter (inG g):=by unfold endsOf;rw [getD_at hu8]
 refine Zlx hc8 ?_
 refine Zv J J (Zo J (Zn (Za (Zk (wLoop (ι:=Nat×Nat×Res) (fun z=>[(0,.func (.yield lp) #[] #[]),(1,.pointer (some ⟨p2,0,none⟩)),(9,.slice A0 u8.length c0),(10,.int .i64 (u8.length:Int)),(11,.int .i64 (z.1:Int))]) (fun z=>[z.2.2,blk p2 205 [.slice A g.length cp],blk p3 3 [.int .i64 (a:Int)]]) (fun z=>z.1≤u8.length∧z.2.1≤(endsOf g a).length∧AI z.2.1 z.2.2∧(endsOf g a).drop z.2.1=(u8.drop z.1).filter (inG g)) (fun z=>u8.length-z.1) (0,0,r0) ?_ cv (Leads.has ZQ) ?_)))))
 exact ⟨Nat.zero_le _,Nat.zero_le _,hA,hends⟩
 rintro ⟨i,j,r⟩ ⟨hi,hj,hA,hd⟩
 dsimp only at hi hj hA hd
 try dsimp only
 refine Zh (Zi (Zx J J (Zn (Za (Zh (wC (fun h12=>?_) (fun h12=>?_)))))))
 refine Zj (Za (Zh (Zk (Zh (Zi (oIdx J J (g0) J ZO J J (fun e13 u13 cs13 hu13 hk13 hc13=>?_)))))))
 obtain rfl:=hk13
 have hfd:=filter_drop (P:=inG g) hu13
 refine Zlx hc13 ?_
 refine Zp J (Zn (Za (Zh (Zi (Zo J (Z2 J J (Zo J (ZS (ZT 17) (fun h17=>?_) (fun h17=>?_)))))))))
 refine Zq J J (Zo J (Zzf ?_))
 refine Zq J J (Zv J J (Zq J J (Zx J J (Zt J J (Zo J (ZS (ZT 23) (fun h23=>?_) (fun h23=>?_)))))))
 rw [if_pos (by simp [inG];omega)] at hfd
 obtain ⟨hjlt,hjg,hjd⟩:=drop_cons (hd.trans hfd)
 have hY:∀ Fr W1,St B (r :: Fr) W1→YieldAt Fence.wide 0 Tryz.prog lp (intV u13).toArray W1 (YEnd B j AI Ax Fr):=by
  intro Fr W1 h1
  have:=hbody j (by simpa using hjlt) r Fr W1 hA h1
  rwa [List.getElem_map,hjg] at this
 refine Zq J J (Zo J (Zq J J (Zo J (Zq J J (oYield J J J (fun w hS=>hY _ w (hS.perm (Pick.perm ZP))) ?_)))))
 rintro ⟨bb,r'⟩ hr'
 dsimp only at hr' ⊢
 refine Zq J J (Zno ?_)
 refine Zt J J (Zn (Za (wC (fun h28=>?_) (fun h28=>?_))))
 refine Zl (Zf (Zc (Zc (Zf (Zw ?_)))))
 refine ⟨rfl,_,ResL.nil,?_⟩
 exact ⟨r',.inr ⟨j,by simpa using hjlt,by rw [if_neg (by simpa using h28)] at hr';exact hr'⟩,rfl,Lh⟩
 refine Zj (Zzk ?_)
 refine Zo J (Zn (Za ?_))
 exact ⟨rfl,(i+1,j+1,r'),⟨by show i+1≤_;omega,hjlt,by rw [if_pos (by simpa using h28)] at hr';exact hr',hjd⟩,by show u8.length-(i+1)<u8.length-i;omega,cv,Lh⟩
 refine Zr J J J J (Zr J J J J (Zr J J J J (Zr J J J J (Zu J J (Zn (Za (wCondF J (Zj (Zzk ?_)))))))))
 refine Zo J (Zn (Za ?_))
 exact ⟨rfl,(i+1,j,r),⟨by show i+1≤_;omega,hj,hA,by rw [hd,hfd,if_neg (by simp [inG];omega)]⟩,by show u8.length-(i+1)<u8.length-i;omega,cv,Lh⟩
 refine Zr J J J J (Zr J J J J (Zr J J J J (Zr J J J J (Zu J J (Zo J (Zr J J J J (Zr J J J J (Zr J J J J (Zr J J J J (Zu J J (Zn (Za (wCondF J (Zj (Zzk ?_)))))))))))))))
 refine Zo J (Zn (Za ?_))
 exact ⟨rfl,(i+1,j,r),⟨by show i+1≤_;omega,hj,hA,by rw [hd,hfd,if_neg (by simp [inG];omega)]⟩,by show u8.length-(i+1)<u8.length-i;omega,cv,Lh⟩
 refine Zm (Zb (Zb (Ze (fin_n ?_))))
 refine ⟨rfl,_,ResL.nil,?_⟩
 have hj:j=((endsOf g a).map intV).length:=by
  obtain rfl:i=u8.length:=by omega
  rw [List.drop_length] at hd
  have:=List.drop_eq_nil_iff.1 hd
  rw [List.length_map];omega
 exact ⟨r,.inl (hj ▸ hA),rfl,Lh⟩

end Go.Proofs.YtpmdhkjbhjgoaaaGreatG


/-
  Package digraph: Clean; the library's Sorted.
-/
namespace Go.Proofs.YtpmdhkjbhjgoaaaGreatG
set_option maxRecDepth 100000
set_option maxHeartbeats 4000000
open Go.RowKit Go.Proofs.YtpmdhkjbhjgoaaaGreatK Go.Proofs.YtpmdhkjbhjgoaaaGreatT Go.Proofs.YtpmdhkjbhjgoaaaGreatL

def SmallG (g:Graph):Prop:=g.length≤1000∧∀ l ∈ g,l.length≤1000
theorem ends_le {g:Graph}(h:SmallG g) (a:Nat):(endsOf g a).length≤1000:=by
 unfold endsOf
 refine Nat.le_trans (List.length_filter_le _ _) ?_
 by_cases ha:a<g.length
 · rw [getD_at (List.getElem?_eq_getElem ha)]
   exact h.2 _ (List.getElem_mem ha)
 · rw [List.getD_eq_getElem?_getD,List.getElem?_eq_none ZO];simp
def cl (g:Graph) (a:Nat):List Int:=Lib.compact ((endsOf g a).mergeSort leI)
end Go.Proofs.YtpmdhkjbhjgoaaaGreatG


/-
  Package digraph: Reach.
-/
namespace Go.Proofs.YtpmdhkjbhjgoaaaGreatG
set_option maxRecDepth 100000
set_option maxHeartbeats 4000000
open Go.RowKit Go.Proofs.YtpmdhkjbhjgoaaaGreatK Go.Proofs.YtpmdhkjbhjgoaaaGreatT Go.Proofs.YtpmdhkjbhjgoaaaGreatL

inductive RP (g:Graph) (from_:List Int):Int→Prop
  | start {a:Int} : a ∈ from_→inG g a=true→RP g from_ a
  | step {a:Nat}{b:Int} : RP g from_ (a:Int)→b ∈ endsOf g a→RP g from_ b
theorem inG_iff {g:Graph}{x:Int} : inG g x=true↔0≤x∧x<(g.length:Int):=by simp [inG]
theorem ends_in {g:Graph}{a:Nat}{b:Int}(h:b ∈ endsOf g a):inG g b=true:=(List.mem_filter.1 h).2
theorem RP.inG {g:Graph}{f:List Int}{x:Int}(h:RP g f x):inG g x=true:=by
 cases h with
 | start _ h=>exact h
 | step _ h=>exact ends_in h
structure RS (g:Graph) (from_:List Int) (out:List Bool) (wait:List Int):Prop where
  len:out.length=g.length
  sound:∀ i:Nat,out[i]?=some true→RP g from_ (i:Int)
  waits:∀ x ∈ wait,RP g from_ x
  starts:∀ x ∈ from_,inG g x=true→out[x.toNat]?=some true∨x ∈ wait
  closed:∀ i:Nat,out[i]?=some true→∀ b ∈ endsOf g i,out[b.toNat]?=some true∨b ∈ wait
theorem RS.done {g:Graph}{f:List Int}{out:List Bool}(h:RS g f out []):∀ x,RP g f x→out[x.toNat]?=some true:=by
 intro x hx
 induction hx with
 | start h1 h2=>
  rcases h.starts _ h1 h2 with h | h
  · exact h
  · cases h
 | step h1 h2 ih=>
  rcases h.closed _ (by simpa using ih) _ h2 with h | h
  · exact h
  · cases h
theorem RS.skip {g:Graph}{f:List Int}{out:List Bool}{wait:List Int}{x:Int}(h:RS g f out (wait++[x])) (hx:out[x.toNat]?=some true):RS g f out wait:=by
 refine ⟨h.len,h.sound,fun y hy=>h.waits y (List.mem_append_left _ hy),fun y hy hi=>?_,fun i hi b hb=>?_⟩
 · rcases h.starts y hy hi with h | h
   · exact .inl h
   · rcases List.mem_append.1 h with h | h
     · exact .inr h
     · rw [List.mem_singleton.1 h];exact .inl hx
 · rcases h.closed i hi b hb with h | h
   · exact .inl h
   · rcases List.mem_append.1 h with h | h
     · exact .inr h
     · rw [List.mem_singleton.1 h];exact .inl hx
theorem RS.take {g:Graph}{f:List Int}{out:List Bool}{wait:List Int}{a:Nat}(h:RS g f out (wait++[(a:Int)])) (ha:a<out.length):RS g f (out.set a true) (wait++endsOf g a):=by
 have hR:RP g f (a:Int):=h.waits _ (by simp)
 have hset:∀ i:Nat,out[i]?=some true→(out.set a true)[i]?=some true:=fun i hi=>by
  rw [List.getElem?_set]
  split
  · rename_i e;subst e;simp [ha]
  · exact hi
 have haa:(out.set a true)[a]?=some true:=by simp [ha]
 refine ⟨by rw [List.length_set];exact h.len,fun i hi=>?_,fun x hx=>?_,fun x hx hi=>?_,fun i hi b hb=>?_⟩
 · rw [List.getElem?_set] at hi
   split at hi
   · rename_i e;subst e;exact hR
   · exact h.sound i hi
 · rcases List.mem_append.1 hx with hx | hx
   · exact h.waits x (List.mem_append_left _ hx)
   · exact .step hR hx
 · rcases h.starts x hx hi with h | h
   · exact .inl (hset _ h)
   · rcases List.mem_append.1 h with h | h
     · exact .inr (List.mem_append_left _ h)
     · rw [List.mem_singleton.1 h];exact .inl (by simpa using haa)
 · by_cases e:i=a
   · subst e;exact .inr (List.mem_append_right _ hb)
   · have hi':out[i]?=some true:=by rw [List.getElem?_set,if_neg (fun h=>e h.symm)] at hi;exact hi
     rcases h.closed i hi' b hb with h | h
     · exact .inl (hset _ h)
     · rcases List.mem_append.1 h with h | h
       · exact .inr (List.mem_append_left _ h)
       · rw [List.mem_singleton.1 h];exact .inl (by simpa using haa)
theorem RS.init (g:Graph) (f:List Int):RS g f (List.replicate g.length false) (f.filter (inG g)):=by
 refine ⟨by simp,fun i h=>?_,fun x hx=>?_,fun x hx hi=>.inr (List.mem_filter.2 ⟨hx,hi⟩),fun i h=>?_⟩
 · rw [List.getElem?_replicate] at h;split at h <;> simp at h
 · obtain ⟨h1,h2⟩:=List.mem_filter.1 hx;exact .start h1 h2
 · rw [List.getElem?_replicate] at h;split at h <;> simp at h
def falses (out:List Bool):Nat:=(out.filter (fun b=>!b)).length
theorem falses_set {out:List Bool}{a:Nat}(h:out[a]?=some false):falses (out.set a true)+1=falses out:=by
 unfold falses
 induction out generalizing a with
 | nil=>simp at h
 | cons b out ih=>
  cases a with
  | zero=>simp at h;subst h;simp
  | succ a=>
   have:=ih (a:=a) (by simpa using h)
   cases b <;> simp_all <;> omega
theorem falses_le (out:List Bool):falses out≤out.length:=List.length_filter_le _ _
theorem filter_take {u:List Int}{i:Nat}{x:Int}{P:Int→Bool}(h:u[i]?=some x):(u.take (i+1)).filter P=(u.take i).filter P++(if P x=true then [x] else []):=by
 obtain ⟨hi,rfl⟩:=List.getElem?_eq_some_iff.1 h
 rw [List.take_succ_eq_append_getElem hi,List.filter_append,List.filter_cons,List.filter_nil]

theorem reach_any {B:Base}{w:World}(hS:St B [] w) (g:Graph) (A:Option Addr) (cp:Nat) (hC:kII.C B.e A g) (hsm:SmallG g) (from_:List Int) (A1:Option Addr) (cp1:Nat) (hC1:(Kd.int .i64).C B.e A1 from_) (hf:from_.length≤1000) (W0:World) :
 CW 189 #[.slice A g.length cp,.slice A1 from_.length cp1] w
  (Ret B (fun z:Option Addr×Nat×List Bool=>z.2.2.length=g.length∧∀ i:Nat,z.2.2[i]?=some true↔RP g from_ (i:Int)) (fun z=>.slice z.1 g.length z.2.1) (fun z=>[row Kd.bool W0 4 (.slice z.1 g.length z.2.1) z.2.2])):=by
 have hn:=hsm.1
 (refine enterM Tryz.func189 J J hS ?_;simp only [List.zipIdx_cons,List.zipIdx_nil,List.map_cons,List.map_nil,Nat.reduceAdd,Nat.zero_add])
 refine Zh (Zi (Zp J (Zn (Za (Zh (Zi (Zo J (Zv J J (oMake (kd:=Kd.bool) (W:=W0) false J J J J J J ZO J (fun g13=>?_))))))))))
 refine Zp J (Zn (Za (Zh (Zi (oAlloc J ZP (fun b6=>?_))))))
 refine Zn (Za (Zh (Zh (Zi (Zo J (Zv J J (Zo J (Zn (Za (Zk (wLoop (ι:=Nat×Option Addr×Nat) (fun z=>[(0,.slice A g.length cp),(5,.slice (some ⟨g13,0,none⟩) g.length g.length),(6,.pointer (some ⟨b6,0,none⟩)),(14,.slice A1 from_.length cp1),(15,.int .i64 (from_.length:Int)),(16,.int .i64 (z.1:Int))]) (fun z=>[row Kd.bool W0 4 (.slice (some ⟨g13,0,none⟩) g.length g.length) (List.replicate g.length false),blk b6 46 [.slice z.2.1 ((from_.take z.1).filter (inG g)).length z.2.2],row (Kd.int .i64) W0 3 (.slice z.2.1 ((from_.take z.1).filter (inG g)).length z.2.2) ((from_.take z.1).filter (inG g))]) (fun z=>z.1≤from_.length) (fun z=>from_.length-z.1) (0,none,0) ?_ cv (Leads.nilrow.trans Lh) ?_)))))))))))
 exact Nat.zero_le _
 rintro ⟨i,A2,c2⟩ hi
 dsimp only at hi
 have hle:((from_.take i).filter (inG g)).length≤1000:=Nat.le_trans (List.length_filter_le _ _) (by rw [List.length_take];omega)
 try dsimp only
 refine Zh (Zi (Zx J J (Zn (Za (Zh (wC (fun h17=>?_) (fun h17=>?_)))))))
 refine Zj (Za (Zh (Zk (Zh (Zi (oIdx J J (hC1) J ZO J J (fun e18 u18 cs18 hu18 hk18 hc18=>?_)))))))
 obtain rfl:=hk18
 have hft:=filter_take (P:=inG g) hu18
 refine Zlx hc18 ?_
 refine Zp J (Zn (Za (Zh (Zi (Zo J (Z2 J J (Zo J (ZS (ZT 22) (fun h22=>?_) (fun h22=>?_)))))))))
 refine Zq J J (Zo J (Zq J J (Zo J (Zq J J (Zv J J (Zq J J (Zx J J (Zt J J (Zn (Za (wC (fun h27=>?_) (fun h27=>?_))))))))))))
 refine Zi (Zld ?_)
 refine Zo J (oBuildSlice1 J J J J J ZP J (fun b30=>?_))
 refine oApp1 u18 J J J J ZP ZP J ZO J (fun g31 cp31=>?_)
 rw [if_pos (by simp [inG];omega)] at hft
 rw [show ((from_.take i).filter (inG g)).length+1=((from_.take (i+1)).filter (inG g)).length by rw [hft,List.length_append];rfl,← hft]
 refine Zst ?_
 refine Zn (Zzk ?_)
 refine Zo J (Zn (Za ?_))
 exact ⟨rfl,(i+1,some ⟨g31,0,none⟩,cp31),by show i+1≤_;omega,by show from_.length-(i+1)<from_.length-i;omega,cv,Lh⟩
 refine Zj (Zzk ?_)
 refine Zo J (Zn (Za ?_))
 rw [show (if inG g u18=true then [u18] else [])=[] by rw [if_neg];simp [inG];omega,List.append_nil] at hft
 exact ⟨rfl,(i+1,A2,c2),by show i+1≤_;omega,by show from_.length-(i+1)<from_.length-i;omega,cv,by dsimp only;rw [hft];exact Lh⟩
 refine Zr J J J J (Zr J J J J (Zr J J J J (Zr J J J J (Zu J J (Zn (Za (wCondF J (Zj (Zzk ?_)))))))))
 refine Zo J (Zn (Za ?_))
 rw [show (if inG g u18=true then [u18] else [])=[] by rw [if_neg];simp [inG];omega,List.append_nil] at hft
 exact ⟨rfl,(i+1,A2,c2),by show i+1≤_;omega,by show from_.length-(i+1)<from_.length-i;omega,cv,by dsimp only;rw [hft];exact Lh⟩
 obtain rfl:i=from_.length:=by omega
 rw [List.take_length]
 refine Zm (Zb (Zb (Ze (Za (Zh (Zk (wLoopM (ι:=List Bool×List Int×Option Addr×Nat) (fun z=>[(0,.slice A g.length cp),(5,.slice (some ⟨g13,0,none⟩) g.length g.length),(6,.pointer (some ⟨b6,0,none⟩))]) (fun z=>[row Kd.bool W0 4 (.slice (some ⟨g13,0,none⟩) g.length g.length) z.1,blk b6 46 [.slice z.2.2.1 z.2.1.length z.2.2.2],row (Kd.int .i64) W0 3 (.slice z.2.2.1 z.2.1.length z.2.2.2) z.2.1]) (fun z=>RS g from_ z.1 z.2.1∧z.2.1.length+falses z.1 * 1000≤2000000) (fun z=>falses z.1 * 1001+z.2.1.length) (List.replicate g.length false,from_.filter (inG g),A2,c2) ?_ cv [] J (marks_nil.trans Lh) ?_)))))))
 exact ⟨RS.init g from_,by have h1:falses (List.replicate g.length false)≤g.length:=Nat.le_trans (falses_le _) (by simp);have h2:(from_.filter (inG g)).length≤from_.length:=List.length_filter_le _ _;show (from_.filter (inG g)).length+falses (List.replicate g.length false) * 1000≤2000000;omega⟩
 rintro ⟨out,wait,A3,c3⟩ Ms ⟨hrs,hbd⟩
 dsimp only at hrs hbd
 have hol:=hrs.len
 try dsimp only
 refine Zh (Zh (Zi (Zld ?_)))
 refine Zv J J (Z1 J J (Zn (Za (wC (fun h35=>?_) (fun h35=>?_)))))
 refine Zj (Za (Zk (Zh (Zi (Zld ?_)))))
 refine Zld ?_
 refine Zv J J ?_
 first | refine oSub rfl rfl ZO ?_ | refine oSubW rfl rfl ?_
 refine ZS0 (t:=39) (v':=.int .i64 ((wait.length-1:Nat):Int)) J (by congr 1;omega) ?_
 refine ZR J J ZP ZO J J (fun g40 hg40=>?_)
 first | subst hg40 | (injection hg40 with hg40;injection hg40 with hg40;subst hg40)
 refine ZR1 J ZP ZO J (fun u41 hu41=>?_)
 have hW:(wait.take (wait.length-1)).length=wait.length-1:=by simp
 have hw:wait=wait.take (wait.length-1)++[u41]:=by
  have h1:wait.length-1<wait.length:=by omega
  have h2:=(List.getElem?_eq_some_iff.1 hu41).2
  rw [← h2,← List.take_succ_eq_append_getElem h1,show wait.length-1+1=wait.length by omega,List.take_length]
 have hin:=inG_iff.1 (hrs.waits u41 (by rw [hw];simp)).inG
 obtain ⟨a,rfl⟩:=Int.eq_ofNat_of_zero_le hin.1
 have ha:a<g.length:=by omega
 have hel:=ends_le hsm a
 have hrs':RS g from_ out (wait.take (wait.length-1)++[(a:Int)]):=by rw [← hw];exact hrs
 refine Zp J (Zn (Za (Zh (Zi (Zld ?_)))))
 refine Zld ?_
 refine Zv J J ?_
 first | refine oSub rfl rfl ZO ?_ | refine oSubW rfl rfl ?_
 refine ZS0 (t:=45) (v':=.int .i64 ((wait.length-1:Nat):Int)) J (by congr 1;omega) ?_
 refine oSliceTo J J ZO J ZP ?_
 refine Zst ?_
 refine Zn (Za (Zh (Zh (Zi (Zo J (Zo J (ZR J J ZP ZO J J (fun g49 hg49=>?_))))))))
 first | subst hg49 | (injection hg49 with hg49;injection hg49 with hg49;subst hg49)
 refine ZR1 J ZP ZO J (fun u50 hu50=>?_)
 refine Zn (Za (wC (fun h50=>?_) (fun h50=>?_)))
 refine Zm (Zb (Ze (Za ?_)))
 exact ⟨Ms,rfl,(out,wait.take (wait.length-1),some ⟨g40,0,none⟩,c3),⟨hrs'.skip (by rw [Int.toNat_natCast,hu50,h50]),by show (wait.take (wait.length-1)).length+falses out * 1000≤2000000;rw [hW];omega⟩,by show falses out * 1001+(wait.take (wait.length-1)).length<falses out * 1001+wait.length;rw [hW];omega,cv,by (try dsimp only);rw [hW];exact Lh⟩
 have hfs:=falses_set (out:=out) (a:=a) (by rw [hu50,h50])
 refine Zj (Za (Zh (Zi (Zo J (Zo J (ZR J J ZP ZO J J (fun g53 hg53=>?_)))))))
 first | subst hg53 | (injection hg53 with hg53;injection hg53 with hg53;subst hg53)
 refine oStR _ J J J J ZP (by first | omega | (simp only [List.length_set];omega)) ?_
 refine Zn (Zzt ?_)
 (refine ZC0 rfl ZK (fun w hS=>frame hS ZQ (fun B' hB hS'=>ends_any hS' A g.length cp (a:Int))) ?_;rintro ⟨p2,p3⟩ -)
 refine Zn (Za (Zk ?_))
 refine wRange rfl rfl ZK (ends1 g A cp a p2 p3 hC ha) (by rintro _ h;obtain ⟨y,_,rfl⟩:=List.mem_map.1 h;rfl) rfl (ι:=Nat×Option Addr×Nat) (κ:=Unit) (fun j z=>z.1=j) (fun z=>[marksR Ms,row Kd.bool W0 4 (.slice (some ⟨g13,0,none⟩) g.length g.length) (out.set a true),blk b6 46 [.slice z.2.1 (wait.length-1+z.1) z.2.2],row (Kd.int .i64) W0 3 (.slice z.2.1 (wait.length-1+z.1) z.2.2) (wait.take (wait.length-1)++(endsOf g a).take z.1)]) (fun x z=>False) (fun x z=>[]) (0,some ⟨g40,0,none⟩,c3) rfl (by dsimp only;rw [List.take_zero,List.append_nil,Nat.add_zero];exact Lh) ?_ ?_ ?_
 intro lp4 B' R1 R2 j hj
 rintro ⟨i,A2,c2⟩ hB rfl
 dsimp only
 have hj':i<(endsOf g a).length:=by simpa using hj
 have hlt:(wait.take (wait.length-1)++(endsOf g a).take i).length=wait.length-1+i:=by rw [List.length_append,hW,List.length_take];omega
 have htk:wait.take (wait.length-1)++(endsOf g a).take i++[(endsOf g a)[i]]=wait.take (wait.length-1)++(endsOf g a).take (i+1):=by rw [List.append_assoc,List.take_succ_eq_append_getElem hj']
 rw [List.getElem_map]
 generalize (endsOf g a)[i]=x at *
 dsimp only [hand,intV]
 refine Zi (Zp J (Zn (aq_n ZP ?_)))
 refine Zk (Zi (Zld ?_))
 refine Zo J (oBuildSlice1 J J J J J ZP J (fun b60=>?_))
 refine oApp1 x J J J J ZP ZP J ZO J (fun g61 cp61=>?_)
 rw [hlt,htk]
 refine Zst ?_
 refine Zn (Zd (rq_n ?_))
 exact ⟨(i+1,some ⟨g61,0,none⟩,cp61),rfl,Lh⟩
 rintro ⟨i,A2,c2⟩ Dm4 h
 dsimp only at h
 rw [List.length_map] at h
 subst h
 dsimp only
 rw [List.take_length]
 try dsimp only
 refine Zd (Zd (Za ?_))
 exact ⟨Dm4 :: Ms,rfl,(out.set a true,wait.take (wait.length-1)++endsOf g a,A2,c2),⟨hrs'.take ZO,by show (wait.take (wait.length-1)++endsOf g a).length+falses (out.set a true) * 1000≤2000000;rw [List.length_append,hW];omega⟩,by show falses (out.set a true) * 1001+(wait.take (wait.length-1)++endsOf g a).length<falses out * 1001+wait.length;rw [List.length_append,hW];omega,cv,by (try dsimp only);rw [List.length_append,hW];exact (marks_push ZP ZP).trans Lh⟩
 rintro _ _ _ h;exact h.elim
 refine Zm (Zb (Zb (Ze (Za (Zh (Zi (Zo J (Zp J (Zn (Za (Zl (finMb_r (Ds:=Ms) J ZP (ResL.cons (ResR.tmp J) ResL.nil) ?_))))))))))))
 have hw0:wait=[]:=List.eq_nil_of_length_eq_zero ZO
 subst hw0
 exact ⟨(some ⟨g13,0,none⟩,g.length,out),⟨hrs.len,fun i=>⟨hrs.sound i,fun h=>by simpa using hrs.done _ h⟩⟩,rfl,Lh⟩
end Go.Proofs.YtpmdhkjbhjgoaaaGreatG


/-
  The references' small ones: Few, Edge, Ints, In, Member.
-/
namespace Go.Proofs.YtpmdhkjbhjgoaaaGreatG
set_option maxRecDepth 100000
set_option maxHeartbeats 4000000
open Go.RowKit Go.Proofs.YtpmdhkjbhjgoaaaGreatK Go.Proofs.YtpmdhkjbhjgoaaaGreatT Go.Proofs.YtpmdhkjbhjgoaaaGreatL

def edgeF (g:Graph) (a b:Int):Bool:=decide (0≤a) && decide (a<(g.length:Int)) && decide (0≤b) && decide (b<(g.length:Int)) && decide (b ∈ g.getD a.toNat [])
theorem ints_any {B:Base}{w:World}(hS:St B [] w) (A:Option Addr) (cp:Nat) (l:List Int) (hC:(Kd.int .i64).C B.e A l) (A1:Option Addr) (cp1:Nat) (k:List Int) (hC1:(Kd.int .i64).C B.e A1 k) :
 CW 79 #[.slice A l.length cp,.slice A1 k.length cp1] w (Ret B (fun _:Unit=>True) (fun _=>.bool (decide (l=k))) (fun _=>[])):=by
 have m0:=hC.1
 have m1:=hC1.1
 refine ZX Tryz.func79 hS ?_
 refine Zh (Zi (Zp J (Zn (Za (Zh (Zh (Zi (Zo J (Zv J J (Zo J (Zv J J (Z0 J J (Zn (Za (wC (fun h10=>?_) (fun h10=>?_))))))))))))))))
 refine Zh (Zi (Zzb ?_))
 exact ⟨(),trivial,by rw [decide_eq_false (show ¬ l=k by rintro rfl;exact h10 rfl)];rfl,Lh⟩
 refine Zj (Za (Zh (Zh (Zi (Zp J (Zn (Za (Zk (wLoop (ι:=Nat) (fun i=>[(0,.slice A l.length cp),(1,.slice A1 k.length cp1),(5,.int .i64 (i:Int))]) (fun i=>[]) (fun i=>i≤l.length∧∀ j,j<i→l[j]?=k[j]?) (fun i=>l.length-i) 0 ?_ cv (Leads.has ZQ) ?_)))))))))
 exact ⟨Nat.zero_le _,fun j hj=>by omega⟩
 rintro i ⟨hi,hs⟩
 try dsimp only
 refine Zh (Zh (Zi (Zo J (Zo J (Zv J J (Zx J J (Zn (Za (wC (fun h14=>?_) (fun h14=>?_))))))))))
 refine Zj (Za (Zh (Zk (Zh (wDraw2 J J [0,1,4,5] [2,3,6,7] 8 ZK J J J (fun w0=>?_))))))
 refine oIdx J J (hC) J ZO J J (fun e19 u19 cs19 hu19 hk19 hc19=>?_)
 obtain rfl:=hk19
 refine Zlx hc19 ?_
 refine oIdx J J (hC1) J ZO J J (fun e23 u23 cs23 hu23 hk23 hc23=>?_)
 obtain rfl:=hk23
 refine Zlx hc23 ?_
 refine oHead (Z0 J J (oNilT (Za (wC (fun h25=>?_) (fun h25=>?_)))))
 refine Zh (Zi (Zzc ?_))
 exact ⟨(),trivial,by rw [decide_eq_false (show ¬ l=k by rintro rfl;rw [hu19] at hu23;exact h25 (Option.some.inj hu23))];rfl,Lh⟩
 refine Zj (Zze ?_)
 refine Zp J (Zn (Za ?_))
 exact ⟨rfl,i+1,⟨by omega,fun j hj=>by
 by_cases e:j=i
 · subst e;rw [hu19,hu23];congr 1;omega
 · exact hs j ZO⟩,by omega,cv,Lh⟩
 refine Zm (Zzg ?_)
 have hlk:l=k:=by
  apply List.ext_getElem?
  intro j
  rcases Nat.lt_or_ge j i with h | h
  · exact hs j h
  · rw [List.getElem?_eq_none ZO,List.getElem?_eq_none ZO]
 exact ⟨(),trivial,by rw [decide_eq_true hlk];rfl,Lh⟩
def memF (g:Graph) (ib:List Bool) (a:Int):Bool:=decide (0≤a) && decide (a<(g.length:Int)) && decide (a<(ib.length:Int)) && ib.getD a.toNat false
end Go.Proofs.YtpmdhkjbhjgoaaaGreatG


/-
  The reference's Reach.
-/
namespace Go.Proofs.YtpmdhkjbhjgoaaaGreatG
set_option maxRecDepth 100000
set_option maxHeartbeats 4000000
open Go.RowKit Go.Proofs.YtpmdhkjbhjgoaaaGreatK Go.Proofs.YtpmdhkjbhjgoaaaGreatT Go.Proofs.YtpmdhkjbhjgoaaaGreatL

def Tr (out:List Bool) (i:Nat):Prop:=out[i]?=some true
theorem Tr.set {out:List Bool}{i j:Nat}(h:Tr out i):Tr (out.set j true) i:=by
 unfold Tr at *
 rw [List.getElem?_set]
 split
 · rename_i e;subst e;have:=(List.getElem?_eq_some_iff.1 h).1;simp [this]
 · exact h
theorem Tr.self {out:List Bool}{j:Nat}(h:j<out.length):Tr (out.set j true) j:=by unfold Tr;simp [h]
theorem Tr.of_set {out:List Bool}{i j:Nat}(h:Tr (out.set j true) i):Tr out i∨i=j:=by
 unfold Tr at *
 rw [List.getElem?_set] at h
 split at h
 · rename_i e;exact .inr e.symm
 · exact .inl h
theorem Tr.set_same {out:List Bool}{j:Nat}(h:Tr out j):out.set j true=out:=by
 obtain ⟨hj,he⟩:=List.getElem?_eq_some_iff.1 h
 rw [← he];exact List.set_getElem_self hj
def Closed (g:Graph) (out:List Bool):Prop:=∀ a,Tr out a→∀ b ∈ endsOf g a,Tr out b.toNat
theorem falses_mono:∀ {old out:List Bool},old.length=out.length→(∀ i,Tr old i→Tr out i)→falses out≤falses old∧(∀ i,old[i]?=some false→Tr out i→falses out<falses old)
 | [],[],_,_=>⟨Nat.le_refl _,fun i h=>by simp at h⟩
 | a :: old,b :: out,hl,h=>by
  obtain ⟨h1,h2⟩:=falses_mono (old:=old) (out:=out) (by simpa using hl) (fun i hi=>by simpa [Tr] using h (i+1) (by simpa [Tr] using hi))
  have h0:=h 0
  simp only [Tr,List.getElem?_cons_zero,Option.some.injEq] at h0
  have e1:falses (a :: old)=falses old+(if a then 0 else 1):=by unfold falses;cases a <;> simp
  have e2:falses (b :: out)=falses out+(if b then 0 else 1):=by unfold falses;cases b <;> simp
  rw [e1,e2]
  refine ⟨?_,fun i hi ht=>?_⟩
  · cases a <;> cases b <;> simp_all <;> omega
  · cases i with
    | zero=>
     simp only [List.getElem?_cons_zero,Option.some.injEq,Tr] at hi ht
     subst hi ht
     simp;omega
    | succ i=>
     have:=h2 i (by simpa using hi) (by simpa [Tr] using ht)
     cases a <;> cases b <;> simp_all <;> omega
structure RI (g:Graph) (f:List Int) (out:List Bool):Prop where
  len:out.length=g.length
  sound:∀ i,Tr out i→RP g f (i:Int)
theorem RI.set {g:Graph}{f:List Int}{out:List Bool}{j:Nat}(h:RI g f out) (hj:RP g f (j:Int)):RI g f (out.set j true):=
 ⟨by rw [List.length_set];exact h.len,fun i hi=>by
  rcases hi.of_set with hi | rfl
  · exact h.sound i hi
  · exact hj⟩
def Starts (g:Graph) (f:List Int) (out:List Bool) (n:Nat):Prop:=∀ j x,j<n→f[j]?=some x→inG g x=true→Tr out x.toNat
theorem closed_of_none {g:Graph}{out:List Bool}(hl:out.length=g.length) (h:falses out=0):Closed g out:=by
 intro a _ b hb
 have hin:=inG_iff.1 (ends_in hb)
 unfold Tr
 rw [List.getElem?_eq_getElem (show b.toNat<out.length by omega)]
 congr 1
 unfold falses at h
 have:=List.filter_eq_nil_iff.1 (List.eq_nil_of_length_eq_zero h) _ (List.getElem_mem (show b.toNat<out.length by omega))
 simpa using this
theorem reach_iff {g:Graph}{f:List Int}{out:List Bool}(h:RI g f out) (hs:Starts g f out f.length) (hc:Closed g out):∀ i:Nat,Tr out i↔RP g f (i:Int):=by
 have key:∀ x,RP g f x→Tr out x.toNat:=by
  intro x hx
  induction hx with
  | start h1 h2=>
   obtain ⟨j,hj⟩:=List.mem_iff_getElem?.1 h1
   exact hs j _ (List.getElem?_eq_some_iff.1 hj).1 hj h2
  | step h1 h2 ih=>exact hc _ (by simpa using ih) _ h2
 exact fun i=>⟨h.sound i,fun hx=>by simpa using key _ hx⟩
structure Rd (g:Graph) (f:List Int) (old out:List Bool) (a:Nat):Prop where
  ri:RI g f out
  mono:∀ i,Tr old i→Tr out i
  done:∀ a',a'<a→Tr old a'→∀ b ∈ endsOf g a',Tr out b.toNat
  same:Closed g old→out=old
theorem Rd.set {g:Graph}{f:List Int}{old out:List Bool}{a:Nat}{x:Int}(h:Rd g f old out a) (ha:Tr out a) (hx:x ∈ endsOf g a):Rd g f old (out.set x.toNat true) a:=by
 have hin:=inG_iff.1 (ends_in hx)
 refine ⟨h.ri.set ?_,fun i hi=>(h.mono i hi).set,fun a' h1 h2 b hb=>(h.done a' h1 h2 b hb).set,fun hc=>?_⟩
 · rw [Int.toNat_of_nonneg hin.1];exact .step (h.ri.sound a ha) hx
 · have e:=h.same hc
   subst e
   exact Tr.set_same (hc a ha x hx)
theorem Rd.next {g:Graph}{f:List Int}{old out:List Bool}{a:Nat}(h:Rd g f old out a) (hd:¬ Tr out a∨∀ b ∈ endsOf g a,Tr out b.toNat):Rd g f old out (a+1):=by
 refine ⟨h.ri,h.mono,fun a' h1 h2 b hb=>?_,h.same⟩
 by_cases e:a'=a
 · subst e
   rcases hd with hd | hd
   · exact absurd (h.mono _ h2) hd
   · exact hd b hb
 · exact h.done a' ZO h2 b hb
theorem Rd.end {g:Graph}{f:List Int}{old out:List Bool}{n:Nat}(h:Rd g f old out g.length) (hl:old.length=g.length) (hr:Closed g old∨falses old+n≤g.length):Closed g out∨falses out+(n+1)≤g.length:=by
 by_cases hc:Closed g old
 · rw [h.same hc];exact .inl hc
 · right
   rcases hr with hr | hr
   · exact absurd hr hc
   · obtain ⟨a, ha, b, hb, hn⟩ : ∃ a, Tr old a ∧ ∃ b, b ∈ endsOf g a ∧ ¬ Tr old b.toNat := by
      apply Classical.byContradiction
      intro hne
      apply hc
      intro a ha b hb
      apply Classical.byContradiction
      intro hn
      exact hne ⟨a,ha,b,hb,hn⟩
     have hin:=inG_iff.1 (ends_in hb)
     have hal:a<g.length:=by rw [← hl];exact (List.getElem?_eq_some_iff.1 ha).1
     have hbl:b.toNat<old.length:=by omega
     have hbf:old[b.toNat]?=some false:=by
      unfold Tr at hn
      rw [List.getElem?_eq_getElem hbl] at hn ⊢
      cases hv:old[b.toNat] with
      | true=>rw [hv] at hn;exact absurd rfl hn
      | false=>rfl
     have:=(falses_mono (by rw [hl,h.ri.len]) h.mono).2 _ hbf (h.done a hal ha b hb)
     omega
theorem refReach {B:Base}{w:World}(hS:St B [] w) (g:Graph) (A:Option Addr) (cp:Nat) (hC:kII.C B.e A g) (hsm:SmallG g) (f:List Int) (A1:Option Addr) (cp1:Nat) (hC1:(Kd.int .i64).C B.e A1 f) (W0:World) :
 CW 176 #[.slice A g.length cp,.slice A1 f.length cp1] w
  (Ret B (fun z:Option Addr×Nat×List Bool=>z.2.2.length=g.length∧∀ i:Nat,z.2.2[i]?=some true↔RP g f (i:Int)) (fun z=>.slice z.1 g.length z.2.1) (fun z=>[row Kd.bool W0 4 (.slice z.1 g.length z.2.1) z.2.2])):=by
 have hn:=hsm.1
 have m1:=hC1.1
 refine ZX Tryz.func176 hS ?_
 refine Zh (Zi (Zp J (Zn (Za (Zh (Zi (Zo J (Zv J J (oMake (kd:=Kd.bool) (W:=W0) false J J J J J J ZO J (fun g12=>?_))))))))))
 refine Zp J (Zn (Za (Zh (Zh (Zi (Zp J (Zn (Za (Zk (wLoop (ι:=Nat×List Bool) (fun z=>[(0,.slice A g.length cp),(1,.slice A1 f.length cp1),(5,.slice (some ⟨g12,0,none⟩) g.length g.length),(6,.int .i64 (z.1:Int))]) (fun z=>[row Kd.bool W0 4 (.slice (some ⟨g12,0,none⟩) g.length g.length) z.2]) (fun z=>z.1≤f.length∧RI g f z.2∧Starts g f z.2 z.1) (fun z=>f.length-z.1) (0,List.replicate g.length false) ?_ cv (Leads.has ZQ) ?_))))))))))
 exact ⟨Nat.zero_le _,⟨by simp,fun i h=>by unfold Tr at h;rw [List.getElem?_replicate] at h;split at h <;> simp at h⟩,fun j x h=>by omega⟩
 rintro ⟨i,out⟩ ⟨hi,hri,hst⟩
 dsimp only at hi hri hst
 have hol:=hri.len
 try dsimp only
 refine Zh (Zh (Zi (Zo J (Zo J (Zv J J (Zx J J (Zn (Za (wC (fun h16=>?_) (fun h16=>?_))))))))))
 refine Zj (Za (Zh (Zk (Zh (Zi (Zo J (Zo J (oIdx J J (hC1) J ZO J J (fun e21 u21 cs21 hu21 hk21 hc21=>?_)))))))))
 obtain rfl:=hk21
 refine Zlx hc21 ?_
 refine Z2 J J (Zo J (ZS (ZT 24) (fun h24=>?_) (fun h24=>?_)))
 refine Zq J J (Zo J (Zq J J (Zo J (Zq J J (oIdx J J (hC1) J ZO J J (fun e27 u27 cs27 hu27 hk27 hc27=>?_))))))
 obtain rfl:=hk27
 obtain rfl:=Option.some.inj (hu21.symm.trans hu27)
 refine Zq J J (Zlx hc27 ?_)
 refine Zq J J (Zo J (Zq J J (Zv J J (Zq J J (Zx J J (Zt J J (Zn (Za (wC (fun h32=>?_) (fun h32=>?_))))))))))
 refine Zi (Zo J (Zo J (Zo J (oIdx J J (hC1) J ZO J J (fun e36 u36 cs36 hu36 hk36 hc36=>?_)))))
 obtain rfl:=hk36
 obtain rfl:=Option.some.inj (hu21.symm.trans hu36)
 refine Zlx hc36 ?_
 refine ZS0 (t:=37) (v':=.int .i64 ((u21.toNat:Nat):Int)) rfl (by rw [Int.toNat_of_nonneg h24]) ?_
 refine ZR J J ZP ZO J J (fun g38 hg38=>?_)
 first | subst hg38 | (injection hg38 with hg38;injection hg38 with hg38;subst hg38)
 refine oStR _ J J J J ZP (by first | omega | (simp only [List.length_set];omega)) ?_
 refine Zn (Zze ?_)
 refine Zp J (Zn (Za ?_))
 exact ⟨rfl,(i+1,out.set u21.toNat true),⟨by show i+1≤_;omega,hri.set (by rw [Int.toNat_of_nonneg h24];exact .start (List.mem_of_getElem? hu21) (by simp [inG];omega)),fun j x hj hx hin=>by
 by_cases e:j=i
 · subst e;obtain rfl:=Option.some.inj (hu21.symm.trans hx);exact Tr.self ZO
 · exact (hst j x ZO hx hin).set⟩,by show f.length-(i+1)<f.length-i;omega,cv,Lh⟩
 refine Zj (Zze ?_)
 refine Zp J (Zn (Za ?_))
 exact ⟨rfl,(i+1,out),⟨by show i+1≤_;omega,hri,fun j x hj hx hin=>by
 by_cases e:j=i
 · subst e;obtain rfl:=Option.some.inj (hu21.symm.trans hx);rw [inG_iff] at hin;omega
 · exact hst j x ZO hx hin⟩,by show f.length-(i+1)<f.length-i;omega,cv,Lh⟩
 refine Zr J J J J (Zr J J J J (Zr J J J J (Zr J J J J (Zr J J J J (Zr J J J J (Zr J J J J (Zu J J (Zn (Za (wCondF J (Zj (Zze ?_))))))))))))
 refine Zp J (Zn (Za ?_))
 exact ⟨rfl,(i+1,out),⟨by show i+1≤_;omega,hri,fun j x hj hx hin=>by
 by_cases e:j=i
 · subst e;obtain rfl:=Option.some.inj (hu21.symm.trans hx);rw [inG_iff] at hin;omega
 · exact hst j x ZO hx hin⟩,by show f.length-(i+1)<f.length-i;omega,cv,Lh⟩
 obtain rfl:i=f.length:=by omega
 refine Zm (Zb (Zb (Ze (Za (Zh (Zh (Zi (Zp J (Zn (Za (Zk (wLoop (ι:=Nat×List Bool) (fun z=>[(0,.slice A g.length cp),(5,.slice (some ⟨g12,0,none⟩) g.length g.length),(7,.int .i64 (z.1:Int))]) (fun z=>[row Kd.bool W0 4 (.slice (some ⟨g12,0,none⟩) g.length g.length) z.2]) (fun z=>z.1≤g.length∧RI g f z.2∧Starts g f z.2 f.length∧(Closed g z.2∨falses z.2+z.1≤g.length)) (fun z=>g.length-z.1) (0,out) ?_ cv (Leads.has ZQ) ?_))))))))))))
 exact ⟨Nat.zero_le _,hri,hst,.inr (by have:=falses_le out;show falses out+0≤_;omega)⟩
 rintro ⟨r,old⟩ ⟨hr,hri2,hst2,hcl⟩
 dsimp only at hr hri2 hst2 hcl
 try dsimp only
 refine Zh (Zh (Zi (Zo J (Zo J (Zv J J (Zx J J (Zn (Za (wC (fun h42=>?_) (fun h42=>?_))))))))))
 refine Zj (Za (Zh (Zk (Zh (Zi (Zp J (Zn (Za (Zk (wLoop (ι:=Nat×List Bool) (fun z=>[(0,.slice A g.length cp),(5,.slice (some ⟨g12,0,none⟩) g.length g.length),(7,.int .i64 (r:Int)),(8,.int .i64 (z.1:Int))]) (fun z=>[row Kd.bool W0 4 (.slice (some ⟨g12,0,none⟩) g.length g.length) z.2]) (fun z=>z.1≤g.length∧Rd g f old z.2 z.1) (fun z=>g.length-z.1) (0,old) ?_ cv (Leads.has ZQ) ?_))))))))))
 exact ⟨Nat.zero_le _,hri2,fun _ h=>h,fun a' h=>by omega,fun _=>rfl⟩
 rintro ⟨a,out4⟩ ⟨ha,hrd⟩
 dsimp only at ha hrd
 try dsimp only
 refine Zh (Zh (Zi (Zo J (Zo J (Zv J J (Zx J J (Zn (Za (wC (fun h48=>?_) (fun h48=>?_))))))))))
 refine Zj (Za (Zh (Zk (Zh (Zi (Zp J (Zn (Za (Zk (wLoop (ι:=Nat×List Bool) (fun z=>[(0,.slice A g.length cp),(5,.slice (some ⟨g12,0,none⟩) g.length g.length),(7,.int .i64 (r:Int)),(8,.int .i64 (a:Int)),(9,.int .i64 (z.1:Int))]) (fun z=>[row Kd.bool W0 4 (.slice (some ⟨g12,0,none⟩) g.length g.length) z.2]) (fun z=>z.1≤(g.getD a []).length∧Rd g f old z.2 a∧∀ j x,j<z.1→(g.getD a [])[j]?=some x→inG g x=true→Tr z.2 x.toNat) (fun z=>(g.getD a []).length-z.1) (0,out4) ?_ cv (Leads.has ZQ) ?_))))))))))
 exact ⟨Nat.zero_le _,hrd,fun j x h=>by omega⟩
 rintro ⟨i,out6⟩ ⟨hi6,hrd6,hds⟩
 dsimp only at hi6 hrd6 hds
 have hol:=hrd6.ri.len
 try dsimp only
 refine Zh (Zh (Zi (Zo J (Zo J (ZR J J ZP ZO J J (fun g53 hg53=>?_))))))
 first | subst hg53 | (injection hg53 with hg53;injection hg53 with hg53;subst hg53)
 refine ZR1 J ZP ZO J (fun u54 hu54=>?_)
 refine Zo J (ZS (ZT 55) (fun h55=>?_) (fun h55=>?_))
 refine Zq J J (Zo J (Zq J J (Zo J (Zq J J (Zo J (Zq J J (oIdx J J (hC) J ZO J J (fun e59 u59 cs59 hu59 hk59 hc59=>?_))))))))
 obtain ⟨A0,c0,rfl,hle59,g0⟩:=hk59
 have hbig:=g0.1
 refine Zq J J (Zlx hc59 ?_)
 refine Zq J J (Zv J J (Zq J J (Zx J J (Zt J J (Zn (Za (wC (fun h63=>?_) (fun h63=>?_))))))))
 refine Zj (Za (Zh (Zk (Zh (Zi (Zo J (Zo J (oIdx J J (hC) J ZO J J (fun e68 u68 cs68 hu68 hk68 hc68=>?_)))))))))
 obtain ⟨A0,c0,rfl,hle68,g0⟩:=hk68
 have hbig:=g0.1
 obtain rfl:=Option.some.inj (hu59.symm.trans hu68)
 refine Zlx hc68 ?_
 refine Zo J (oIdx J J (g0) J ZO J J (fun e71 u71 cs71 hu71 hk71 hc71=>?_))
 obtain rfl:=hk71
 refine Zlx hc71 ?_
 refine Z2 J J (Zo J (ZS (ZT 74) (fun h74=>?_) (fun h74=>?_)))
 refine Zq J J (Zo J (Zq J J (Zo J (Zq J J (oIdx J J (hC) J ZO J J (fun e77 u77 cs77 hu77 hk77 hc77=>?_))))))
 obtain ⟨A0,c0,rfl,hle77,g0⟩:=hk77
 have hbig:=g0.1
 obtain rfl:=Option.some.inj (hu59.symm.trans hu77)
 refine Zq J J (Zlx hc77 ?_)
 refine Zq J J (Zo J (Zq J J (oIdx J J (g0) J ZO J J (fun e80 u80 cs80 hu80 hk80 hc80=>?_))))
 obtain rfl:=hk80
 obtain rfl:=Option.some.inj (hu71.symm.trans hu80)
 refine Zq J J (Zlx hc80 ?_)
 refine Zq J J (Zo J (Zq J J (Zv J J (Zq J J (Zx J J (Zt J J (Zn (Za (wC (fun h85=>?_) (fun h85=>?_))))))))))
 refine Zi (Zo J (Zo J (Zo J (oIdx J J (hC) J ZO J J (fun e89 u89 cs89 hu89 hk89 hc89=>?_)))))
 obtain ⟨A0,c0,rfl,hle89,g0⟩:=hk89
 have hbig:=g0.1
 obtain rfl:=Option.some.inj (hu59.symm.trans hu89)
 refine Zlx hc89 ?_
 refine Zo J (oIdx J J (g0) J ZO J J (fun e92 u92 cs92 hu92 hk92 hc92=>?_))
 obtain rfl:=hk92
 obtain rfl:=Option.some.inj (hu71.symm.trans hu92)
 refine Zlx hc92 ?_
 refine ZS0 (t:=93) (v':=.int .i64 ((u71.toNat:Nat):Int)) rfl (by rw [Int.toNat_of_nonneg h74]) ?_
 refine ZR J J ZP ZO J J (fun g94 hg94=>?_)
 first | subst hg94 | (injection hg94 with hg94;injection hg94 with hg94;subst hg94)
 refine oStR _ J J J J ZP (by first | omega | (simp only [List.length_set];omega)) ?_
 refine Zn (Zze ?_)
 refine Zp J (Zn (Za ?_))
 have hmem:u71 ∈ endsOf g a:=by unfold endsOf;rw [getD_at hu59];exact List.mem_filter.2 ⟨List.mem_of_getElem? hu71,by simp [inG];omega⟩
 have hta:Tr out6 a:=by unfold Tr;rw [hu54,h55]
 exact ⟨rfl,(i+1,out6.set u71.toNat true),⟨by rw [getD_at hu59];show i+1≤_;omega,hrd6.set hta hmem,fun j x hj hx hin=>by
 rw [getD_at hu59] at hx
 by_cases e:j=i
 · subst e;obtain rfl:=Option.some.inj (hu71.symm.trans hx);exact Tr.self ZO
 · exact (hds j x ZO (by rw [getD_at hu59];exact hx) hin).set⟩,by rw [getD_at hu59];show u59.length-(i+1)<u59.length-i;omega,cv,Lh⟩
 refine Zj (Zze ?_)
 refine Zp J (Zn (Za ?_))
 exact ⟨rfl,(i+1,out6),⟨by rw [getD_at hu59];show i+1≤_;omega,hrd6,fun j x hj hx hin=>by
 rw [getD_at hu59] at hx
 by_cases e:j=i
 · subst e;obtain rfl:=Option.some.inj (hu71.symm.trans hx);rw [inG_iff] at hin;omega
 · exact hds j x ZO (by rw [getD_at hu59];exact hx) hin⟩,by rw [getD_at hu59];show u59.length-(i+1)<u59.length-i;omega,cv,Lh⟩
 refine Zr J J J J (Zr J J J J (Zr J J J J (Zr J J J J (Zr J J J J (Zr J J J J (Zr J J J J (Zr J J J J (Zr J J J J (Zr J J J J (Zu J J (Zn (Za (wCondF J (Zj (Zze ?_)))))))))))))))
 refine Zp J (Zn (Za ?_))
 exact ⟨rfl,(i+1,out6),⟨by rw [getD_at hu59];show i+1≤_;omega,hrd6,fun j x hj hx hin=>by
 rw [getD_at hu59] at hx
 by_cases e:j=i
 · subst e;obtain rfl:=Option.some.inj (hu71.symm.trans hx);rw [inG_iff] at hin;omega
 · exact hds j x ZO (by rw [getD_at hu59];exact hx) hin⟩,by rw [getD_at hu59];show u59.length-(i+1)<u59.length-i;omega,cv,Lh⟩
 refine Zm (Zb (Zb (Ze (Zze ?_))))
 refine Zp J (Zn (Za ?_))
 exact ⟨rfl,(a+1,out6),⟨by show a+1≤_;omega,hrd6.next (.inr fun b hb=>by
 have hb':=List.mem_filter.1 hb
 rw [getD_at hu59] at hb'
 obtain ⟨j,hj⟩:=List.mem_iff_getElem?.1 hb'.1
 exact hds j b (by have:=(List.getElem?_eq_some_iff.1 hj).1;omega) (by rw [getD_at hu59];exact hj) hb'.2)⟩,by show g.length-(a+1)<g.length-a;omega,cv,Lh⟩
 refine Zr J J J J (Zr J J J J (Zr J J J J (Zr J J J J (Zr J J J J (Zr J J J J (Zr J J J J (Zu J J (Zn (Za (wCondF J (Zm (Zb (Zb (Ze (Zze ?_)))))))))))))))
 refine Zp J (Zn (Za ?_))
 exact ⟨rfl,(a+1,out6),⟨by show a+1≤_;omega,hrd6.next (.inl fun h=>by have:=h.symm.trans hu54;simp_all)⟩,by show g.length-(a+1)<g.length-a;omega,cv,Lh⟩
 obtain rfl:a=g.length:=by omega
 refine Zm (Zb (Zb (Ze (Zze ?_))))
 refine Zp J (Zn (Za ?_))
 exact ⟨rfl,(r+1,out4),⟨by show r+1≤_;omega,hrd.ri,fun j x hj hx hin=>hrd.mono _ (hst2 j x hj hx hin),hrd.end hri2.len hcl⟩,by show g.length-(r+1)<g.length-r;omega,cv,Lh⟩
 obtain rfl:r=g.length:=by omega
 refine Zm (Zb (Zb (Ze (Zzs ?_))))
 have hcl':Closed g old:=by
  rcases hcl with h | h
  · exact h
  · exact closed_of_none hri2.len ZO
 exact ⟨(some ⟨g12,0,none⟩,g.length,old),⟨hri2.len,reach_iff hri2 hst2 hcl'⟩,rfl,Lh⟩
end Go.Proofs.YtpmdhkjbhjgoaaaGreatG


/-
  Graphs within members: the reference's Within and On.
-/
namespace Go.Proofs.YtpmdhkjbhjgoaaaGreatG
set_option maxRecDepth 100000
set_option maxHeartbeats 4000000
open Go.RowKit Go.Proofs.YtpmdhkjbhjgoaaaGreatK Go.Proofs.YtpmdhkjbhjgoaaaGreatT Go.Proofs.YtpmdhkjbhjgoaaaGreatL

def inP (g:Graph) (ib:List Bool) (a:Nat) (x:Int):Bool:=memF g ib (a:Int) && memF g ib x
def withinR (g:Graph) (ib:List Bool):Graph:=(List.range g.length).map fun a=>(g.getD a []).filter (inP g ib a)
end Go.Proofs.YtpmdhkjbhjgoaaaGreatG


/-
  Package cycle: within.
-/
namespace Go.Proofs.YtpmdhkjbhjgoaaaGreatG
set_option maxRecDepth 100000
set_option maxHeartbeats 4000000
open Go.RowKit Go.Proofs.YtpmdhkjbhjgoaaaGreatK Go.Proofs.YtpmdhkjbhjgoaaaGreatT Go.Proofs.YtpmdhkjbhjgoaaaGreatL

def memL (g:Graph) (ib:List Bool):List Bool:=ib.take g.length++(List.replicate g.length false).drop ib.length
def wp (g:Graph) (ib:List Bool) (a:Nat):List Int:=(cl g a).filter (inP g ib a)
end Go.Proofs.YtpmdhkjbhjgoaaaGreatG
namespace Go.Proofs.YtpmdhkjbhjgoaaaGreatW
set_option maxRecDepth 100000
set_option maxHeartbeats 4000000
open Go.RowKit Go.Proofs.YtpmdhkjbhjgoaaaGreatK Go.Proofs.YtpmdhkjbhjgoaaaGreatT Go.Proofs.YtpmdhkjbhjgoaaaGreatL Go.Proofs.YtpmdhkjbhjgoaaaGreatV Go.Proofs.YtpmdhkjbhjgoaaaGreatG

def fromL (code:List ApiInstr) (marks:List Nat):List Int:=(marks.map fun k=>rnext (code.getD k default) k).flatten
def dfrN (code:List ApiInstr):List Nat:=(List.range code.length).filter (dP code)
theorem dfr_N (code:List ApiInstr):dfr code code.length=(dfrN code).map fun k=>((k:Nat):Int):=rfl
theorem dfrN_lt {code:List ApiInstr}{k:Nat}(h:k ∈ dfrN code):k<code.length:=List.mem_range.1 (List.mem_filter.1 h).1
theorem rnext_len (x:ApiInstr) (k:Nat):(rnext x k).length≤2:=by
 unfold rnext
 repeat' split
 all_goals simp
theorem fromL_len (code:List ApiInstr):∀ marks:List Nat,(fromL code marks).length≤2 * marks.length
 | []=>by simp [fromL]
 | k :: marks=>by
  have h:=fromL_len code marks
  have h2:=rnext_len (code.getD k default) k
  unfold fromL at *
  rw [List.map_cons,List.flatten_cons,List.length_append,List.length_cons]
  omega
theorem fromL_snoc (code:List ApiInstr) (marks:List Nat) (k:Nat):fromL code (marks++[k])=fromL code marks++rnext (code.getD k default) k:=by
 unfold fromL;simp
theorem rg_small {code:List ApiInstr}(h:code.length≤1000):SmallG (rg code):=by
 refine ⟨by rw [rg_len];exact h,fun l hl=>?_⟩
 unfold rg at hl
 obtain ⟨k,_,rfl⟩:=List.mem_map.1 hl
 exact Nat.le_trans (rnext_len _ _) (by decide)
theorem ref14_After {B:Base}{w:World}(hS:St B [] w) (A:Option Addr) (cp:Nat) (code:List ApiInstr) (hC:kApiInstr.C B.e A code) (hl:code.length≤1000) (A1:Option Addr) (cp1:Nat) (ks:List Nat) (hC1:(Kd.int .i64).C B.e A1 (ks.map fun k=>((k:Nat):Int))) (hk:∀ k ∈ ks,k<code.length) (hn:ks.length≤1000) (W0:World) :
 CW 142 #[.slice A code.length cp,.slice A1 ks.length cp1] w
  (Ret B (fun z:Option Addr×Nat×List Bool=>z.2.2.length=code.length∧∀ i:Nat,z.2.2[i]?=some true↔RP (rg code) (fromL code ks) (i:Int)) (fun z=>.slice z.1 code.length z.2.1) (fun z=>[row Kd.bool W0 4 (.slice z.1 code.length z.2.1) z.2.2])):=by
 refine ZX Tryz.func142 hS ?_
 refine Zh (Zi (Zp J (Zn (Za (Zh (Zi (Zp J (Zn (Za (Zh (Zh (Zi (Zp J (Zn (Za (Zk (wLoop (ι:=Nat×Option Addr×Nat) (fun z=>[(0,.slice A code.length cp),(1,.slice A1 ks.length cp1),(5,.slice z.2.1 (fromL code (ks.take z.1)).length z.2.2),(6,.int .i64 (z.1:Int))]) (fun z=>[row (Kd.int .i64) W0 3 (.slice z.2.1 (fromL code (ks.take z.1)).length z.2.2) (fromL code (ks.take z.1))]) (fun z=>z.1≤ks.length) (fun z=>ks.length-z.1) (0,none,0) ?_ cv (Leads.nilrow.trans Lh) ?_)))))))))))))))))
 exact Nat.zero_le _
 rintro ⟨i,A2,c2⟩ hi
 dsimp only at hi
 have hle:=fromL_len code (ks.take i)
 rw [List.length_take] at hle
 try dsimp only
 refine Zh (Zh (Zi (Zo J (Zo J (Zv J J (Zx J J (Zn (Za (wC (fun h10=>?_) (fun h10=>?_))))))))))
 obtain ⟨k,hki⟩:∃ k,ks[i]?=some k:=⟨_,List.getElem?_eq_getElem ZO⟩
 have hkl:=hk k (List.mem_of_getElem? hki)
 obtain ⟨x,hx⟩:∃ x,code[k]?=some x:=⟨_,List.getElem?_eq_getElem hkl⟩
 obtain ⟨e1,cs1,hE⟩:=hC1.elm (i:=i) (u:=(k:Int)) (by rw [List.getElem?_map,hki];rfl)
 obtain rfl:=(show cs1=[Value.int .i64 (k:Int)] from hE.K)
 have hft:fromL code (ks.take (i+1))=fromL code (ks.take i)++rnext x k:=by rw [List.take_add_one,hki];show fromL code (ks.take i++[k])=_;rw [fromL_snoc,List.getD_eq_getElem?_getD,hx];rfl
 have hrl:=rnext_len x k
 refine Zj (Za (Zh (Zk (Zi (Zo J (Zo J (Zo J (Zo J (oIdxE J J (hE) ZO J J ?_)))))))))
 have hc17:=(hE).cell
 refine Zlx hc17 ?_
 (refine ZC0 rfl ZK (fun w hS=>frame hS ZQ (fun B' hB hS'=>ref14_Next hS' A cp code (Kd.C_grow hB hC) k x hx W0)) ?_;rintro ⟨A19,c19⟩ -)
 refine oAppA (kd:=Kd.int .i64) (W:=W0) (xs:=fromL code (ks.take i)) (ys:=rnext x k) J J J J ZP J (fun w hw=>src_row (e:=3) (n:=(rnext x k).length) (cp:=c19) (hw.get ZP)) ZO J (fun A20 c20 hc20=>?_)
 rw [← hft,show (fromL code (ks.take i)).length+(rnext x k).length=(fromL code (ks.take (i+1))).length by rw [hft,List.length_append]]
 refine Zp J (Zn (Zze ?_))
 refine Zp J (Zn (Za ?_))
 exact ⟨rfl,(i+1,A20,c20),by show i+1≤_;omega,by show ks.length-(i+1)<ks.length-i;omega,cv,Lh⟩
 obtain rfl:i=ks.length:=by omega
 rw [List.take_length] at *
 refine Zm (Zb (Zb (Ze (Zzm ?_))))
 (refine ZC0 rfl ZK (fun w hS=>frame hS ZQ (fun B' hB hS'=>ref14_Graph hS' A cp code (Kd.C_grow hB hC) ZO B.e)) ?_;rintro ⟨A22,c22,hs22⟩ hl22)
 refine ZS0 (t:=22) (v':=.slice A22 (rg code).length c22) rfl (by rw [rg_len]) ?_
 refine Zo J ?_
 (refine ZD J (fun w B' hB hR hS'=>refReach hS' (rg code) A22 c22 (grid_C (hR _ _ ZP) (hR _ _ ZP) (by rw [rg_len];exact hl22) hB) (rg_small hl) (fromL code ks) A2 c2 (row_Cs (W:=W0) (e:=3) (n:=(fromL code ks).length) (cp:=c2) (hR _ _ ZP)) W0) ?_;rintro ⟨A24,c24,l24⟩ ⟨h24a,h24b⟩)
 dsimp only at h24a h24b ⊢
 rw [rg_len] at h24a ⊢
 refine Zp J (Zzi ?_)
 exact ⟨(A24,c24,l24),⟨h24a,h24b⟩,rfl,Lh⟩
def inR (f:ApiFunc) (i:Int):Bool:=decide (f.fFrom≤i) && decide (i<f.fTo)
theorem ref18_In {B:Base}{w:World}(hS:St B [] w) (f:ApiFunc) (fc:List Value) (hf:kApiFunc.K B.e f fc) (i:Int) :
 CW 144 #[.agg fc.toArray,.int .i64 i] w (Ret B (fun _:Unit=>True) (fun _=>.bool (inR f i)) (fun _=>[])):=by
 obtain ⟨A0,c0,A1,c1,A2,c2,A3,c3,rfl,l0,g0,l1,g1,l2,g2,l3,g3⟩:=kApiFunc_open hf
 refine ZX Tryz.func144 hS ?_
 refine Zh (Zi (oBox J ZP (fun b2=>?_)))
 refine Zp J (Zn (Za (Zh (Zi (Zo J (Zz (n:=4) (m:=4) J J J (Zld ?_)))))))
 refine Z2 J J (Zo J (ZS (ZT 9) (fun h9=>?_) (fun h9=>?_)))
 refine Zq J J (Zo J (Zq J J (Zz (n:=5) (m:=5) J J J (Zzf ?_))))
 refine Zq J J (Zx J J (Zt J J (Zza ?_)))
 exact ⟨(),trivial,by simp_all [resVal,inR] <;> omega,Lh⟩
 refine Zr J J J J (Zzu ?_)
 exact ⟨(),trivial,by simp_all [resVal,inR] <;> omega,Lh⟩
def outR (f:ApiFunc):Prop:=∃ i:Nat,i<f.fCode.length∧RP (rg f.fCode) (fromL f.fCode (dfrN f.fCode)) (i:Int)∧inR f (i:Int)=false
open Classical in
noncomputable def rangeF (f:ApiFunc):Int:=if outR f then 9 else 0
theorem ref18_Check {B:Base}{w:World}(hS:St B [] w) (f:ApiFunc) (fc:List Value) (hf:kApiFunc.K B.e f fc) (hl:f.fCode.length≤1000) :
 CW 118 #[.agg fc.toArray] w (Ret B (fun _:Unit=>True) (fun _=>.int .i64 (rangeF f)) (fun _=>[])):=by
 obtain ⟨A0,c0,A1,c1,A2,c2,A3,c3,rfl,l0,g0,l1,g1,l2,g2,l3,g3⟩:=kApiFunc_open hf
 have hdl:(dfrN f.fCode).length≤1000:=Nat.le_trans (List.length_filter_le _ _) (by simpa using hl)
 refine ZX Tryz.func118 hS ?_
 refine Zh (Zi (oBox J ZP (fun b1=>?_)))
 refine Zp J (Zn (Za (Zh (wDrawG J [0,1,2,3] [(4,[0,1],[]),(5,[],[])] [6] 24 ZK J J (fun w0=>?_)))))
 refine Zz (n:=7) (m:=7) J J J (Zld ?_)
 refine Zz (n:=7) (m:=7) J J J (Zld ?_)
 refine Z4 (Z5 J ?_)
 (refine ZC0 rfl ZK (fun w hS=>frame hS ZQ (fun B' hB hS'=>ref18_Marks hS' A2 c2 f.fCode (Kd.C_grow hB g2) ZO B.e)) ?_;rintro ⟨A9,c9⟩ -)
 refine ZS0 (t:=9) (v':=.slice A9 (dfrN f.fCode).length c9) rfl (by rw [dfr_N,List.length_map]) ?_
 refine ZG ?_ J (fun w0=>?_)
 refine Z8 J J J J (fun w0=>?_) ?_
 refine Zz (n:=7) (m:=7) J J J ?_
 exact Z9 rfl
 refine Z8 J J J J (fun w0=>?_) ?_
 refine Zld ?_
 exact Z9 rfl
 exact AgainG.nil
 refine Z4 (Z5 J ?_)
 (refine ZD J (fun w B' hB hR hS'=>ref14_After hS' A2 c2 f.fCode (Kd.C_grow hB g2) hl A9 c9 (dfrN f.fCode) (row_Cs (W:=B.e) (e:=3) (n:=(dfr f.fCode f.fCode.length).length) (cp:=c9) (hR _ _ ZP)) (fun k hk=>dfrN_lt hk) hdl B.e) ?_;rintro ⟨A10,c10,l10⟩ ⟨h10a,h10b⟩)
 dsimp only at h10a h10b
 refine ZG ?_ J (fun w0=>?_)
 exact AgainG.nil
 refine Z6 (Zp J (Zn (Za (Zh (Zh (Zi (Zp J (Zn (Za (Zk (wLoop (ι:=Nat) (fun i=>[(1,.pointer (some ⟨b1,0,none⟩)),(3,.slice A10 f.fCode.length c10),(4,.int .i64 (i:Int))]) (fun i=>[blk b1 51 [.int .i64 f.fClass,.slice A0 f.fKinds.length c0,.int .i64 f.fPad,.bool f.fNosplit,.int .i64 f.fFrom,.int .i64 f.fTo,.slice A1 f.fLines.length c1,.slice A2 f.fCode.length c2,.slice A3 f.fRelocs.length c3],row Kd.bool B.e 4 (.slice A10 f.fCode.length c10) l10]) (fun i=>i≤f.fCode.length∧∀ j:Nat,j<i→RP (rg f.fCode) (fromL f.fCode (dfrN f.fCode)) (j:Int)→inR f (j:Int)=true) (fun i=>f.fCode.length-i) 0 ?_ cv (Leads.has ZQ) ?_)))))))))))
 exact ⟨Nat.zero_le _,fun j hj=>by omega⟩
 rintro i ⟨hi,hs⟩
 try dsimp only
 refine Zh (Zh (Zi (Zo J (Zo J (Zv J J (Zx J J (Zn (Za (wC (fun h14=>?_) (fun h14=>?_))))))))))
 refine Zj (Za (Zh (Zk (Zh (Zi (Zo J (Zo J (ZR J J ZP ZO J J (fun g19 hg19=>?_)))))))))
 first | subst hg19 | (injection hg19 with hg19;injection hg19 with hg19;subst hg19)
 refine ZR1 J ZP ZO J (fun u20 hu20=>?_)
 refine Zo J (ZS (ZT 21) (fun h21=>?_) (fun h21=>?_))
 refine Zq J J (Zla ?_)
 refine Zq J J (Zo J (Zq J J ?_))
 (refine ZC0 rfl ZK (fun w hS=>frame hS ZQ (fun B' hB hS'=>ref18_In hS' f _ (kApiFunc.K_grow hB hf) (i:Int))) ?_;rintro ⟨⟩ -)
 refine Zq J J (Zno ?_)
 refine Zt J J (Zn (Za (wC (fun h26=>?_) (fun h26=>?_))))
 refine Zh (Zi (Zzc ?_))
 have ho:outR f:=⟨i,by omega,(h10b i).1 (by rw [hu20];simp_all),by simp_all⟩
 exact ⟨(),trivial,by unfold rangeF;rw [if_pos ho];rfl,Lh⟩
 refine Zj (Zze ?_)
 refine Zp J (Zn (Za ?_))
 exact ⟨rfl,i+1,⟨by omega,fun j hj hr=>by
 by_cases e:j=i
 · subst e;simp_all
 · exact hs j ZO hr⟩,by omega,cv,Lh⟩
 refine Zr J J J J (Zr J J J J (Zr J J J J (Zr J J J J (Zu J J (Zn (Za (wCondF J (Zj (Zze ?_)))))))))
 refine Zp J (Zn (Za ?_))
 exact ⟨rfl,i+1,⟨by omega,fun j hj hr=>by
 by_cases e:j=i
 · subst e;have:=(h10b j).2 hr;rw [hu20] at this;simp_all
 · exact hs j ZO hr⟩,by omega,cv,Lh⟩
 refine Zm (Zzg ?_)
 have ho:¬ outR f:=fun ⟨j,hj,hr,hb⟩=>by rw [hs j ZO hr] at hb;cases hb
 exact ⟨(),trivial,by unfold rangeF;rw [if_neg ho];rfl,Lh⟩
def dRelE (d:ApiData) (l:List ApiSymbol) (i:Nat) (x:ApiReloc):Int:=
  if d.fKind=0∨x.fAt<0∨(d.fWords.length:Int)≤x.fAt∨(0<i∧x.fAt≤(d.fRelocs.getD (i-1) default).fAt)∨x.fSym<0∨(l.length:Int)≤x.fSym then 11 else
  if (l.getD x.fSym.toNat default).fSort≠1∨(l.getD x.fSym.toNat default).fKind≠d.fKind-1 then 8 else 0
def relE (d:ApiData) (l:List ApiSymbol) (i:Nat):Int:=dRelE d l i (d.fRelocs.getD i default)
def dataF (d:ApiData) (l:List ApiSymbol):Int:=
  if textF d.fKind=ByteArray.empty then 8 else if 32<d.fWords.length then 6 else
  if d.fWords.any (fun w=>decide (d.fKind≠0∧w≠0)) then 2 else fstE ((List.range d.fRelocs.length).map (relE d l))
theorem relE_at {d:ApiData}{l:List ApiSymbol}{i:Nat}{x:ApiReloc}(h:d.fRelocs[i]?=some x):relE d l i=dRelE d l i x:=by
 unfold relE;rw [List.getD_eq_getElem?_getD,h];rfl
theorem any_not {α:Type}{p:α→Bool}{l:List α}(h:∀ y ∈ l,p y=false):l.any p=false:=List.any_eq_false.2 (fun y hy=>by rw [h y hy];simp)
theorem any_hit {α:Type}{p:α→Bool}{l:List α}{i:Nat}{x:α}(hi:l[i]?=some x) (h:p x=true):l.any p=true:=List.any_eq_true.2 ⟨x,List.mem_of_getElem? hi,h⟩
abbrev dWordP (d:ApiData) (w:Int):Bool:=decide (d.fKind≠0∧w≠0)
theorem ref15_Check {B:Base}{w:World}(hS:St B [] w) (d:ApiData) (dc:List Value) (hd:kApiData.K B.e d dc) (hk:in64 d.fKind) (hl2:d.fRelocs.length≤100000) (Al:Option Addr) (cl:Nat) (l:List ApiSymbol) (hC:kApiSymbol.C B.e Al l) :
 CW 116 #[.agg dc.toArray,.slice Al l.length cl] w (Ret B (fun _:Unit=>True) (fun _=>.int .i64 (dataF d l)) (fun _=>[])):=by
 obtain ⟨A0,c0,A1,c1,rfl,l0,g0,l1,g1⟩:=kApiData_open hd
 have hw1:=g0.1
 refine ZX Tryz.func116 hS ?_
 refine Zh (Zi (oBox J ZP (fun b2=>?_)))
 refine Zp J (Zn (Za (Zh (Zh (Zi (Zz (n:=0) (m:=0) J J J (Zld ?_)))))))
 (refine ZC0 rfl ZK (fun w hS=>frame hS ZQ (fun B' hB hS'=>ref5_Text hS' d.fKind hk)) ?_;rintro ⟨⟩ -)
 refine oSEq J J (Zn (Za (wC (fun h11=>?_) (fun h11=>?_))))
 have h11:textF d.fKind=ByteArray.empty:=h11
 refine Zh (Zi (Zzb ?_))
 exact ⟨(),trivial,by unfold dataF;rw [if_pos h11];rfl,Lh⟩
 have h11:¬ textF d.fKind=ByteArray.empty:=h11
 have hk0:0≤d.fKind:=(Classical.not_not.1 (fun h=>h11 (textF_no.2 h))).1
 refine Zj (Za (Zh (Zh (Zi (Zz (n:=1) (m:=1) J J J (Zld ?_))))))
 refine Zv J J (Z1 J J (Zn (Za (wC (fun h15=>?_) (fun h15=>?_)))))
 refine Zh (Zi (Zzb ?_))
 exact ⟨(),trivial,by unfold dataF;rw [if_neg h11,if_pos ZO];rfl,Lh⟩
 have hn32:¬ 32<d.fWords.length:=by omega
 refine Zj (Za (Zh (Zh (Zi (Zp J (Zn (Za (Zk (wLoop (ι:=Nat) (fun i=>[(1,.slice Al l.length cl),(2,.pointer (some ⟨b2,0,none⟩)),(5,.int .i64 (i:Int))]) (fun i=>[blk b2 55 [.int .i64 d.fKind,.slice A0 d.fWords.length c0,.slice A1 d.fRelocs.length c1]]) (fun i=>i≤d.fWords.length∧∀ y ∈ d.fWords.take i,dWordP d y=false) (fun i=>d.fWords.length-i) 0 ?_ cv (Leads.has ZQ) ?_)))))))))
 exact ⟨Nat.zero_le _,by simp⟩
 rintro i ⟨hi,hs⟩
 try dsimp only
 refine Zh (Zh (Zi (Zo J (Zz (n:=1) (m:=1) J J J (Zld ?_)))))
 refine Zv J J (Zx J J (Zn (Za (wC (fun h20=>?_) (fun h20=>?_)))))
 obtain ⟨x,hx⟩:∃ x,d.fWords[i]?=some x:=⟨_,List.getElem?_eq_getElem ZO⟩
 obtain ⟨e1,cs1,hE⟩:=g0.elm hx
 obtain rfl:=(show cs1=[Value.int .i64 x] from hE.K)
 refine Zj (Za (Zh (Zk (Zh (Zi (Zz (n:=0) (m:=0) J J J (Zld ?_)))))))
 refine Z0 J J (Zo J (ZS (ZT 26) (fun h26=>?_) (fun h26=>?_)))
 refine Zq J J (Zz (n:=1) (m:=1) J J J (Zzf ?_))
 refine Zq J J (Zo J (Zq J J (oIdxE J J (hE) ZO J J ?_)))
 have hc30:=(hE).cell
 refine Zq J J (Zlx hc30 ?_)
 refine Zq J J (Z0 J J (Zt J J (Zn (Za (wC (fun h33=>?_) (fun h33=>?_))))))
 refine Zh (Zi (Zzc ?_))
 exact ⟨(),trivial,by unfold dataF;rw [if_neg h11,if_neg hn32,if_pos (any_hit hx (decide_eq_true (by simp_all)))];rfl,Lh⟩
 refine Zj (Zze ?_)
 refine Zp J (Zn (Za ?_))
 exact ⟨rfl,i+1,⟨by omega,take_not hs hx (decide_eq_false (by simp_all))⟩,by omega,cv,Lh⟩
 refine Zr J J J J (Zr J J J J (Zr J J J J (Zr J J J J (Zr J J J J (Zr J J J J (Zu J J (Zn (Za (wCondF J (Zj (Zze ?_)))))))))))
 refine Zp J (Zn (Za ?_))
 exact ⟨rfl,i+1,⟨by omega,take_not hs hx (decide_eq_false (by simp_all))⟩,by omega,cv,Lh⟩
 obtain rfl:i=d.fWords.length:=by omega
 rw [List.take_length] at hs
 have hdF:dataF d l=fstE ((List.range d.fRelocs.length).map (relE d l)):=by unfold dataF;rw [if_neg h11,if_neg hn32,any_not hs];rfl
 refine Zm (Zb (Zb (Ze (Za (Zh (Zh (Zi (Zp J (Zn (Za (Zk (wLoop (ι:=Nat) (fun i=>[(1,.slice Al l.length cl),(2,.pointer (some ⟨b2,0,none⟩)),(6,.int .i64 (i:Int))]) (fun i=>[blk b2 55 [.int .i64 d.fKind,.slice A0 d.fWords.length c0,.slice A1 d.fRelocs.length c1]]) (fun i=>i≤d.fRelocs.length∧fstE (((List.range d.fRelocs.length).map (relE d l)).take i)=0) (fun i=>d.fRelocs.length-i) 0 ?_ cv (Leads.has ZQ) ?_))))))))))))
 exact ⟨Nat.zero_le _,rfl⟩
 rintro i ⟨hi,hs⟩
 try dsimp only
 refine Zh (Zh (Zi (Zo J (Zz (n:=2) (m:=2) J J J (Zld ?_)))))
 refine Zv J J (Zx J J (Zn (Za (wC (fun h38=>?_) (fun h38=>?_)))))
 obtain ⟨x,hx⟩:∃ x,d.fRelocs[i]?=some x:=⟨_,List.getElem?_eq_getElem ZO⟩
 obtain ⟨e1,cs1,hE⟩:=g1.elm hx
 obtain rfl:=kApiReloc_open hE.K
 have hre:((List.range d.fRelocs.length).map (relE d l))[i]?=some (relE d l i):=rmap_at ZO
 have hrx:=relE_at (l:=l) hx
 refine Zj (Za (Zh (Zk (Zh (Zi (Zz (n:=2) (m:=2) J J J (Zld ?_)))))))
 refine Zo J (oIdxE J J (hE) ZO J J ?_)
 have hc44:=(hE).cell
 refine Zlx hc44 ?_
 refine oAlloc J ZP (fun b7=>?_)
 refine Zsa ?_
 refine Zn (Za (Zh (Zh (wDraw2 J J [] [0,1,2,3,4,5,6,7,8,9,10,11,12,13,14,15,16,17,18,19,20,21,22,23,24,25,26,27,28,29,30,31,32,33,34,35,36,37,38,39,40,41,42] 43 ZK J J J (fun w0=>?_)))))
 refine Zz (n:=0) (m:=0) J J J (Zld ?_)
 refine Zy J J (Zo J (ZS (ZT 49) (fun h49=>?_) (fun h49=>?_)))
 refine Zr J J J J (Zzy ?_)
 refine Zr J J J J (Zr J J J J (Zt J J (Zo J (Zr J J J J (Zr J J J J (Zr J J J J (Zr J J J J (Zr J J J J (oHead (Zt J J (oNilT (Za (wCondT J (Zh (Zi (Zzl ?_))))))))))))))))
 exact ⟨(),trivial,by rw [hdF,fstE_stop hs hre (by rw [hrx];unfold dRelE;rw [if_pos (by first | omega | (rw [hy'];omega))];decide),hrx];unfold dRelE;rw [if_pos (by first | omega | (rw [hy'];omega))];rfl,Lh⟩
 refine Zq J J (Zz (n:=0) (m:=0) J J J (Zzf ?_))
 refine Zq J J (Zx J J (Zu J J (Zo J (ZS (ZT 54) (fun h54=>?_) (fun h54=>?_)))))
 refine Zr J J J J (Zzo ?_)
 refine Zr J J J J (Zr J J J J (Zr J J J J (Zr J J J J (oHead (Zt J J (oNilT (Za (wCondT J (Zh (Zi (Zzl ?_)))))))))))
 exact ⟨(),trivial,by rw [hdF,fstE_stop hs hre (by rw [hrx];unfold dRelE;rw [if_pos (by first | omega | (rw [hy'];omega))];decide),hrx];unfold dRelE;rw [if_pos (by first | omega | (rw [hy'];omega))];rfl,Lh⟩
 refine Zq J J (Zz (n:=0) (m:=0) J J J (Zzf ?_))
 refine Zq J J (Zz (n:=1) (m:=1) J J J (Zzf ?_))
 refine Zq J J (Zv J J (Zq J J (Z2 J J (Zu J J (Zo J (ZS (ZT 62) (fun h62=>?_) (fun h62=>?_)))))))
 refine Zr J J J J (Zr J J J J (Zr J J J J (Zs J J J (Zs J J J (Zs J J J (Zs J J J (Zs J J J (Zs J J J (Zs J J J (Zs J J J (Zs J J J (Zs J J J (Zr J J J J (Zt J J (Zo J (Zr J J J J (Zr J J J J (Zr J J J J (Zt J J (Zo J (Zr J J J J (Zr J J J J (Zr J J J J (Zr J J J J (Zr J J J J (oHead (Zt J J (oNilT (Za ?_)))))))))))))))))))))))))))))
 refine wCondT J (Zh (Zi (Zzl ?_)))
 exact ⟨(),trivial,by rw [hdF,fstE_stop hs hre (by rw [hrx];unfold dRelE;rw [if_pos (by first | omega | (rw [hy'];omega))];decide),hrx];unfold dRelE;rw [if_pos (by first | omega | (rw [hy'];omega))];rfl,Lh⟩
 refine Zq J J (Zo J (Zq J J (Z1 J J (Zq J J (Zo J (ZS (ZT 65) (fun h65=>?_) (fun h65=>?_)))))))
 obtain ⟨y,hy⟩:∃ y,d.fRelocs[i-1]?=some y:=⟨_,List.getElem?_eq_getElem ZO⟩
 obtain ⟨e3,cs3,hE3⟩:=g1.elm hy
 obtain rfl:=kApiReloc_open hE3.K
 have hy':(d.fRelocs.getD (i-1) default)=y:=by rw [List.getD_eq_getElem?_getD,hy];rfl
 refine Zq J J (Zz (n:=0) (m:=0) J J J (Zzf ?_))
 refine Zq J J (Zz (n:=2) (m:=2) J J J (Zzf ?_))
 refine Zq J J (Zo J (Zq J J (oSub J J ZO ?_)))
 refine ZS0 (t:=71) (v':=.int .i64 ((i-1:Nat):Int)) J (by congr 1;omega) ?_
 refine Zq J J (oIdxE J J (hE3) ZO J J ?_)
 have hc72:=(hE3).cell
 refine Zq J J (ZF (ZT 0) (ZT 0) ?_)
 refine Zq J J (Zlx hc72 ?_)
 refine Zq J J (oLeq J J (Zq J J (Zt J J (Zu J J (Zo J (ZS (ZT 78) (fun h78=>?_) (fun h78=>?_)))))))
 refine Zr J J J J (Zr J J J J (Zr J J J J (Zt J J (Zo J (Zr J J J J (Zr J J J J (Zr J J J J (Zr J J J J (Zr J J J J (oHead (Zt J J (oNilT (Za (wCondT J (Zh (Zi (Zzl ?_)))))))))))))))))
 exact ⟨(),trivial,by rw [hdF,fstE_stop hs hre (by rw [hrx];unfold dRelE;rw [if_pos (by first | omega | (rw [hy'];omega))];decide),hrx];unfold dRelE;rw [if_pos (by first | omega | (rw [hy'];omega))];rfl,Lh⟩
 refine Zq J J (Zz (n:=1) (m:=1) J J J (Zzf ?_))
 refine Zq J J (Zx J J (Zu J J (Zo J (ZS (ZT 83) (fun h83=>?_) (fun h83=>?_)))))
 refine Zr J J J J (Zr J J J J (Zr J J J J (Zr J J J J (Zr J J J J (oHead (Zt J J (oNilT (Za (wCondT J (Zh (Zi (Zzl ?_))))))))))))
 exact ⟨(),trivial,by rw [hdF,fstE_stop hs hre (by rw [hrx];unfold dRelE;rw [if_pos (by first | omega | (rw [hy'];omega))];decide),hrx];unfold dRelE;rw [if_pos (by first | omega | (rw [hy'];omega))];rfl,Lh⟩
 refine Zq J J (Zz (n:=1) (m:=1) J J J (Zzf ?_))
 refine Zq J J (Zo J (Zq J J (Zv J J (Zq J J (Z2 J J (oHead (Zu J J (oNilT (Za (wC (fun h89=>?_) (fun h89=>?_)))))))))))
 refine Zh (Zi (Zzl ?_))
 exact ⟨(),trivial,by rw [hdF,fstE_stop hs hre (by rw [hrx];unfold dRelE;rw [if_pos (by first | omega | (rw [hy'];omega))];decide),hrx];unfold dRelE;rw [if_pos (by first | omega | (rw [hy'];omega))];rfl,Lh⟩
 obtain ⟨s,hsm⟩:=Int.eq_ofNat_of_zero_le (show 0≤x.fSym by omega)
 obtain ⟨sy,hsy⟩:∃ sy,l[s]?=some sy:=⟨_,List.getElem?_eq_getElem ZO⟩
 obtain ⟨e4,cs4,hE4⟩:=hC.elm hsy
 obtain rfl:=kApiSymbol_open hE4.K
 have hlg:l.getD x.fSym.toNat default=sy:=by rw [hsm,Int.toNat_natCast,List.getD_eq_getElem?_getD,hsy];rfl
 refine Zj (Za (Zh (wDraw2 J J [0] [1,2,3,4,5,6,7,8,9,10,11,12,13,14,15,16,17] 18 ZK J J J (fun w0=>?_))))
 refine Zz (n:=1) (m:=1) J J J (Zld ?_)
 refine ZS0 (t:=92) (v':=.int .i64 (s:Int)) rfl (by rw [hsm]) ?_
 refine oIdxE J J (hE4) ZO J J ?_
 have hc93:=(hE4).cell
 refine ZF (ZT 2) (ZT 2) ?_
 refine Zlx hc93 ?_
 refine Z0 J J (Zo J (ZS (ZT 97) (fun h97=>?_) (fun h97=>?_)))
 refine Zr J J J J (Zr J J J J (Zr J J J J (Zr J J J J (Zr J J J J (Zr J J J J (Zr J J J J (Zr J J J J (Zr J J J J (Zr J J J J (oHead (Zt J J (oNilT (Za (wCondT J (Zh (Zi (Zzc ?_)))))))))))))))))
 exact ⟨(),trivial,by rw [hdF,fstE_stop hs hre (by rw [hrx];unfold dRelE;rw [if_neg (by first | omega | (rw [hy'];omega)),hlg,if_pos (by simp_all <;> omega)];decide),hrx];unfold dRelE;rw [if_neg (by first | omega | (rw [hy'];omega)),hlg,if_pos (by simp_all <;> omega)];rfl,Lh⟩
 refine Zq J J (Zo J (Zq J J (Zz (n:=1) (m:=1) J J J (Zzf ?_))))
 refine ZS0 (t:=100) (v':=.int .i64 (s:Int)) rfl (by rw [hsm]) ?_
 refine Zq J J (oIdxE J J (hE4) ZO J J ?_)
 have hc101:=(hE4).cell
 refine Zq J J (ZF (ZT 3) (ZT 3) ?_)
 refine Zq J J (Zlx hc101 ?_)
 refine Zq J J (Zz (n:=0) (m:=0) J J J (Zzf ?_))
 refine Zq J J ?_
 refine oSub J J (by unfold in64 at hk;omega) ?_
 refine Zq J J (Z0 J J (oHead (Zu J J (oNilT (Za (wC (fun h108=>?_) (fun h108=>?_)))))))
 refine Zh (Zi (Zzc ?_))
 exact ⟨(),trivial,by rw [hdF,fstE_stop hs hre (by rw [hrx];unfold dRelE;rw [if_neg (by first | omega | (rw [hy'];omega)),hlg,if_pos (by simp_all <;> omega)];decide),hrx];unfold dRelE;rw [if_neg (by first | omega | (rw [hy'];omega)),hlg,if_pos (by simp_all <;> omega)];rfl,Lh⟩
 refine Zj (Zze ?_)
 refine Zp J (Zn (Za ?_))
 exact ⟨rfl,i+1,⟨by omega,fstE_next hs hre (by rw [hrx];unfold dRelE;rw [if_neg (by first | omega | (rw [hy'];omega)),hlg,if_neg (by simp_all <;> omega)])⟩,by omega,cv,Lh⟩
 refine Zr J J J J (Zr J J J J (Zr J J J J (Zr J J J J (Zr J J J J (Zr J J J J (Zr J J J J (Zr J J J J (Zr J J J J (Zr J J J J (Zq J J (Zu J J (Zu J J (Zo J (Zq J J (Zz (n:=1) (m:=1) J J J (Zzf ?_))))))))))))))))
 refine Zq J J (Zx J J (Zu J J (Zo J (ZS (ZT 83) (fun h83=>?_) (fun h83=>?_)))))
 refine Zr J J J J (Zr J J J J (Zr J J J J (Zr J J J J (Zr J J J J (oHead (Zt J J (oNilT (Za (wCondT J (Zh (Zi (Zzl ?_))))))))))))
 exact ⟨(),trivial,by rw [hdF,fstE_stop hs hre (by rw [hrx];unfold dRelE;rw [if_pos (by first | omega | (rw [hy'];omega))];decide),hrx];unfold dRelE;rw [if_pos (by first | omega | (rw [hy'];omega))];rfl,Lh⟩
 refine Zq J J (Zz (n:=1) (m:=1) J J J (Zzf ?_))
 refine Zq J J (Zo J (Zq J J (Zv J J (Zq J J (Z2 J J (oHead (Zu J J (oNilT (Za (wC (fun h89=>?_) (fun h89=>?_)))))))))))
 refine Zh (Zi (Zzl ?_))
 exact ⟨(),trivial,by rw [hdF,fstE_stop hs hre (by rw [hrx];unfold dRelE;rw [if_pos (by first | omega | (rw [hy'];omega))];decide),hrx];unfold dRelE;rw [if_pos (by first | omega | (rw [hy'];omega))];rfl,Lh⟩
 obtain ⟨s,hsm⟩:=Int.eq_ofNat_of_zero_le (show 0≤x.fSym by omega)
 obtain ⟨sy,hsy⟩:∃ sy,l[s]?=some sy:=⟨_,List.getElem?_eq_getElem ZO⟩
 obtain ⟨e4,cs4,hE4⟩:=hC.elm hsy
 obtain rfl:=kApiSymbol_open hE4.K
 have hlg:l.getD x.fSym.toNat default=sy:=by rw [hsm,Int.toNat_natCast,List.getD_eq_getElem?_getD,hsy];rfl
 refine Zj (Za (Zh (wDraw2 J J [0] [1,2,3,4,5,6,7,8,9,10,11,12,13,14,15,16,17] 18 ZK J J J (fun w0=>?_))))
 refine Zz (n:=1) (m:=1) J J J (Zld ?_)
 refine ZS0 (t:=92) (v':=.int .i64 (s:Int)) rfl (by rw [hsm]) ?_
 refine oIdxE J J (hE4) ZO J J ?_
 have hc93:=(hE4).cell
 refine ZF (ZT 2) (ZT 2) ?_
 refine Zlx hc93 ?_
 refine Z0 J J (Zo J (ZS (ZT 97) (fun h97=>?_) (fun h97=>?_)))
 refine Zr J J J J (Zr J J J J (Zr J J J J (Zr J J J J (Zr J J J J (Zr J J J J (Zr J J J J (Zr J J J J (Zr J J J J (Zr J J J J (oHead (Zt J J (oNilT (Za (wCondT J (Zh (Zi (Zzc ?_)))))))))))))))))
 exact ⟨(),trivial,by rw [hdF,fstE_stop hs hre (by rw [hrx];unfold dRelE;rw [if_neg (by first | omega | (rw [hy'];omega)),hlg,if_pos (by simp_all <;> omega)];decide),hrx];unfold dRelE;rw [if_neg (by first | omega | (rw [hy'];omega)),hlg,if_pos (by simp_all <;> omega)];rfl,Lh⟩
 refine Zq J J (Zo J (Zq J J (Zz (n:=1) (m:=1) J J J (Zzf ?_))))
 refine ZS0 (t:=100) (v':=.int .i64 (s:Int)) rfl (by rw [hsm]) ?_
 refine Zq J J (oIdxE J J (hE4) ZO J J ?_)
 have hc101:=(hE4).cell
 refine Zq J J (ZF (ZT 3) (ZT 3) ?_)
 refine Zq J J (Zlx hc101 ?_)
 refine Zq J J (Zz (n:=0) (m:=0) J J J (Zzf ?_))
 refine Zq J J ?_
 refine oSub J J (by unfold in64 at hk;omega) ?_
 refine Zq J J (Z0 J J (oHead (Zu J J (oNilT (Za (wC (fun h108=>?_) (fun h108=>?_)))))))
 refine Zh (Zi (Zzc ?_))
 exact ⟨(),trivial,by rw [hdF,fstE_stop hs hre (by rw [hrx];unfold dRelE;rw [if_neg (by first | omega | (rw [hy'];omega)),hlg,if_pos (by simp_all <;> omega)];decide),hrx];unfold dRelE;rw [if_neg (by first | omega | (rw [hy'];omega)),hlg,if_pos (by simp_all <;> omega)];rfl,Lh⟩
 refine Zj (Zze ?_)
 refine Zp J (Zn (Za ?_))
 exact ⟨rfl,i+1,⟨by omega,fstE_next hs hre (by rw [hrx];unfold dRelE;rw [if_neg (by first | omega | (rw [hy'];omega)),hlg,if_neg (by simp_all <;> omega)])⟩,by omega,cv,Lh⟩
 refine Zm (Zzg ?_)
 obtain rfl:i=d.fRelocs.length:=by omega
 rw [rmap_all] at hs
 exact ⟨(),trivial,by rw [hdF,hs];rfl,Lh⟩
structure GoodO (o:ApiObject):Prop where
  v:vApiObject o
  syms:o.fSymbols.length≤300
  funcs:o.fFuncs.length≤300
  datas:o.fDatas.length≤300
  fun_:∀ f ∈ o.fFuncs,f.fKinds.length≤300∧f.fLines.length≤300∧f.fCode.length≤300∧f.fRelocs.length≤300
  data:∀ d ∈ o.fDatas,d.fWords.length≤300∧d.fRelocs.length≤300
theorem FewO.one {l:List ApiObject}(h:FewO l) (hv:∀ o ∈ l,vApiObject o) {o:ApiObject}(ho:o ∈ l):GoodO o:=⟨hv o ho,Nat.le_trans (h.syms o ho) (by decide),Nat.le_trans (h.funcs o ho) (by decide),Nat.le_trans (h.datas o ho) (by decide),fun f hf=>by have:=h.fun_ o ho f hf;omega,fun d hd=>by have:=h.data o ho d hd;omega⟩
def itemsF (o:ApiObject):Int:=(o.fFuncs.length:Int)+(o.fDatas.length:Int)
def definesF (o:ApiObject) (item:Int) (x:ApiSymbol):Bool:=if item<0∨itemsF o≤item then false else if item<(o.fFuncs.length:Int) then decide (x.fSort=1) && decide (x.fDef=item) else decide (x.fSort=2) && decide (x.fDef=item-(o.fFuncs.length:Int))
def definerF (o:ApiObject) (item:Int):Int:=idxI (definesF o item) o.fSymbols
theorem ref19_Items {B:Base}{w:World}(hS:St B [] w) (o:ApiObject) (oc:List Value) (ho:kApiObject.K B.e o oc) (hg:GoodO o) :
 CW 77 #[.agg oc.toArray] w (Ret B (fun _:Unit=>True) (fun _=>.int .i64 (itemsF o)) (fun _=>[])):=by
 obtain ⟨A0,c0,A1,c1,A2,c2,rfl,m0,q0,m1,q1,m2,q2⟩:=kApiObject_open ho
 have hn1:=hg.funcs
 have hn2:=hg.datas
 refine ZX Tryz.func77 hS ?_
 refine Zh (Zi (oBox J ZP (fun b1=>?_)))
 refine Zp J (Zn (Za (Zh (Zi (Zz (n:=1) (m:=1) J J J (Zld ?_))))))
 refine Zv J J (Zz (n:=2) (m:=2) J J J (Zld ?_))
 refine Zv J J ?_
 first | refine oAdd rfl rfl ZO ?_ | refine oAddW rfl rfl ?_
 refine Zp J (Zzi ?_)
 exact ⟨(),trivial,rfl,Lh⟩
theorem ref19_defines {B:Base}{w:World}(hS:St B [] w) (o:ApiObject) (oc:List Value) (ho:kApiObject.K B.e o oc) (hg:GoodO o) (x:ApiSymbol) (xc:List Value) (hx:kApiSymbol.K B.e x xc) (item:Int) :
 CW 139 #[.agg oc.toArray,.agg xc.toArray,.int .i64 item] w (Ret B (fun _:Unit=>True) (fun _=>.bool (definesF o item x)) (fun _=>[])):=by
 obtain ⟨A0,c0,A1,c1,A2,c2,rfl,m0,q0,m1,q1,m2,q2⟩:=kApiObject_open ho
 obtain rfl:=kApiSymbol_open hx
 have hn1:=hg.funcs
 have hn2:=hg.datas
 have hit:itemsF o=(o.fFuncs.length:Int)+(o.fDatas.length:Int):=rfl
 refine ZX Tryz.func139 hS ?_
 refine Zh (Zi (oBox J ZP (fun b3=>?_)))
 refine oBox J ZP (fun b4=>?_)
 refine Zp J (Zn (Za (Zh (Zh (Zi (Zo J (Zx J J (Zo J (ZS (ZT 9) (fun h9=>?_) (fun h9=>?_))))))))))
 refine Zr J J J J (Zr J J J J (Zr J J J J (Zr J J J J (Zt J J (Zn (Za (wCondT J (ZzF ?_))))))))
 exact ⟨(),trivial,by unfold definesF;rw [if_pos ZO];rfl,Lh⟩
 refine Zq J J (Zo J (Zq J J (Zla ?_)))
 refine Zq J J ?_
 (refine ZC0 rfl ZK (fun w hS=>frame hS ZQ (fun B' hB hS'=>ref19_Items hS' o _ (kApiObject.K_grow hB ho) hg)) ?_;rintro ⟨⟩ -)
 refine Zq J J (Z2 J J (Zu J J (Zn (Za (wC (fun h14=>?_) (fun h14=>?_))))))
 refine Zh (Zi (Zzb ?_))
 exact ⟨(),trivial,by unfold definesF;rw [if_pos ZO];rfl,Lh⟩
 refine Zj (Za (Zh (Zh (Zi (Zo J (Zz (n:=1) (m:=1) J J J (Zld ?_)))))))
 refine Zv J J (Zx J J (Zn (Za (wC (fun h19=>?_) (fun h19=>?_)))))
 refine Zh (Zi (Zz (n:=2) (m:=2) J J J (Zld ?_)))
 refine Zy J J (Zo J (ZS (ZT 23) (fun h23=>?_) (fun h23=>?_)))
 refine Zq J J (Zz (n:=4) (m:=4) J J J (Zzf ?_))
 refine Zq J J (Zo J (Zq J J (Zy J J (Zt J J (Zzb ?_)))))
 exact ⟨(),trivial,by unfold definesF;rw [if_neg ZO,if_pos ZO];simp [resVal,h23],Lh⟩
 refine Zr J J J J (Zr J J J J (Zr J J J J (Zr J J J J (Zu J J (Zzb ?_)))))
 exact ⟨(),trivial,by unfold definesF;rw [if_neg ZO,if_pos ZO];simp [resVal,h23],Lh⟩
 refine Zj (Za (Zh (Zi (Zz (n:=2) (m:=2) J J J (Zld ?_)))))
 refine Zy J J (Zo J (ZS (ZT 32) (fun h32=>?_) (fun h32=>?_)))
 refine Zq J J (Zz (n:=4) (m:=4) J J J (Zzf ?_))
 refine Zq J J (Zo J (Zq J J (Zz (n:=1) (m:=1) J J J (Zzf ?_))))
 refine Zq J J (Zv J J (Zq J J (oSub J J ZO ?_)))
 refine Zq J J (Zy J J (Zt J J (Zza ?_)))
 exact ⟨(),trivial,by unfold definesF;rw [if_neg ZO,if_neg ZO];simp [resVal,h32],Lh⟩
 refine Zr J J J J (Zr J J J J (Zr J J J J (Zr J J J J (Zr J J J J (Zzu ?_)))))
 exact ⟨(),trivial,by unfold definesF;rw [if_neg ZO,if_neg ZO];simp [resVal,h32],Lh⟩
theorem ref19_Definer {B:Base}{w:World}(hS:St B [] w) (o:ApiObject) (oc:List Value) (ho:kApiObject.K B.e o oc) (hg:GoodO o) (item:Int) :
 CW 115 #[.agg oc.toArray,.int .i64 item] w (Ret B (fun _:Unit=>True) (fun _=>.int .i64 (definerF o item)) (fun _=>[])):=by
 obtain ⟨A0,c0,A1,c1,A2,c2,rfl,m0,q0,m1,q1,m2,q2⟩:=kApiObject_open ho
 have hn0:=hg.syms
 refine ZX Tryz.func115 hS ?_
 refine Zh (Zi (oBox J ZP (fun b2=>?_)))
 refine Zp J (Zn (Za (Zh (Zh (Zi (Zp J (Zn (Za (Zk (wLoop (ι:=Nat) (fun i=>[(1,.int .i64 item),(2,.pointer (some ⟨b2,0,none⟩)),(5,.int .i64 (i:Int))]) (fun i=>[blk b2 26 [.slice A0 o.fSymbols.length c0,.slice A1 o.fFuncs.length c1,.slice A2 o.fDatas.length c2]]) (fun i=>i≤o.fSymbols.length∧∀ y ∈ o.fSymbols.take i,definesF o item y=false) (fun i=>o.fSymbols.length-i) 0 ?_ cv (Leads.has ZQ) ?_))))))))))
 exact ⟨Nat.zero_le _,by simp⟩
 rintro i ⟨hi,hs⟩
 try dsimp only
 refine Zh (Zh (Zi (Zo J (Zz (n:=0) (m:=0) J J J (Zld ?_)))))
 refine Zv J J (Zx J J (Zn (Za (wC (fun h10=>?_) (fun h10=>?_)))))
 obtain ⟨x,hx⟩:∃ x,o.fSymbols[i]?=some x:=⟨_,List.getElem?_eq_getElem ZO⟩
 obtain ⟨e1,cs1,hE⟩:=q0.elm hx
 obtain rfl:=kApiSymbol_open hE.K
 refine Zj (Za (Zh (Zk (Zh (wDraw2 J J [3,6] [0,1,2,4,5] 7 ZK J J J (fun w0=>?_))))))
 refine Zla ?_
 refine Zz (n:=0) (m:=0) J J J (Zld ?_)
 refine oIdxE J J (hE) ZO J J ?_
 have hc17:=(hE).cell
 refine Zlx hc17 ?_
 refine oHead ?_
 (refine ZC0 rfl ZK (fun w hS=>frame hS ZQ (fun B' hB hS'=>ref19_defines hS' o _ (kApiObject.K_grow hB ho) hg x _ (kApiSymbol_mk _ x) item)) ?_;rintro ⟨⟩ -)
 refine oNilT (Za (wC (fun h20=>?_) (fun h20=>?_)))
 refine Zh (Zi (Zo J (Zzc ?_)))
 exact ⟨(),trivial,by unfold definerF;rw [idxI_stop hs hx h20];rfl,Lh⟩
 refine Zj (Zze ?_)
 refine Zp J (Zn (Za ?_))
 exact ⟨rfl,i+1,⟨by omega,take_not hs hx h20⟩,by omega,cv,Lh⟩
 refine Zm (Zzg ?_)
 obtain rfl:i=o.fSymbols.length:=by omega
 rw [List.take_length] at hs
 exact ⟨(),trivial,by unfold definerF;rw [idxI_none hs];rfl,Lh⟩
def kindB (x:ApiSymbol):Bool:=(decide (x.fSort≠1) && decide (x.fSort≠2)) || (decide (x.fSort=1) && !isC x.fKind) || (decide (x.fSort=2) && decide (textF x.fKind=ByteArray.empty))
def nameP (x y:ApiSymbol):Bool:=decide (y.fName=x.fName)
def aheadP (x y:ApiSymbol):Bool:=decide (y.fSort=x.fSort) && decide (y.fDef≠-1)
def aheadN (x:ApiSymbol) (l:List ApiSymbol):Nat:=(l.filter (aheadP x)).length
def mostN (o:ApiObject) (x:ApiSymbol):Nat:=if x.fSort=2 then o.fDatas.length else o.fFuncs.length
def symX (o:ApiObject) (i:Nat) (x:ApiSymbol):Int:=
  if nameF4 x.fName≠0 then nameF4 x.fName else if kindB x=true then 8 else if (o.fSymbols.take i).any (nameP x)=true then 12 else
  if x.fDef≠-1∧(x.fDef≠(aheadN x (o.fSymbols.take i):Int)∨(mostN o x:Int)≤x.fDef) then 9 else if x.fLocal=true∧x.fDef = -1 then 13 else 0
def symE (o:ApiObject) (i:Nat):Int:=symX o i (o.fSymbols.getD i default)
theorem symE_at {o:ApiObject}{i:Nat}{x:ApiSymbol}(h:o.fSymbols[i]?=some x):symE o i=symX o i x:=by unfold symE;rw [List.getD_eq_getElem?_getD,h];rfl
theorem ahead_succ (x:ApiSymbol) {l:List ApiSymbol}{k:Nat}{y:ApiSymbol}(h:l[k]?=some y):aheadN x (l.take (k+1))=aheadN x (l.take k)+(if aheadP x y=true then 1 else 0):=by
 unfold aheadN
 rw [List.take_add_one,h,List.filter_append,List.length_append]
 congr 1
 show ((List.filter (aheadP x) [y]).length)=_
 rw [List.filter_cons]
 split <;> simp
theorem ahead_le (x:ApiSymbol) (l:List ApiSymbol):aheadN x l≤l.length:=List.length_filter_le _ _
theorem ref19_symbol {B:Base}{w:World}(hS:St B [] w) (o:ApiObject) (oc:List Value) (ho:kApiObject.K B.e o oc) (hg:GoodO o) (i:Nat) (hi:i<o.fSymbols.length) :
 CW 76 #[.agg oc.toArray,.int .i64 (i:Int)] w (Ret B (fun _:Unit=>True) (fun _=>.int .i64 (symE o i)) (fun _=>[])):=by
 obtain ⟨A0,c0,A1,c1,A2,c2,rfl,m0,q0,m1,q1,m2,q2⟩:=kApiObject_open ho
 have hn0:=hg.syms
 have hn1:=hg.funcs
 have hn2:=hg.datas
 obtain ⟨x,hx⟩:∃ x,o.fSymbols[i]?=some x:=⟨_,List.getElem?_eq_getElem hi⟩
 have hvx:=(hg.v.1.2 x (List.mem_of_getElem? hx))
 obtain ⟨e1,cs1,hE⟩:=q0.elm hx
 obtain rfl:=kApiSymbol_open hE.K
 rw [symE_at hx]
 refine ZX Tryz.func76 hS ?_
 refine Zh (Zi (oBox J ZP (fun b2=>?_)))
 refine Zp J (Zn (Za (Zh (Zi (Zz (n:=0) (m:=0) J J J (Zld ?_))))))
 refine Zo J (oIdxE J J (hE) ZO J J ?_)
 have hc14:=(hE).cell
 refine Zlx hc14 ?_
 refine oAlloc J ZP (fun b5=>?_)
 refine Zsa ?_
 refine Zn (Za (Zh (Zh (Zi (Zz (n:=0) (m:=0) J J J (Zld ?_))))))
 (refine ZC0 rfl ZK (fun w hS=>frame hS ZQ (fun B' hB hS'=>ref4_Check hS' x.fName)) ?_;rintro ⟨⟩ -)
 refine Zp J (Zn (Za (Zh (Zi (Zo J (Z0 J J (Zn (Za (wC (fun h20=>?_) (fun h20=>?_))))))))))
 refine Zh (Zi (Zo J (Zzb ?_)))
 exact ⟨(),trivial,by unfold symX;rw [if_pos h20];rfl,Lh⟩
 refine Zj (Za (Zh (wCut (ι:=Unit) (fun _=>[(1,.int .i64 (i:Int)),(2,.pointer (some ⟨b2,0,none⟩)),(5,.pointer (some ⟨b5,0,none⟩)),(51,.bool (kindB x))]) (fun _=>[blk b2 26 [.slice A0 o.fSymbols.length c0,.slice A1 o.fFuncs.length c1,.slice A2 o.fDatas.length c2],blk b5 44 [.string x.fName,.bool x.fLocal,.int .i64 x.fSort,.int .i64 x.fKind,.int .i64 x.fDef]]) (fun _=>True) ?_ ?_)))
 refine Zi (Zz (n:=2) (m:=2) J J J (Zld ?_))
 refine Z0 J J (Zo J (ZS (ZT 25) (fun h25=>?_) (fun h25=>?_)))
 refine Zq J J (Zz (n:=2) (m:=2) J J J (Zzf ?_))
 refine Zq J J (Z0 J J (Zt J J (Zo J (ZS (ZT 30) (fun h30=>?_) (fun h30=>?_)))))
 refine Zr J J J J (Zr J J J J (Zr J J J J (Zr J J J J (Zs J J J (Zs J J J (Zs J J J (Zs J J J (Zr J J J J (Zt J J (Zo J (Zr J J J J (Zr J J J J (Zr J J J J (Zr J J J J (Zs J J J (Zs J J J (Zs J J J (Zs J J J (Zr J J J J (Zt J J (Zn (Za ?_))))))))))))))))))))))
 exact ⟨rfl,(),trivial,(by refine ⟨rfl,rfl,rfl,?_,trivial⟩;show some (Value.bool _)=some (Value.bool _);unfold kindB;simp_all <;> first | done | exact Iff.rfl | rfl),Lh⟩
 refine Zq J J (Zz (n:=2) (m:=2) J J J (Zzf ?_))
 refine Zq J J (Zy J J (Zq J J (Zo J (ZS (ZT 34) (fun h34=>?_) (fun h34=>?_)))))
 refine Zq J J (Zz (n:=3) (m:=3) J J J (Zzf ?_))
 refine Zq J J ?_
 (refine ZC0 rfl ZK (fun w hS=>frame hS ZQ (fun B' hB hS'=>ref5_Is hS' x.fKind)) ?_;rintro ⟨⟩ -)
 refine Zq J J (Zno ?_)
 refine Zq J J (Zt J J (Zu J J (Zo J (ZS (ZT 41) (fun h41=>?_) (fun h41=>?_)))))
 refine Zr J J J J (Zr J J J J (Zr J J J J (Zr J J J J (Zs J J J (Zs J J J (Zs J J J (Zs J J J (Zr J J J J (Zt J J (Zn (Za ?_)))))))))))
 exact ⟨rfl,(),trivial,(by refine ⟨rfl,rfl,rfl,?_,trivial⟩;show some (Value.bool _)=some (Value.bool _);unfold kindB;simp_all <;> first | done | exact Iff.rfl | rfl),Lh⟩
 refine Zq J J (Zz (n:=2) (m:=2) J J J (Zzf ?_))
 refine Zq J J (Zy J J (Zq J J (Zo J (ZS (ZT 45) (fun h45=>?_) (fun h45=>?_)))))
 refine Zq J J (Zz (n:=3) (m:=3) J J J (Zzf ?_))
 refine Zq J J ?_
 (refine ZC0 rfl ZK (fun w hS=>frame hS ZQ (fun B' hB hS'=>ref5_Text hS' x.fKind hvx.2.2.2.1)) ?_;rintro ⟨⟩ -)
 refine Zq J J (oSEq J J (Zq J J (Zt J J (Zu J J (Zn (Za ?_))))))
 exact ⟨rfl,(),trivial,(by refine ⟨rfl,rfl,rfl,?_,trivial⟩;show some (Value.bool _)=some (Value.bool _);unfold kindB;simp_all <;> first | done | exact Iff.rfl | rfl),Lh⟩
 refine Zr J J J J (Zr J J J J (Zr J J J J (Zr J J J J (Zq J J (Zu J J (Zu J J (Zn (Za ?_))))))))
 exact ⟨rfl,(),trivial,(by refine ⟨rfl,rfl,rfl,?_,trivial⟩;show some (Value.bool _)=some (Value.bool _);unfold kindB;simp_all <;> first | done | exact Iff.rfl | rfl),Lh⟩
 refine Zr J J J J (Zr J J J J (Zr J J J J (Zr J J J J (Zq J J (Zu J J (Zu J J (Zo J (Zq J J (Zz (n:=2) (m:=2) J J J (Zzf ?_))))))))))
 refine Zq J J (Zy J J (Zq J J (Zo J (ZS (ZT 45) (fun h45=>?_) (fun h45=>?_)))))
 refine Zq J J (Zz (n:=3) (m:=3) J J J (Zzf ?_))
 refine Zq J J ?_
 (refine ZC0 rfl ZK (fun w hS=>frame hS ZQ (fun B' hB hS'=>ref5_Text hS' x.fKind hvx.2.2.2.1)) ?_;rintro ⟨⟩ -)
 refine Zq J J (oSEq J J (Zq J J (Zt J J (Zu J J (Zn (Za ?_))))))
 exact ⟨rfl,(),trivial,(by refine ⟨rfl,rfl,rfl,?_,trivial⟩;show some (Value.bool _)=some (Value.bool _);unfold kindB;simp_all <;> first | done | exact Iff.rfl | rfl),Lh⟩
 refine Zr J J J J (Zr J J J J (Zr J J J J (Zr J J J J (Zq J J (Zu J J (Zu J J (Zn (Za ?_))))))))
 exact ⟨rfl,(),trivial,(by refine ⟨rfl,rfl,rfl,?_,trivial⟩;show some (Value.bool _)=some (Value.bool _);unfold kindB;simp_all <;> first | done | exact Iff.rfl | rfl),Lh⟩
 refine Zr J J J J (Zr J J J J (Zr J J J J (Zu J J (Zo J (Zq J J (Zz (n:=2) (m:=2) J J J (Zzf ?_)))))))
 refine Zq J J (Zy J J (Zq J J (Zo J (ZS (ZT 34) (fun h34=>?_) (fun h34=>?_)))))
 refine Zq J J (Zz (n:=3) (m:=3) J J J (Zzf ?_))
 refine Zq J J ?_
 (refine ZC0 rfl ZK (fun w hS=>frame hS ZQ (fun B' hB hS'=>ref5_Is hS' x.fKind)) ?_;rintro ⟨⟩ -)
 refine Zq J J (Zno ?_)
 refine Zq J J (Zt J J (Zu J J (Zo J (ZS (ZT 41) (fun h41=>?_) (fun h41=>?_)))))
 refine Zr J J J J (Zr J J J J (Zr J J J J (Zr J J J J (Zs J J J (Zs J J J (Zs J J J (Zs J J J (Zr J J J J (Zt J J (Zn (Za ?_)))))))))))
 exact ⟨rfl,(),trivial,(by refine ⟨rfl,rfl,rfl,?_,trivial⟩;show some (Value.bool _)=some (Value.bool _);unfold kindB;simp_all <;> first | done | exact Iff.rfl | rfl),Lh⟩
 refine Zq J J (Zz (n:=2) (m:=2) J J J (Zzf ?_))
 refine Zq J J (Zy J J (Zq J J (Zo J (ZS (ZT 45) (fun h45=>?_) (fun h45=>?_)))))
 refine Zq J J (Zz (n:=3) (m:=3) J J J (Zzf ?_))
 refine Zq J J ?_
 (refine ZC0 rfl ZK (fun w hS=>frame hS ZQ (fun B' hB hS'=>ref5_Text hS' x.fKind hvx.2.2.2.1)) ?_;rintro ⟨⟩ -)
 refine Zq J J (oSEq J J (Zq J J (Zt J J (Zu J J (Zn (Za ?_))))))
 exact ⟨rfl,(),trivial,(by refine ⟨rfl,rfl,rfl,?_,trivial⟩;show some (Value.bool _)=some (Value.bool _);unfold kindB;simp_all <;> first | done | exact Iff.rfl | rfl),Lh⟩
 refine Zr J J J J (Zr J J J J (Zr J J J J (Zr J J J J (Zq J J (Zu J J (Zu J J (Zn (Za ?_))))))))
 exact ⟨rfl,(),trivial,(by refine ⟨rfl,rfl,rfl,?_,trivial⟩;show some (Value.bool _)=some (Value.bool _);unfold kindB;simp_all <;> first | done | exact Iff.rfl | rfl),Lh⟩
 refine Zr J J J J (Zr J J J J (Zr J J J J (Zr J J J J (Zq J J (Zu J J (Zu J J (Zo J (Zq J J (Zz (n:=2) (m:=2) J J J (Zzf ?_))))))))))
 refine Zq J J (Zy J J (Zq J J (Zo J (ZS (ZT 45) (fun h45=>?_) (fun h45=>?_)))))
 refine Zq J J (Zz (n:=3) (m:=3) J J J (Zzf ?_))
 refine Zq J J ?_
 (refine ZC0 rfl ZK (fun w hS=>frame hS ZQ (fun B' hB hS'=>ref5_Text hS' x.fKind hvx.2.2.2.1)) ?_;rintro ⟨⟩ -)
 refine Zq J J (oSEq J J (Zq J J (Zt J J (Zu J J (Zn (Za ?_))))))
 exact ⟨rfl,(),trivial,(by refine ⟨rfl,rfl,rfl,?_,trivial⟩;show some (Value.bool _)=some (Value.bool _);unfold kindB;simp_all <;> first | done | exact Iff.rfl | rfl),Lh⟩
 refine Zr J J J J (Zr J J J J (Zr J J J J (Zr J J J J (Zq J J (Zu J J (Zu J J (Zn (Za ?_))))))))
 exact ⟨rfl,(),trivial,(by refine ⟨rfl,rfl,rfl,?_,trivial⟩;show some (Value.bool _)=some (Value.bool _);unfold kindB;simp_all <;> first | done | exact Iff.rfl | rfl),Lh⟩
 rintro ⟨⟩ -
 try dsimp only
 refine wC (fun h51=>?_) (fun h51=>?_)
 refine Zh (Zi (Zzb ?_))
 exact ⟨(),trivial,by unfold symX;rw [if_neg h20,if_pos h51];rfl,Lh⟩
 have hkb:¬ kindB x=true:=by rw [h51];simp
 refine Zj (Za (Zh (Zh (Zi (Zp J (Zn (Za (Zk (wLoop (ι:=Nat) (fun k=>[(1,.int .i64 (i:Int)),(2,.pointer (some ⟨b2,0,none⟩)),(5,.pointer (some ⟨b5,0,none⟩)),(7,.int .i64 (k:Int))]) (fun k=>[blk b2 26 [.slice A0 o.fSymbols.length c0,.slice A1 o.fFuncs.length c1,.slice A2 o.fDatas.length c2],blk b5 44 [.string x.fName,.bool x.fLocal,.int .i64 x.fSort,.int .i64 x.fKind,.int .i64 x.fDef]]) (fun k=>k≤i∧∀ y ∈ o.fSymbols.take k,nameP x y=false) (fun k=>i-k) 0 ?_ cv (Leads.has ZQ) ?_)))))))))
 exact ⟨Nat.zero_le _,by simp⟩
 rintro k ⟨hk,hs⟩
 try dsimp only
 refine Zh (Zh (Zi (Zo J (Zo J (Zx J J (Zn (Za (wC (fun h54=>?_) (fun h54=>?_)))))))))
 obtain ⟨y,hy⟩:∃ y,o.fSymbols[k]?=some y:=⟨_,List.getElem?_eq_getElem ZO⟩
 have hyi:(o.fSymbols.take i)[k]?=some y:=by rw [List.getElem?_take,if_pos ZO,hy]
 obtain ⟨e2,cs2,hE2⟩:=q0.elm hy
 obtain rfl:=kApiSymbol_open hE2.K
 refine Zj (Za (Zh (Zk (Zh (wDraw2 J J [2] [0,1,3,4,5,6,7] 8 ZK J J J (fun w0=>?_))))))
 refine Zz (n:=0) (m:=0) J J J (Zld ?_)
 refine oIdxE J J (hE2) ZO J J ?_
 have hc60:=(hE2).cell
 refine ZF (ZT 0) (ZT 0) ?_
 refine Zlx hc60 ?_
 refine Zz (n:=0) (m:=0) J J J (Zld ?_)
 refine oHead (oSEq J J (oNilT (Za (wC (fun h65=>?_) (fun h65=>?_)))))
 refine Zh (Zi (Zzc ?_))
 exact ⟨(),trivial,by unfold symX;rw [if_neg h20,if_neg hkb,if_pos (any_hit hyi (decide_eq_true h65))];rfl,Lh⟩
 refine Zj (Zze ?_)
 refine Zp J (Zn (Za ?_))
 exact ⟨rfl,k+1,⟨by omega,take_not hs hy (decide_eq_false h65)⟩,by omega,cv,Lh⟩
 obtain rfl:i=k:=by omega
 refine Zm (Zb (Zb (Ze (Za (Zh (Zi (Zz (n:=1) (m:=1) J J J (Zld ?_))))))))
 refine Zv J J (Zp J (Zn (Za (Zh (Zh (Zi (Zz (n:=2) (m:=2) J J J (Zld ?_))))))))
 refine Zy J J (Zn (Za (wC (fun h71=>?_) (fun h71=>?_))))
 have hmo:mostN o x=o.fDatas.length:=by unfold mostN;rw [if_pos ZO]
 refine Zi (Zz (n:=2) (m:=2) J J J (Zld ?_))
 refine Zv rfl rfl (Zp rfl (Zn (Za (Zh (Zi (Zp rfl (ZS0 (t:=8) (v':=.int .i64 (mostN o x:Int)) rfl (by rw [hmo]) ?_)))))))
 refine Zn (Za (Zh (Zh (Zi (Zp J (Zn (Za (Zk ?_))))))))
 refine wLoop (ι:=Nat) (fun k=>[(1,.int .i64 (i:Int)),(2,.pointer (some ⟨b2,0,none⟩)),(5,.pointer (some ⟨b5,0,none⟩)),(8,.int .i64 (mostN o x:Int)),(9,.int .i64 (aheadN x (o.fSymbols.take k):Int)),(10,.int .i64 (k:Int))]) (fun k=>[blk b2 26 [.slice A0 o.fSymbols.length c0,.slice A1 o.fFuncs.length c1,.slice A2 o.fDatas.length c2],blk b5 44 [.string x.fName,.bool x.fLocal,.int .i64 x.fSort,.int .i64 x.fKind,.int .i64 x.fDef]]) (fun k=>k≤i) (fun k=>i-k) 0 ?_ cv (by skip;exact Lh) ?_
 exact Nat.zero_le _
 rintro k hk
 have hle:=ahead_le x (o.fSymbols.take k)
 rw [List.length_take] at hle
 try dsimp only
 refine Zh (Zh (Zi (Zo J (Zo J (Zx J J (Zn (Za (wC (fun h77=>?_) (fun h77=>?_)))))))))
 obtain ⟨y,hy⟩:∃ y,o.fSymbols[k]?=some y:=⟨_,List.getElem?_eq_getElem ZO⟩
 obtain ⟨e2,cs2,hE2⟩:=q0.elm hy
 obtain rfl:=kApiSymbol_open hE2.K
 refine Zj (Za (Zh (Zk (Zh (wDraw2 J J [2] [0,1,3,4,5,6,7,8,9,10,11,12,13,14,15,16] 17 ZK J J J (fun w0=>?_))))))
 refine Zz (n:=0) (m:=0) J J J (Zld ?_)
 refine oIdxE J J (hE2) ZO J J ?_
 have hc83:=(hE2).cell
 refine ZF (ZT 2) (ZT 2) ?_
 refine Zlx hc83 ?_
 refine Zz (n:=2) (m:=2) J J J (Zld ?_)
 refine Zy J J (Zo J (ZS (ZT 89) (fun h89=>?_) (fun h89=>?_)))
 refine Zq J J (Zz (n:=0) (m:=0) J J J (Zzf ?_))
 refine Zq J J (Zo J (Zq J J (oIdxE J J (hE2) ZO J J ?_)))
 have hc93:=(hE2).cell
 refine Zq J J (ZF (ZT 4) (ZT 4) ?_)
 refine Zq J J (Zlx hc93 ?_)
 refine Zq J J (Z0 J J (oHead (Zt J J (oNilT (Za (wC (fun h97=>?_) (fun h97=>?_)))))))
 refine Zi (Zo J (Zsu ?_))
 refine Zp J ?_
 skip
 refine Zn (Zze ?_)
 refine Zp J (Zn (Za ?_))
 exact ⟨rfl,k+1,by omega,by omega,by rw [ahead_succ x hy,if_pos (by unfold aheadP;simp_all)];exact cv,Lh⟩
 refine Zj (Zze ?_)
 refine Zp J (Zn (Za ?_))
 exact ⟨rfl,k+1,by omega,by omega,by rw [ahead_succ x hy,if_neg (by unfold aheadP;simp_all)];exact cv,Lh⟩
 refine Zr J J J J (Zr J J J J (Zr J J J J (Zr J J J J (Zr J J J J (Zr J J J J (Zr J J J J (oHead (Zu J J (oNilT (Za (wCondF J (Zj (Zze ?_)))))))))))))
 refine Zp J (Zn (Za ?_))
 exact ⟨rfl,k+1,by omega,by omega,by rw [ahead_succ x hy,if_neg (by unfold aheadP;simp_all)];exact cv,Lh⟩
 obtain rfl:i=k:=by omega
 have hany:¬ (o.fSymbols.take i).any (nameP x)=true:=by rw [any_not hs];simp
 refine Zm (Zb (Zb (Ze (Za (Zh (Zh (Zi (Zz (n:=4) (m:=4) J J J (Zld ?_)))))))))
 refine Z0 J J (Zo J (ZS (ZT 103) (fun h103=>?_) (fun h103=>?_)))
 refine Zq J J (Zz (n:=4) (m:=4) J J J (Zzf ?_))
 refine Zq J J (Zo J (Zq J J (Z0 J J (Zq J J (Zo J (ZS (ZT 108) (fun h108=>?_) (fun h108=>?_)))))))
 refine Zr J J J J (Zr J J J J (Zr J J J J (Zr J J J J (Zq J J (Zt J J (Zt J J (Zn (Za (wCondT J (ZzF ?_))))))))))
 exact ⟨(),trivial,by unfold symX;rw [if_neg h20,if_neg hkb,if_neg hany,if_pos (by simp_all <;> omega)];rfl,Lh⟩
 refine Zq J J (Zz (n:=4) (m:=4) J J J (Zzf ?_))
 refine Zq J J (Zo J (Zq J J (Z2 J J (Zq J J (Zu J J (Zt J J (Zn (Za (wC (fun h114=>?_) (fun h114=>?_))))))))))
 refine Zh (Zi (Zzb ?_))
 exact ⟨(),trivial,by unfold symX;rw [if_neg h20,if_neg hkb,if_neg hany,if_pos (by simp_all <;> omega)];rfl,Lh⟩
 refine Zj (Za (Zh (Zh (Zi (Zz (n:=1) (m:=1) J J J (Zld ?_))))))
 refine Zo J (ZS (ZT 117) (fun h117=>?_) (fun h117=>?_))
 refine Zq J J (Zz (n:=4) (m:=4) J J J (Zzf ?_))
 refine Zq J J (Zy J J (Zt J J (Zn (Za (wC (fun h121=>?_) (fun h121=>?_))))))
 refine Zh (Zi (Zzb ?_))
 have hnd:¬ (x.fDef≠-1∧(x.fDef≠(aheadN x (o.fSymbols.take i):Int)∨(mostN o x:Int)≤x.fDef)):=by simp_all <;> omega
 exact ⟨(),trivial,by unfold symX;rw [if_neg h20,if_neg hkb,if_neg hany,if_neg hnd,if_pos (by simp_all <;> omega)];rfl,Lh⟩
 refine Zj (Zzx ?_)
 have hnd:¬ (x.fDef≠-1∧(x.fDef≠(aheadN x (o.fSymbols.take i):Int)∨(mostN o x:Int)≤x.fDef)):=by simp_all <;> omega
 exact ⟨(),trivial,by unfold symX;rw [if_neg h20,if_neg hkb,if_neg hany,if_neg hnd,if_neg (by simp_all <;> omega)];rfl,Lh⟩
 refine Zr J J J J (Zr J J J J (Zr J J J J (Zu J J (Zn (Za (wCondF J (Zj (Zzx ?_))))))))
 have hnd:¬ (x.fDef≠-1∧(x.fDef≠(aheadN x (o.fSymbols.take i):Int)∨(mostN o x:Int)≤x.fDef)):=by simp_all <;> omega
 exact ⟨(),trivial,by unfold symX;rw [if_neg h20,if_neg hkb,if_neg hany,if_neg hnd,if_neg (by simp_all <;> omega)];rfl,Lh⟩
 refine Zr J J J J (Zr J J J J (Zr J J J J (Zr J J J J (Zr J J J J (Zs J J J (Zs J J J (Zs J J J (Zs J J J (Zr J J J J (Zu J J (Zn (Za (wCondF J (Zj (Za (Zh (Zh (Zi (Zz (n:=1) (m:=1) J J J (Zld ?_))))))))))))))))))))
 refine Zo J (ZS (ZT 117) (fun h117=>?_) (fun h117=>?_))
 refine Zq J J (Zz (n:=4) (m:=4) J J J (Zzf ?_))
 refine Zq J J (Zy J J (Zt J J (Zn (Za (wC (fun h121=>?_) (fun h121=>?_))))))
 refine Zh (Zi (Zzb ?_))
 have hnd:¬ (x.fDef≠-1∧(x.fDef≠(aheadN x (o.fSymbols.take i):Int)∨(mostN o x:Int)≤x.fDef)):=by simp_all <;> omega
 exact ⟨(),trivial,by unfold symX;rw [if_neg h20,if_neg hkb,if_neg hany,if_neg hnd,if_pos (by simp_all <;> omega)];rfl,Lh⟩
 refine Zj (Zzx ?_)
 have hnd:¬ (x.fDef≠-1∧(x.fDef≠(aheadN x (o.fSymbols.take i):Int)∨(mostN o x:Int)≤x.fDef)):=by simp_all <;> omega
 exact ⟨(),trivial,by unfold symX;rw [if_neg h20,if_neg hkb,if_neg hany,if_neg hnd,if_neg (by simp_all <;> omega)];rfl,Lh⟩
 refine Zr J J J J (Zr J J J J (Zr J J J J (Zu J J (Zn (Za (wCondF J (Zj (Zzx ?_))))))))
 have hnd:¬ (x.fDef≠-1∧(x.fDef≠(aheadN x (o.fSymbols.take i):Int)∨(mostN o x:Int)≤x.fDef)):=by simp_all <;> omega
 exact ⟨(),trivial,by unfold symX;rw [if_neg h20,if_neg hkb,if_neg hany,if_neg hnd,if_neg (by simp_all <;> omega)];rfl,Lh⟩
 have hmo:mostN o x=o.fFuncs.length:=by unfold mostN;rw [if_neg ZO]
 refine Zj (Za (Zh (Zi (Zp rfl (ZS0 (t:=8) (v':=.int .i64 (mostN o x:Int)) rfl (by rw [hmo]) ?_)))))
 refine Zn (Za (Zh (Zh (Zi (Zp J (Zn (Za (Zk ?_))))))))
 refine wLoop (ι:=Nat) (fun k=>[(1,.int .i64 (i:Int)),(2,.pointer (some ⟨b2,0,none⟩)),(5,.pointer (some ⟨b5,0,none⟩)),(8,.int .i64 (mostN o x:Int)),(9,.int .i64 (aheadN x (o.fSymbols.take k):Int)),(10,.int .i64 (k:Int))]) (fun k=>[blk b2 26 [.slice A0 o.fSymbols.length c0,.slice A1 o.fFuncs.length c1,.slice A2 o.fDatas.length c2],blk b5 44 [.string x.fName,.bool x.fLocal,.int .i64 x.fSort,.int .i64 x.fKind,.int .i64 x.fDef]]) (fun k=>k≤i) (fun k=>i-k) 0 ?_ cv (by skip;exact Lh) ?_
 exact Nat.zero_le _
 rintro k hk
 have hle:=ahead_le x (o.fSymbols.take k)
 rw [List.length_take] at hle
 try dsimp only
 refine Zh (Zh (Zi (Zo J (Zo J (Zx J J (Zn (Za (wC (fun h77=>?_) (fun h77=>?_)))))))))
 obtain ⟨y,hy⟩:∃ y,o.fSymbols[k]?=some y:=⟨_,List.getElem?_eq_getElem ZO⟩
 obtain ⟨e2,cs2,hE2⟩:=q0.elm hy
 obtain rfl:=kApiSymbol_open hE2.K
 refine Zj (Za (Zh (Zk (Zh (wDraw2 J J [2] [0,1,3,4,5,6,7,8,9,10,11,12,13,14,15,16] 17 ZK J J J (fun w0=>?_))))))
 refine Zz (n:=0) (m:=0) J J J (Zld ?_)
 refine oIdxE J J (hE2) ZO J J ?_
 have hc83:=(hE2).cell
 refine ZF (ZT 2) (ZT 2) ?_
 refine Zlx hc83 ?_
 refine Zz (n:=2) (m:=2) J J J (Zld ?_)
 refine Zy J J (Zo J (ZS (ZT 89) (fun h89=>?_) (fun h89=>?_)))
 refine Zq J J (Zz (n:=0) (m:=0) J J J (Zzf ?_))
 refine Zq J J (Zo J (Zq J J (oIdxE J J (hE2) ZO J J ?_)))
 have hc93:=(hE2).cell
 refine Zq J J (ZF (ZT 4) (ZT 4) ?_)
 refine Zq J J (Zlx hc93 ?_)
 refine Zq J J (Z0 J J (oHead (Zt J J (oNilT (Za (wC (fun h97=>?_) (fun h97=>?_)))))))
 refine Zi (Zo J (Zsu ?_))
 refine Zp J ?_
 skip
 refine Zn (Zze ?_)
 refine Zp J (Zn (Za ?_))
 exact ⟨rfl,k+1,by omega,by omega,by rw [ahead_succ x hy,if_pos (by unfold aheadP;simp_all)];exact cv,Lh⟩
 refine Zj (Zze ?_)
 refine Zp J (Zn (Za ?_))
 exact ⟨rfl,k+1,by omega,by omega,by rw [ahead_succ x hy,if_neg (by unfold aheadP;simp_all)];exact cv,Lh⟩
 refine Zr J J J J (Zr J J J J (Zr J J J J (Zr J J J J (Zr J J J J (Zr J J J J (Zr J J J J (oHead (Zu J J (oNilT (Za (wCondF J (Zj (Zze ?_)))))))))))))
 refine Zp J (Zn (Za ?_))
 exact ⟨rfl,k+1,by omega,by omega,by rw [ahead_succ x hy,if_neg (by unfold aheadP;simp_all)];exact cv,Lh⟩
 obtain rfl:i=k:=by omega
 have hany:¬ (o.fSymbols.take i).any (nameP x)=true:=by rw [any_not hs];simp
 refine Zm (Zb (Zb (Ze (Za (Zh (Zh (Zi (Zz (n:=4) (m:=4) J J J (Zld ?_)))))))))
 refine Z0 J J (Zo J (ZS (ZT 103) (fun h103=>?_) (fun h103=>?_)))
 refine Zq J J (Zz (n:=4) (m:=4) J J J (Zzf ?_))
 refine Zq J J (Zo J (Zq J J (Z0 J J (Zq J J (Zo J (ZS (ZT 108) (fun h108=>?_) (fun h108=>?_)))))))
 refine Zr J J J J (Zr J J J J (Zr J J J J (Zr J J J J (Zq J J (Zt J J (Zt J J (Zn (Za (wCondT J (ZzF ?_))))))))))
 exact ⟨(),trivial,by unfold symX;rw [if_neg h20,if_neg hkb,if_neg hany,if_pos (by simp_all <;> omega)];rfl,Lh⟩
 refine Zq J J (Zz (n:=4) (m:=4) J J J (Zzf ?_))
 refine Zq J J (Zo J (Zq J J (Z2 J J (Zq J J (Zu J J (Zt J J (Zn (Za (wC (fun h114=>?_) (fun h114=>?_))))))))))
 refine Zh (Zi (Zzb ?_))
 exact ⟨(),trivial,by unfold symX;rw [if_neg h20,if_neg hkb,if_neg hany,if_pos (by simp_all <;> omega)];rfl,Lh⟩
 refine Zj (Za (Zh (Zh (Zi (Zz (n:=1) (m:=1) J J J (Zld ?_))))))
 refine Zo J (ZS (ZT 117) (fun h117=>?_) (fun h117=>?_))
 refine Zq J J (Zz (n:=4) (m:=4) J J J (Zzf ?_))
 refine Zq J J (Zy J J (Zt J J (Zn (Za (wC (fun h121=>?_) (fun h121=>?_))))))
 refine Zh (Zi (Zzb ?_))
 have hnd:¬ (x.fDef≠-1∧(x.fDef≠(aheadN x (o.fSymbols.take i):Int)∨(mostN o x:Int)≤x.fDef)):=by simp_all <;> omega
 exact ⟨(),trivial,by unfold symX;rw [if_neg h20,if_neg hkb,if_neg hany,if_neg hnd,if_pos (by simp_all <;> omega)];rfl,Lh⟩
 refine Zj (Zzx ?_)
 have hnd:¬ (x.fDef≠-1∧(x.fDef≠(aheadN x (o.fSymbols.take i):Int)∨(mostN o x:Int)≤x.fDef)):=by simp_all <;> omega
 exact ⟨(),trivial,by unfold symX;rw [if_neg h20,if_neg hkb,if_neg hany,if_neg hnd,if_neg (by simp_all <;> omega)];rfl,Lh⟩
 refine Zr J J J J (Zr J J J J (Zr J J J J (Zu J J (Zn (Za (wCondF J (Zj (Zzx ?_))))))))
 have hnd:¬ (x.fDef≠-1∧(x.fDef≠(aheadN x (o.fSymbols.take i):Int)∨(mostN o x:Int)≤x.fDef)):=by simp_all <;> omega
 exact ⟨(),trivial,by unfold symX;rw [if_neg h20,if_neg hkb,if_neg hany,if_neg hnd,if_neg (by simp_all <;> omega)];rfl,Lh⟩
 refine Zr J J J J (Zr J J J J (Zr J J J J (Zr J J J J (Zr J J J J (Zs J J J (Zs J J J (Zs J J J (Zs J J J (Zr J J J J (Zu J J (Zn (Za (wCondF J (Zj (Za (Zh (Zh (Zi (Zz (n:=1) (m:=1) J J J (Zld ?_))))))))))))))))))))
 refine Zo J (ZS (ZT 117) (fun h117=>?_) (fun h117=>?_))
 refine Zq J J (Zz (n:=4) (m:=4) J J J (Zzf ?_))
 refine Zq J J (Zy J J (Zt J J (Zn (Za (wC (fun h121=>?_) (fun h121=>?_))))))
 refine Zh (Zi (Zzb ?_))
 have hnd:¬ (x.fDef≠-1∧(x.fDef≠(aheadN x (o.fSymbols.take i):Int)∨(mostN o x:Int)≤x.fDef)):=by simp_all <;> omega
 exact ⟨(),trivial,by unfold symX;rw [if_neg h20,if_neg hkb,if_neg hany,if_neg hnd,if_pos (by simp_all <;> omega)];rfl,Lh⟩
 refine Zj (Zzx ?_)
 have hnd:¬ (x.fDef≠-1∧(x.fDef≠(aheadN x (o.fSymbols.take i):Int)∨(mostN o x:Int)≤x.fDef)):=by simp_all <;> omega
 exact ⟨(),trivial,by unfold symX;rw [if_neg h20,if_neg hkb,if_neg hany,if_neg hnd,if_neg (by simp_all <;> omega)];rfl,Lh⟩
 refine Zr J J J J (Zr J J J J (Zr J J J J (Zu J J (Zn (Za (wCondF J (Zj (Zzx ?_))))))))
 have hnd:¬ (x.fDef≠-1∧(x.fDef≠(aheadN x (o.fSymbols.take i):Int)∨(mostN o x:Int)≤x.fDef)):=by simp_all <;> omega
 exact ⟨(),trivial,by unfold symX;rw [if_neg h20,if_neg hkb,if_neg hany,if_neg hnd,if_neg (by simp_all <;> omega)];rfl,Lh⟩
def symsL (o:ApiObject):List Int:=(List.range o.fSymbols.length).map (symE o)
def dKind (o:ApiObject) (i:Nat):Int:=(o.fSymbols.getD (definerF o (i:Int)).toNat default).fKind
noncomputable def funE (o:ApiObject) (f:ApiFunc):Int:=if chkE f o.fSymbols≠0 then chkE f o.fSymbols else rangeF f
noncomputable def itemE (o:ApiObject) (i:Nat):Int:=
  if definerF o (i:Int)<0 then 13 else
  if o.fFuncs.length≤i then (if (o.fDatas.getD (i-o.fFuncs.length) default).fKind≠dKind o i then 14 else dataF (o.fDatas.getD (i-o.fFuncs.length) default) o.fSymbols) else
  if (o.fFuncs.getD i default).fClass≠dKind o i then 14 else funE o (o.fFuncs.getD i default)
noncomputable def itsL (o:ApiObject):List Int:=(List.range (o.fFuncs.length+o.fDatas.length)).map (itemE o)
def manyO (o:ApiObject):Prop:=32<o.fSymbols.length∨12<o.fFuncs.length∨8<o.fDatas.length
instance (o:ApiObject):Decidable (manyO o):=by unfold manyO;infer_instance
noncomputable def objE (o:ApiObject):Int:=if manyO o then 19 else if fstE (symsL o)≠0 then fstE (symsL o) else fstE (itsL o)
noncomputable def objI (o:ApiObject):Int:=if manyO o then -1 else if fstE (symsL o)≠0 then idxI non0 (symsL o) else idxI non0 (itsL o)
theorem definer_at {o:ApiObject}{item:Int}(h:0≤definerF o item):∃ (k:Nat) (x:ApiSymbol),definerF o item=(k:Int)∧o.fSymbols[k]?=some x∧definesF o item x=true:=idxI_at h
theorem ref19_item {B:Base}{w:World}(hS:St B [] w) (o:ApiObject) (oc:List Value) (ho:kApiObject.K B.e o oc) (hg:GoodO o) (i:Nat) (hi:i<o.fFuncs.length+o.fDatas.length) :
 CW 78 #[.agg oc.toArray,.int .i64 (i:Int)] w (Ret B (fun _:Unit=>True) (fun _=>.int .i64 (itemE o i)) (fun _=>[])):=by
 obtain ⟨A0,c0,A1,c1,A2,c2,rfl,m0,q0,m1,q1,m2,q2⟩:=kApiObject_open ho
 have hn0:=hg.syms
 have hn1:=hg.funcs
 have hn2:=hg.datas
 refine ZX Tryz.func78 hS ?_
 refine Zh (Zi (oBox J ZP (fun b2=>?_)))
 refine Zp J (Zn (Zzj ?_))
 refine Zo J ?_
 (refine ZC0 rfl ZK (fun w hS=>frame hS ZQ (fun B' hB hS'=>ref19_Definer hS' o _ (kApiObject.K_grow hB ho) hg (i:Int))) ?_;rintro ⟨⟩ -)
 refine Zp J (Zn (Za (Zh (Zh (Zi (Zo J (Zx J J (Zn (Za (wC (fun h14=>?_) (fun h14=>?_)))))))))))
 refine Zh (Zi (Zzb ?_))
 exact ⟨(),trivial,by unfold itemE;rw [if_pos h14];rfl,Lh⟩
 obtain ⟨k,x,hk,hx,-⟩:=definer_at (show 0≤definerF o (i:Int) by omega)
 have hkl:=(List.getElem?_eq_some_iff.1 hx).1
 obtain ⟨e1,cs1,hE⟩:=q0.elm hx
 obtain rfl:=kApiSymbol_open hE.K
 have hdk:dKind o i=x.fKind:=by unfold dKind;rw [hk,Int.toNat_natCast,List.getD_eq_getElem?_getD,hx];rfl
 refine Zj (Za (Zh (Zi (Zz (n:=0) (m:=0) J J J (Zld ?_)))))
 refine Zo rfl (ZS0 (t:=17) (v':=.int .i64 (k:Int)) rfl (by rw [hk]) ?_)
 refine oIdxE J J (hE) ZO J J ?_
 have hc18:=(hE).cell
 refine ZF (ZT 3) (ZT 3) ?_
 refine Zlx hc18 ?_
 refine Zp J (Zn (Za (Zh (Zh (Zi (Zo J (Zz (n:=1) (m:=1) J J J (Zld ?_))))))))
 refine Zv J J (Z2 J J (Zn (Za (wC (fun h25=>?_) (fun h25=>?_)))))
 have hif:o.fFuncs.length≤i:=by omega
 obtain ⟨d,hd⟩:∃ d,o.fDatas[i-o.fFuncs.length]?=some d:=⟨_,List.getElem?_eq_getElem ZO⟩
 obtain ⟨e2,cs2,hE2⟩:=q2.elm hd
 obtain ⟨D0,d0,D1,d1,rfl,n0,r0,n1,r1⟩:=kApiData_open hE2.K
 have hgd:=hg.data d (List.mem_of_getElem? hd)
 have hvd:=hg.v.2.2.2 d (List.mem_of_getElem? hd)
 have hdg:o.fDatas.getD (i-o.fFuncs.length) default=d:=by rw [List.getD_eq_getElem?_getD,hd];rfl
 refine Zh (Zi (Zz (n:=2) (m:=2) J J J (Zld ?_)))
 refine Zo J (Zz (n:=1) (m:=1) J J J (Zld ?_))
 refine Zv J J (oSub J J ZO ?_)
 refine ZS0 (t:=32) (v':=.int .i64 ((i-o.fFuncs.length:Nat):Int)) J (by congr 1;omega) ?_
 refine oIdxE J J (hE2) ZO J J ?_
 have hc33:=(hE2).cell
 refine Zlx hc33 ?_
 refine oAlloc J ZP (fun b7=>?_)
 refine Zsa ?_
 refine Zn (Za (Zh (Zh (Zi (Zz (n:=0) (m:=0) J J J (Zld ?_))))))
 refine Zo J (Z0 J J (Zn (Za (wC (fun h38=>?_) (fun h38=>?_)))))
 refine Zh (Zi (Zp J (Zn (Za (Zl (Zc (Zc (Zw (fi1 J ?_)))))))))
 exact ⟨(),trivial,by unfold itemE;rw [if_neg h14,if_pos hif,hdg,hdk,if_pos h38];rfl,Lh⟩
 refine Zj (Zzj ?_)
 refine Zz (n:=0) (m:=0) J J J (Zld ?_)
 (refine ZC0 rfl ZK (fun w hS=>frame hS ZQ (fun B' hB hS'=>ref15_Check hS' d _ (kApiData_mk _ d n0 (Kd.C_grow hB r0) n1 (Kd.C_grow hB r1)) hvd.1 ZO A0 c0 o.fSymbols (Kd.C_grow hB q0))) ?_;rintro ⟨⟩ -)
 refine Zp J (Zzv ?_)
 exact ⟨(),trivial,by unfold itemE;rw [if_neg h14,if_pos hif,hdg,hdk,if_neg h38];rfl,Lh⟩
 have hif:¬ o.fFuncs.length≤i:=by omega
 obtain ⟨f,hf⟩:∃ f,o.fFuncs[i]?=some f:=⟨_,List.getElem?_eq_getElem ZO⟩
 obtain ⟨e3,cs3,hE3⟩:=q1.elm hf
 obtain ⟨F0,f0,F1,f1,F2,f2,F3,f3,rfl,n0,r0,n1,r1,n2,r2,n3,r3⟩:=kApiFunc_open hE3.K
 have hgf:=hg.fun_ f (List.mem_of_getElem? hf)
 have hvf:=hg.v.2.1.2 f (List.mem_of_getElem? hf)
 have hfg:o.fFuncs.getD i default=f:=by rw [List.getD_eq_getElem?_getD,hf];rfl
 refine Zj (Za (Zh (Zh (Zi (Zz (n:=1) (m:=1) J J J (Zld ?_))))))
 refine Zo J (oIdxE J J (hE3) ZO J J ?_)
 have hc46:=(hE3).cell
 refine ZF (ZT 0) (ZT 0) ?_
 refine Zlx hc46 ?_
 refine Zo J (Z0 J J (Zn (Za (wC (fun h50=>?_) (fun h50=>?_)))))
 refine Zh (Zi (Zzb ?_))
 exact ⟨(),trivial,by unfold itemE;rw [if_neg h14,if_neg hif,hfg,hdk,if_pos h50];rfl,Lh⟩
 refine Zj (Za (Zh (Zh (wDrawG J [0,1,2,3,4,5,6] [(7,[],[8,9,10,11])] [12] 24 ZK J J (fun w0=>?_)))))
 refine Zz (n:=1) (m:=1) J J J (Zld ?_)
 refine Zo J (oIdxE J J (hE3) ZO J J ?_)
 have hc55:=(hE3).cell
 refine Zlx hc55 ?_
 refine Zz (n:=0) (m:=0) J J J (Zld ?_)
 refine Z4 (Z5 J ?_)
 (refine ZC0 rfl ZK (fun w hS=>frame hS ZQ (fun B' hB hS'=>ref17_Check hS' f _ (kApiFunc_mk _ f n0 (Kd.C_grow hB r0) n1 (Kd.C_grow hB r1) n2 (Kd.C_grow hB r2) n3 (Kd.C_grow hB r3)) hvf.2.1.2 A0 c0 o.fSymbols (Kd.C_grow hB q0))) ?_;rintro ⟨⟩ -)
 refine ZG ?_ J (fun w0=>?_)
 exact AgainG.nil
 refine Zo J (oExt J ZP ?_)
 refine oExt J ZP ?_
 refine Zp J (Z6 (Zp J (Zn (Za (Zh (Zi (Zo J (Z0 J J (Zn (Za (wC (fun h63=>?_) (fun h63=>?_))))))))))))
 refine Zh (Zi (Zo J (Zzb ?_)))
 exact ⟨(),trivial,by unfold itemE funE;rw [if_neg h14,if_neg hif,hfg,hdk,if_neg h50,if_pos h63];rfl,Lh⟩
 refine Zj (Za (Zh (Zi (Zz (n:=1) (m:=1) J J J (Zld ?_)))))
 refine Zo J (oIdxE J J (hE3) ZO J J ?_)
 have hc68:=(hE3).cell
 refine Zlx hc68 ?_
 (refine ZC0 rfl ZK (fun w hS=>frame hS ZQ (fun B' hB hS'=>ref18_Check hS' f _ (kApiFunc_mk _ f n0 (Kd.C_grow hB r0) n1 (Kd.C_grow hB r1) n2 (Kd.C_grow hB r2) n3 (Kd.C_grow hB r3)) ZO)) ?_;rintro ⟨⟩ -)
 refine Zp J (Zzi ?_)
 exact ⟨(),trivial,by unfold itemE funE;rw [if_neg h14,if_neg hif,hfg,hdk,if_neg h50,if_neg h63];rfl,Lh⟩
theorem ref19_Check {B:Base}{w:World}(hS:St B [] w) (o:ApiObject) (oc:List Value) (ho:kApiObject.K B.e o oc) (hg:GoodO o) :
 CW 34 #[.agg oc.toArray] w (Ret B (fun _:Unit=>True) (fun _=>.tuple #[.int .i64 (objE o),.int .i64 (objI o)]) (fun _=>[])):=by
 obtain ⟨A0,c0,A1,c1,A2,c2,rfl,m0,q0,m1,q1,m2,q2⟩:=kApiObject_open ho
 have hn0:=hg.syms
 have hn1:=hg.funcs
 have hn2:=hg.datas
 have hit:itemsF o=(o.fFuncs.length:Int)+(o.fDatas.length:Int):=rfl
 refine ZX Tryz.func34 hS ?_
 refine Zh (Zi (oBox J ZP (fun b1=>?_)))
 refine Zp J (Zp J (Zn (Za (Zh (Zh (Zi (Zz (n:=0) (m:=0) J J J (Zld ?_))))))))
 refine Zv J J (Z1 J J (Zo J (ZS (ZT 12) (fun h12=>?_) (fun h12=>?_))))
 refine Zr J J J J (Zr J J J J (Zr J J J J (Zr J J J J (Zt J J (Zo J (Zr J J J J (Zr J J J J (Zr J J J J (Zr J J J J (Zt J J (Zn (Za (wCondT J (Zh (Zi (Zp J (Zp J (Zzq ?_))))))))))))))))))
 refine ⟨rfl,_,(ResL.cons (ResR.tmp rfl) (ResL.cons (ResR.tmp rfl) ResL.nil)),?_⟩
 have hm:manyO o:=by unfold manyO;omega
 exact ⟨(),trivial,by unfold objE objI;rw [if_pos hm,if_pos hm];rfl,Lh⟩
 refine Zq J J (Zz (n:=1) (m:=1) J J J (Zzf ?_))
 refine Zq J J (Zv J J (Zq J J (Z1 J J (Zu J J (Zo J (ZS (ZT 18) (fun h18=>?_) (fun h18=>?_)))))))
 refine Zr J J J J (Zr J J J J (Zr J J J J (Zr J J J J (Zt J J (Zn (Za (wCondT J (Zh (Zi (Zp J (Zp J (Zzq ?_))))))))))))
 refine ⟨rfl,_,(ResL.cons (ResR.tmp rfl) (ResL.cons (ResR.tmp rfl) ResL.nil)),?_⟩
 have hm:manyO o:=by unfold manyO;omega
 exact ⟨(),trivial,by unfold objE objI;rw [if_pos hm,if_pos hm];rfl,Lh⟩
 refine Zq J J (Zz (n:=2) (m:=2) J J J (Zzf ?_))
 refine Zq J J (Zv J J (Zq J J (Z1 J J (Zu J J (Zn (Za (wC (fun h23=>?_) (fun h23=>?_))))))))
 refine Zh (Zi (Zp J (Zp J (Zzq ?_))))
 refine ⟨rfl,_,(ResL.cons (ResR.tmp rfl) (ResL.cons (ResR.tmp rfl) ResL.nil)),?_⟩
 have hm:manyO o:=by unfold manyO;omega
 exact ⟨(),trivial,by unfold objE objI;rw [if_pos hm,if_pos hm];rfl,Lh⟩
 have hm:¬ manyO o:=by unfold manyO;omega
 refine Zj (Za (Zh (Zh (Zi (Zp J (Zn (Za (Zk (wLoop (ι:=Nat) (fun i=>[(1,.pointer (some ⟨b1,0,none⟩)),(4,.int .i64 (i:Int))]) (fun i=>[blk b1 26 [.slice A0 o.fSymbols.length c0,.slice A1 o.fFuncs.length c1,.slice A2 o.fDatas.length c2]]) (fun i=>i≤o.fSymbols.length∧fstE ((symsL o).take i)=0∧∀ y ∈ (symsL o).take i,non0 y=false) (fun i=>o.fSymbols.length-i) 0 ?_ cv (Leads.has ZQ) ?_)))))))))
 exact ⟨Nat.zero_le _,rfl,by simp⟩
 rintro i ⟨hi,hs,hs2⟩
 try dsimp only
 refine Zh (Zh (Zi (Zo J (Zz (n:=0) (m:=0) J J J (Zld ?_)))))
 refine Zv J J (Zx J J (Zn (Za (wC (fun h28=>?_) (fun h28=>?_)))))
 have hxe:(symsL o)[i]?=some (symE o i):=rmap_at ZO
 refine Zj (Zzz ?_)
 refine Zo J ?_
 (refine ZC0 rfl ZK (fun w hS=>frame hS ZQ (fun B' hB hS'=>ref19_symbol hS' o _ (kApiObject.K_grow hB ho) hg i ZO)) ?_;rintro ⟨⟩ -)
 refine Zp J (Zn (Za (Zh (Zi (Zo J (Z0 J J (Zn (Za (wC (fun h35=>?_) (fun h35=>?_))))))))))
 refine Zh (Zi (Zo J (Zo J (Zp J (Zp J (Zn (Za (Zl (Zf (Zc (Zc (Zf (Zc (Zw ?_))))))))))))))
 refine ⟨rfl,_,(ResL.cons (ResR.tmp rfl) (ResL.cons (ResR.tmp rfl) ResL.nil)),?_⟩
 exact ⟨(),trivial,by have hfe:=fstE_stop hs hxe h35;unfold objE objI;rw [if_neg hm,if_neg hm,hfe,if_pos h35,if_pos h35,idxI_stop hs2 hxe (decide_eq_true h35)];rfl,Lh⟩
 refine Zj (Zze ?_)
 refine Zp J (Zn (Za ?_))
 exact ⟨rfl,i+1,⟨by omega,fstE_next hs hxe (Classical.not_not.1 h35),take_not hs2 hxe (decide_eq_false h35)⟩,by omega,cv,Lh⟩
 obtain rfl:i=o.fSymbols.length:=by omega
 have hfs:fstE (symsL o)=0:=by have:=hs;unfold symsL at this;rw [rmap_all] at this;exact this
 refine Zm (Zb (Zb (Ze (Za (Zh (Zh (Zi (Zp J (Zn (Za (Zk (wLoop (ι:=Nat) (fun i=>[(1,.pointer (some ⟨b1,0,none⟩)),(6,.int .i64 (i:Int))]) (fun i=>[blk b1 26 [.slice A0 o.fSymbols.length c0,.slice A1 o.fFuncs.length c1,.slice A2 o.fDatas.length c2]]) (fun i=>i≤o.fFuncs.length+o.fDatas.length∧fstE ((itsL o).take i)=0∧∀ y ∈ (itsL o).take i,non0 y=false) (fun i=>o.fFuncs.length+o.fDatas.length-i) 0 ?_ cv (Leads.has ZQ) ?_))))))))))))
 exact ⟨Nat.zero_le _,rfl,by simp⟩
 rintro i ⟨hi,hs,hs2⟩
 try dsimp only
 refine Zh (Zh (Zi (Zo J (Zla ?_))))
 (refine ZC0 rfl ZK (fun w hS=>frame hS ZQ (fun B' hB hS'=>ref19_Items hS' o _ (kApiObject.K_grow hB ho) hg)) ?_;rintro ⟨⟩ -)
 refine Zx J J (Zn (Za (wC (fun h41=>?_) (fun h41=>?_))))
 have hxe:(itsL o)[i]?=some (itemE o i):=rmap_at ZO
 refine Zj (Zzz ?_)
 refine Zo J ?_
 (refine ZC0 rfl ZK (fun w hS=>frame hS ZQ (fun B' hB hS'=>ref19_item hS' o _ (kApiObject.K_grow hB ho) hg i ZO)) ?_;rintro ⟨⟩ -)
 refine Zp J (Zn (Za (Zh (Zi (Zo J (Z0 J J (Zn (Za (wC (fun h48=>?_) (fun h48=>?_))))))))))
 refine Zh (Zi (Zo J (Zo J (Zp J (Zp J (Zn (Za (Zl (Zf (Zc (Zc (Zf (Zc (Zw ?_))))))))))))))
 refine ⟨rfl,_,(ResL.cons (ResR.tmp rfl) (ResL.cons (ResR.tmp rfl) ResL.nil)),?_⟩
 exact ⟨(),trivial,by have hfe:=fstE_stop hs hxe h48;unfold objE objI;rw [if_neg hm,if_neg hm,if_neg (by rw [hfs];simp),if_neg (by rw [hfs];simp),hfe,idxI_stop hs2 hxe (decide_eq_true h48)];rfl,Lh⟩
 refine Zj (Zze ?_)
 refine Zp J (Zn (Za ?_))
 exact ⟨rfl,i+1,⟨by omega,fstE_next hs hxe (Classical.not_not.1 h48),take_not hs2 hxe (decide_eq_false h48)⟩,by omega,cv,Lh⟩
 refine Zm (Zb (Zb (Ze (Za (Zh (Zi (Zp J (ZzE ?_))))))))
 refine ⟨rfl,_,(ResL.cons (ResR.tmp rfl) (ResL.cons (ResR.tmp rfl) ResL.nil)),?_⟩
 obtain rfl:i=o.fFuncs.length+o.fDatas.length:=by omega
 unfold itsL at hs hs2
 rw [rmap_all] at hs hs2
 exact ⟨(),trivial,by unfold objE objI;rw [if_neg hm,if_neg hm,if_neg (by rw [hfs];simp),if_neg (by rw [hfs];simp)];unfold itsL;rw [hs,idxI_none hs2];rfl,Lh⟩
theorem ref16_FewA {B:Base}{w:World}(hS:St B [] w) (f:ApiFunc) (fc:List Value) (hf:kApiFunc.K B.e f fc) :
 CW 18 #[.agg fc.toArray] w (Ret B (fun r:Bool=>r=true→f.fKinds.length≤100∧f.fLines.length≤100∧f.fCode.length≤100∧f.fRelocs.length≤100) (fun r=>.bool r) (fun _=>[])):=by
 obtain ⟨A0,c0,A1,c1,A2,c2,A3,c3,rfl,l0,g0,l1,g1,l2,g2,l3,g3⟩:=kApiFunc_open hf
 refine ZX Tryz.func18 hS ?_
 refine Zh (Zi (oBox J ZP (fun b1=>?_)))
 refine Zp J (Zn (Za (Zh (Zi (Zz (n:=1) (m:=1) J J J (Zld ?_))))))
 refine Zv J J (oLeq J J (Zo J (ZS (ZT 7) (fun h7=>?_) (fun h7=>?_))))
 refine Zq J J (Zz (n:=6) (m:=6) J J J (Zzf ?_))
 refine Zq J J (Zv J J (Zq J J (oLeq J J (Zt J J (Zo J (ZS (ZT 13) (fun h13=>?_) (fun h13=>?_)))))))
 refine Zq J J (Zz (n:=7) (m:=7) J J J (Zzf ?_))
 refine Zq J J (Zv J J (Zq J J (oLeq J J (Zt J J (Zo J (ZS (ZT 19) (fun h19=>?_) (fun h19=>?_)))))))
 refine Zq J J (Zz (n:=8) (m:=8) J J J (Zzf ?_))
 refine Zq J J (Zv J J (Zq J J (oLeq J J (Zt J J (Zza ?_)))))
 exact ⟨_,(by intro h;first | focus (simp at h;done) | (have:=of_decide_eq_true h;omega)),rfl,Lh⟩
 refine Zr J J J J (Zzu ?_)
 exact ⟨_,(by intro h;first | focus (simp at h;done) | (have:=of_decide_eq_true h;omega)),rfl,Lh⟩
 refine Zr J J J J (Zr J J J J (Zr J J J J (Zr J J J J (Zu J J (Zo J (Zr J J J J (Zzu ?_)))))))
 exact ⟨_,(by intro h;first | focus (simp at h;done) | (have:=of_decide_eq_true h;omega)),rfl,Lh⟩
 refine Zr J J J J (Zr J J J J (Zr J J J J (Zr J J J J (Zu J J (Zo J (Zr J J J J (Zr J J J J (Zr J J J J (Zr J J J J (Zu J J (Zo J (Zr J J J J (Zzu ?_)))))))))))))
 exact ⟨_,(by intro h;first | focus (simp at h;done) | (have:=of_decide_eq_true h;omega)),rfl,Lh⟩
structure FewB (o:ApiObject):Prop where
  syms:o.fSymbols.length≤60
  funcs:o.fFuncs.length≤20
  datas:o.fDatas.length≤20
  fun_:∀ f ∈ o.fFuncs,f.fKinds.length≤100∧f.fLines.length≤100∧f.fCode.length≤100∧f.fRelocs.length≤100
  data:∀ d ∈ o.fDatas,d.fWords.length≤100∧d.fRelocs.length≤100
theorem take_all {α:Type}{P:α→Prop}{l:List α}{i:Nat}{x:α}(h:∀ y ∈ l.take i,P y) (hi:l[i]?=some x) (hp:P x):∀ y ∈ l.take (i+1),P y:=by
 intro y hy
 rw [List.take_add_one,hi] at hy
 rcases List.mem_append.1 hy with k | k
 · exact h y k
 · obtain rfl:y=x:=by simpa using k
   exact hp
abbrev fewF (f:ApiFunc):Prop:=f.fKinds.length≤100∧f.fLines.length≤100∧f.fCode.length≤100∧f.fRelocs.length≤100
abbrev fewD (d:ApiData):Prop:=d.fWords.length≤100∧d.fRelocs.length≤100
theorem ref19_Few {B:Base}{w:World}(hS:St B [] w) (o:ApiObject) (oc:List Value) (ho:kApiObject.K B.e o oc) :
 CW 6 #[.agg oc.toArray] w (Ret B (fun r:Bool=>r=true→FewB o) (fun r=>.bool r) (fun _=>[])):=by
 obtain ⟨A0,c0,A1,c1,A2,c2,rfl,m0,q0,m1,q1,m2,q2⟩:=kApiObject_open ho
 have hl0:=q0.1
 have hl1:=q1.1
 have hl2:=q2.1
 refine ZX Tryz.func6 hS ?_
 refine Zh (Zi (oBox J ZP (fun b1=>?_)))
 refine Zp J (Zn (Za (Zh (Zh (Zi (Zp J (Zn (Za (Zk (wLoop (ι:=Nat) (fun i=>[(1,.pointer (some ⟨b1,0,none⟩)),(3,.int .i64 (i:Int))]) (fun i=>[blk b1 26 [.slice A0 o.fSymbols.length c0,.slice A1 o.fFuncs.length c1,.slice A2 o.fDatas.length c2]]) (fun i=>i≤o.fSymbols.length) (fun i=>o.fSymbols.length-i) 0 ?_ cv (Leads.has ZQ) ?_))))))))))
 exact Nat.zero_le _
 rintro i hi
 try dsimp only
 refine Zh (Zh (Zi (Zo J (Zz (n:=0) (m:=0) J J J (Zld ?_)))))
 refine Zv J J (Zx J J (Zn (Za (wC (fun h10=>?_) (fun h10=>?_)))))
 obtain ⟨x,hx⟩:∃ x,o.fSymbols[i]?=some x:=⟨_,List.getElem?_eq_getElem ZO⟩
 obtain ⟨e1,cs1,hE⟩:=q0.elm hx
 obtain rfl:=kApiSymbol_open hE.K
 refine Zj (Za (Zh (Zk (Zh (Zi (Zz (n:=0) (m:=0) J J J (Zld ?_)))))))
 refine Zo J (oIdxE J J (hE) ZO J J ?_)
 have hc16:=(hE).cell
 refine ZF (ZT 0) (ZT 0) ?_
 refine Zlx hc16 ?_
 refine oLenStr J J (Z1 J J (Zn (Za (wC (fun h20=>?_) (fun h20=>?_)))))
 refine Zh (Zi (Zzc ?_))
 exact ⟨false,(by intro h;cases h),rfl,Lh⟩
 refine Zj (Zze ?_)
 refine Zp J (Zn (Za ?_))
 exact ⟨rfl,i+1,by omega,by omega,cv,Lh⟩
 refine Zm (Zb (Zb (Ze (Za (Zh (Zh (Zi (Zp J (Zn (Za (Zk (wLoop (ι:=Nat) (fun i=>[(1,.pointer (some ⟨b1,0,none⟩)),(4,.int .i64 (i:Int))]) (fun i=>[blk b1 26 [.slice A0 o.fSymbols.length c0,.slice A1 o.fFuncs.length c1,.slice A2 o.fDatas.length c2]]) (fun i=>i≤o.fFuncs.length∧i≤20∧∀ f ∈ o.fFuncs.take i,fewF f) (fun i=>o.fFuncs.length-i) 0 ?_ cv (Leads.has ZQ) ?_))))))))))))
 exact ⟨Nat.zero_le _,by omega,by simp⟩
 rintro i ⟨hi,hi2,hs⟩
 try dsimp only
 refine Zh (Zh (Zi (Zo J (Zz (n:=1) (m:=1) J J J (Zld ?_)))))
 refine Zv J J (Zx J J (Zn (Za (wC (fun h25=>?_) (fun h25=>?_)))))
 obtain ⟨f,hf⟩:∃ f,o.fFuncs[i]?=some f:=⟨_,List.getElem?_eq_getElem ZO⟩
 obtain ⟨e3,cs3,hE3⟩:=q1.elm hf
 obtain ⟨F0,f0,F1,f1,F2,f2,F3,f3,rfl,n0,r0,n1,r1,n2,r2,n3,r3⟩:=kApiFunc_open hE3.K
 refine Zj (Za (Zh (Zk (Zh (Zi (Zo J (Z2 J J (Zo J (ZS (ZT 30) (fun h30=>?_) (fun h30=>?_))))))))))
 refine Zr J J J J (Zr J J J J (Zr J J J J (Zr J J J J (Zr J J J J (Zr J J J J (Zr J J J J (Zt J J (Zn (Za (wCondT J (Zh (Zi (Zzc ?_)))))))))))))
 exact ⟨false,(by intro h;cases h),rfl,Lh⟩
 refine Zq J J (Zz (n:=1) (m:=1) J J J (Zzf ?_))
 refine Zq J J (Zo J (Zq J J (oIdxE J J (hE3) ZO J J ?_)))
 have hc34:=(hE3).cell
 refine Zq J J (Zlx hc34 ?_)
 refine Zq J J ?_
 (refine ZC0 rfl ZK (fun w hS=>frame hS ZQ (fun B' hB hS'=>ref16_FewA hS' f _ (kApiFunc_mk _ f n0 (Kd.C_grow hB r0) n1 (Kd.C_grow hB r1) n2 (Kd.C_grow hB r2) n3 (Kd.C_grow hB r3)))) ?_;rintro r36 h36)
 refine Zq J J (Zno ?_)
 refine Zu J J (Zn (Za (wC (fun h38=>?_) (fun h38=>?_))))
 refine Zh (Zi (Zzc ?_))
 exact ⟨false,(by intro h;cases h),rfl,Lh⟩
 refine Zj (Zze ?_)
 refine Zp J (Zn (Za ?_))
 exact ⟨rfl,i+1,⟨by omega,by omega,take_all hs hf (h36 (by simp_all))⟩,by omega,cv,Lh⟩
 obtain rfl:i=o.fFuncs.length:=by omega
 rw [List.take_length] at hs
 have hsF:=hs
 have hsN:=hi2
 refine Zm (Zb (Zb (Ze (Za (Zh (Zh (Zi (Zp J (Zn (Za (Zk (wLoop (ι:=Nat) (fun i=>[(1,.pointer (some ⟨b1,0,none⟩)),(5,.int .i64 (i:Int))]) (fun i=>[blk b1 26 [.slice A0 o.fSymbols.length c0,.slice A1 o.fFuncs.length c1,.slice A2 o.fDatas.length c2]]) (fun i=>i≤o.fDatas.length∧i≤20∧∀ f ∈ o.fDatas.take i,fewD f) (fun i=>o.fDatas.length-i) 0 ?_ cv (Leads.has ZQ) ?_))))))))))))
 exact ⟨Nat.zero_le _,by omega,by simp⟩
 rintro i ⟨hi,hi2,hs⟩
 try dsimp only
 refine Zh (Zh (Zi (Zo J (Zz (n:=2) (m:=2) J J J (Zld ?_)))))
 refine Zv J J (Zx J J (Zn (Za (wC (fun h43=>?_) (fun h43=>?_)))))
 obtain ⟨d,hd⟩:∃ d,o.fDatas[i]?=some d:=⟨_,List.getElem?_eq_getElem ZO⟩
 obtain ⟨e2,cs2,hE2⟩:=q2.elm hd
 obtain ⟨D0,d0,D1,d1,rfl,n0,r0,n1,r1⟩:=kApiData_open hE2.K
 refine Zj (Za (Zh (Zk (Zh (Zi (Zo J (Z2 J J (Zo J (ZS (ZT 48) (fun h48=>?_) (fun h48=>?_))))))))))
 refine Zr J J J J (Zr J J J J (Zr J J J J (Zr J J J J (Zr J J J J (Zr J J J J (Zr J J J J (Zt J J (Zn (Za (wCondT J (Zh (Zi (Zzc ?_)))))))))))))
 exact ⟨false,(by intro h;cases h),rfl,Lh⟩
 refine Zq J J (Zz (n:=2) (m:=2) J J J (Zzf ?_))
 refine Zq J J (Zo J (Zq J J (oIdxE J J (hE2) ZO J J ?_)))
 have hc52:=(hE2).cell
 refine Zq J J (Zlx hc52 ?_)
 refine Zq J J ?_
 (refine ZC0 rfl ZK (fun w hS=>frame hS ZQ (fun B' hB hS'=>ref15_Few hS' d _ (kApiData_mk _ d n0 (Kd.C_grow hB r0) n1 (Kd.C_grow hB r1)))) ?_;rintro r54 h54)
 refine Zq J J (Zno ?_)
 refine Zu J J (Zn (Za (wC (fun h56=>?_) (fun h56=>?_))))
 refine Zh (Zi (Zzc ?_))
 exact ⟨false,(by intro h;cases h),rfl,Lh⟩
 refine Zj (Zze ?_)
 refine Zp J (Zn (Za ?_))
 exact ⟨rfl,i+1,⟨by omega,by omega,take_all hs hd (h54 (by simp_all))⟩,by omega,cv,Lh⟩
 refine Zm (Zb (Zb (Ze (Za (Zh (Zi (Zz (n:=0) (m:=0) J J J (Zld ?_))))))))
 refine Zv J J (oLeq J J (Zza ?_))
 obtain rfl:i=o.fDatas.length:=by omega
 rw [List.take_length] at hs
 exact ⟨_,(by intro h;have:=of_decide_eq_true h;exact ⟨by omega,hsN,hi2,hsF,hs⟩),rfl,Lh⟩
end Go.Proofs.YtpmdhkjbhjgoaaaGreatW
