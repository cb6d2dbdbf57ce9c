/-
  Part 4 of the proof of BindRight: contracts of functions, and what follows from them; without conditions.
-/
import Derived.Test.YtafiabekcekdbaaGreatBindRight3
import Derived.Laws.StructEq
set_option linter.unusedVariables false
set_option linter.unusedSimpArgs false
set_option linter.defProp false
namespace Go.Proofs.YtafiabekcekdbaaGreatO
set_option maxRecDepth 100000
set_option maxHeartbeats 4000000
open Go.RowKit Go.Proofs.YtafiabekcekdbaaGreatK Go.Proofs.YtafiabekcekdbaaGreatT Go.Proofs.YtafiabekcekdbaaGreatL Go.Proofs.YtafiabekcekdbaaGreatV Go.Proofs.YtafiabekcekdbaaGreatG Go.Proofs.YtafiabekcekdbaaGreatW Go.Proofs.YtafiabekcekdbaaGreatU

theorem bind_wr (l:List ApiObject) (s:ByteArray):bindR l s=if (wrongR l).1≠0 then wrongR l else if (fnd l s).2.2=false∨(symOf l (fnd l s).1 (fnd l s).2.1).fSort≠1∨1<(symOf l (fnd l s).1 (fnd l s).2.1).fKind then (15,-1,-1) else (0,0,0):=by
 unfold bindR wrongR
 split
 · rw [if_pos (by decide)]
 · split
   · next h1=>
     obtain ⟨i,o,hi,ho,hb⟩:=idxI_at h1
     rw [if_pos]
     rw [hi,Int.toNat_natCast,objAt_eq ho]
     exact of_decide_eq_true hb
   · rfl
theorem wrong_ok {l:List ApiObject}(hf:FewO l) (h:(wrongR l).1=0):OkL l:=by
 unfold wrongR at h
 split at h
 · exact absurd h (by decide)
 · split at h
   · next h1=>
     obtain ⟨i,o,hi,ho,hb⟩:=idxI_at h1
     rw [hi,Int.toNat_natCast,objAt_eq ho] at h
     exact absurd h (of_decide_eq_true hb)
   · next h1=>
     refine ⟨hf,fun o ho=>?_,h⟩
     have hn:¬ l.any badB=true:=fun h2=>h1 (idxI_iff.2 h2)
     have h3:badB o=false:=by
      cases hb:badB o with
      | false=>rfl
      | true=>exact absurd (List.any_eq_true.2 ⟨o,ho,hb⟩) hn
     exact Classical.not_not.1 (of_decide_eq_false h3)
theorem bind_Bind {B:Base}{w:World}(hS:St B [] w) (A:Option Addr) (cp:Nat) (l:List ApiObject) (hC:kApiObject.C B.e A l) (hv:∀ o ∈ l,vApiObject o) (hfew:FewO l) (s:ByteArray) (W0:World) :
 CW 18 #[.slice A l.length cp,.string s] w (Ret B (fun z:PR=>z.ok (bindP l s).fFuns (bindP l s).fDats) (fun z=>.tuple #[.agg (z.cells (bindP l s).fEntry).toArray,.agg (rejL (bindR l s)).toArray]) (fun z=>[row (kRaw 13) W0 59 (.slice z.Af z.rf.length z.cf) z.rf,row (kRaw 7) W0 64 (.slice z.Ad z.rd.length z.cd) z.rd,bun z.Ψ])):=by
 have hln:=hfew.len
 have hsm:Go.Proofs.YtafiabekcekdbaaGreatS.Small l:=⟨by omega,fun o ho=>by have:=(hfew.one hv ho).syms;omega⟩
 have hbw:=bind_wr l s
 refine ZX Tryz.func18 hS ?_
 refine Zh (Zi (oAlloc J ZP (fun b4=>?_)))
 refine oAlloc J ZP (fun b5=>?_)
 refine Zn (Za (Zh (Zzk ?_)))
 (refine ZC0 rfl ZK (fun w hS=>frame hS ZQ (fun B' hB hS'=>bind_wrong hS' A cp l (Kd.C_grow hB hC) (fun o ho=>hfew.one hv ho) ZO)) ?_;rintro ⟨⟩ -)
 refine oAlloc J ZP (fun b6=>?_)
 refine Zsa ?_
 refine Zn (Za (Zh (Zi (Zz (n:=0) (m:=0) J J J (Zld ?_)))))
 refine Z0 J J (Zn (Za (wC (fun h17=>?_) (fun h17=>?_))))
 refine Zh (wDrawN J J (ZM (i:=0) (rs:=[1]) ZK ?_))
 refine ZA J ?_ ?_
 refine oBuild Parts.nil J J Built.nil (Z7 (ZM (i:=1) (rs:=[2]) ZK ?_))
 refine ZA J ?_ ?_
 refine Zla ?_
 refine Z7 (ZM (i:=2) (rs:=[]) ZK ?_)
 refine ZA J ?_ ?_
 refine Zsa ?_
 refine Z7 (ZM (i:=3) (rs:=[]) ZK ?_)
 refine ZA J ?_ ?_
 refine Zsa ?_
 refine Z7 (anNil ZK ?_)
 refine Za (Zl (Zc (Zw ?_)))
 refine ⟨rfl,_,(ResL.cons (by first | exact ResR.cell rfl ZP rfl | exact ResR.agg rfl ZP rfl rfl) (ResL.cons (by first | exact ResR.cell rfl ZP rfl | exact ResR.agg rfl ZP rfl rfl) ResL.nil)),?_⟩
 have hR:bindR l s=wrongR l:=by rw [hbw,if_pos h17]
 have hP:bindP l s=⟨[],[],0⟩:=by unfold bindP;rw [hR,if_neg (by first | decide | exact h17)]
 exact ⟨⟨none,0,[],none,0,[],[]⟩,by rw [hP];exact fun w _=>⟨rfl,rfl⟩,by rw [hR,hP];rfl,(Leads.nilrow.trans (bun_nil.trans (Leads.nilrow.trans Lh)))⟩
 exact ZB
 exact ZB
 refine ZA J ?_ ?_
 refine Zsa ?_
 refine Z7 (ZM (i:=1) (rs:=[]) ZK ?_)
 refine ZA J ?_ ?_
 refine Zla ?_
 refine Z7 (ZM (i:=3) (rs:=[]) ZK ?_)
 refine ZA J ?_ ?_
 refine Zsa ?_
 refine Z7 (anNil ZK ?_)
 refine Za (Zl (Zc (Zw ?_)))
 refine ⟨rfl,_,(ResL.cons (by first | exact ResR.cell rfl ZP rfl | exact ResR.agg rfl ZP rfl rfl) (ResL.cons (by first | exact ResR.cell rfl ZP rfl | exact ResR.agg rfl ZP rfl rfl) ResL.nil)),?_⟩
 have hR:bindR l s=wrongR l:=by rw [hbw,if_pos h17]
 have hP:bindP l s=⟨[],[],0⟩:=by unfold bindP;rw [hR,if_neg (by first | decide | exact h17)]
 exact ⟨⟨none,0,[],none,0,[],[]⟩,by rw [hP];exact fun w _=>⟨rfl,rfl⟩,by rw [hR,hP];rfl,(Leads.nilrow.trans (bun_nil.trans (Leads.nilrow.trans Lh)))⟩
 exact ZB
 exact ZB
 exact ZB
 refine ZA J ?_ ?_
 refine Zla ?_
 refine Z7 (ZM (i:=0) (rs:=[]) ZK ?_)
 refine ZA J ?_ ?_
 refine oBuild Parts.nil J J Built.nil (Z7 (ZM (i:=2) (rs:=[]) ZK ?_))
 refine ZA J ?_ ?_
 refine Zsa ?_
 refine Z7 (ZM (i:=3) (rs:=[]) ZK ?_)
 refine ZA J ?_ ?_
 refine Zsa ?_
 refine Z7 (anNil ZK ?_)
 refine Za (Zl (Zc (Zw ?_)))
 refine ⟨rfl,_,(ResL.cons (by first | exact ResR.cell rfl ZP rfl | exact ResR.agg rfl ZP rfl rfl) (ResL.cons (by first | exact ResR.cell rfl ZP rfl | exact ResR.agg rfl ZP rfl rfl) ResL.nil)),?_⟩
 have hR:bindR l s=wrongR l:=by rw [hbw,if_pos h17]
 have hP:bindP l s=⟨[],[],0⟩:=by unfold bindP;rw [hR,if_neg (by first | decide | exact h17)]
 exact ⟨⟨none,0,[],none,0,[],[]⟩,by rw [hP];exact fun w _=>⟨rfl,rfl⟩,by rw [hR,hP];rfl,(Leads.nilrow.trans (bun_nil.trans (Leads.nilrow.trans Lh)))⟩
 exact ZB
 exact ZB
 exact ZB
 exact ZB
 have hok:OkL l:=wrong_ok hfew (Classical.not_not.1 h17)
 rw [if_neg h17] at hbw
 refine Zj (Zzp ?_)
 (refine ZC0 rfl ZK (fun w hS=>frame hS ZQ (fun B' hB hS'=>Go.Proofs.YtafiabekcekdbaaGreatS.find_any hS' A cp l s (Kd.C_grow hB hC) hsm)) ?_;rintro ⟨⟩ -)
 rw [show ((((Go.Proofs.YtafiabekcekdbaaGreatS.firstOf l s).getD (0,0)).1:Nat):Int)=(fnd l s).1 by rw [fnd_eq];cases Go.Proofs.YtafiabekcekdbaaGreatS.firstOf l s <;> rfl,show ((((Go.Proofs.YtafiabekcekdbaaGreatS.firstOf l s).getD (0,0)).2:Nat):Int)=(fnd l s).2.1 by rw [fnd_eq];cases Go.Proofs.YtafiabekcekdbaaGreatS.firstOf l s <;> rfl,show (Go.Proofs.YtafiabekcekdbaaGreatS.firstOf l s).isSome=(fnd l s).2.2 by rw [fnd_eq];cases Go.Proofs.YtafiabekcekdbaaGreatS.firstOf l s <;> rfl]
 refine Zo J (oExt J ZP ?_)
 refine oExt J ZP ?_
 refine oExt J ZP ?_
 refine Zp J (Zp J (Zp J (Zn (Za (Zh (Zh (Zi (Zo J (Zno ?_)))))))))
 refine Zo J (ZS (ZT 29) (fun h29=>?_) (fun h29=>?_))
 refine Zr J J J J (Zr J J J J (Zr J J J J (Zr J J J J (Zr J J J J (Zr J J J J (Zr J J J J (Zr J J J J (Zr J J J J (Zr J J J J (Zt J J (Zo J (Zr J J J J (Zr J J J J (Zr J J J J (Zr J J J J (Zr J J J J (Zr J J J J (Zr J J J J (Zr J J J J (Zr J J J J (Zr J J J J (Zt J J (Zn (Za (wCondT J (Zh (Zi (oBuild Parts.nil J J Built.nil (oBuild (Parts.cons J (Parts.cons J (Parts.cons J Parts.nil))) J J (Built.cons (off:=0) (s:=1) J ZP J ZP (Built.cons (off:=1) (s:=1) J ZP J ZP (Built.cons (off:=2) (s:=1) J ZP J ZP Built.nil))) ?_)))))))))))))))))))))))))))))
 refine Zsa ?_
 refine Zsa ?_
 refine Zn (Za (Zl (Zc (Zw ?_))))
 refine ⟨rfl,_,(ResL.cons (by first | exact ResR.cell rfl ZP rfl | exact ResR.agg rfl ZP rfl rfl) (ResL.cons (by first | exact ResR.cell rfl ZP rfl | exact ResR.agg rfl ZP rfl rfl) ResL.nil)),?_⟩
 have hR:bindR l s=(15,-1,-1):=by rw [hbw,if_pos (.inl (by simpa using h29))]
 have hP:bindP l s=⟨[],[],0⟩:=by unfold bindP;rw [hR,if_neg (by first | decide | exact absurd rfl)]
 exact ⟨⟨none,0,[],none,0,[],[]⟩,by rw [hP];exact fun w _=>⟨rfl,rfl⟩,by rw [hR,hP];rfl,(Leads.nilrow.trans (bun_nil.trans (Leads.nilrow.trans Lh)))⟩
 obtain ⟨i,k,o,x,hfe,ho,hx,hgx⟩:=fnd_some (show (fnd l s).2.2=true by simpa using h29)
 have hso:=symOf_eq ho hx
 have hil:=(List.getElem?_eq_some_iff.1 ho).1
 have hkl:=(List.getElem?_eq_some_iff.1 hx).1
 obtain ⟨e3,cs3,hE3⟩:=hC.elm ho
 obtain ⟨C0,f0,C1,f1,C2,f2,rfl,n0,r0,n1,r1,n2,r2⟩:=kApiObject_open hE3.K
 obtain ⟨e4,cs4,hE4⟩:=r0.elm hx
 obtain rfl:=kApiSymbol_open hE4.K
 rw [hfe] at hbw ⊢
 dsimp only at hbw ⊢
 rw [hso] at hbw
 refine Zq J J (Zo J (Zq J J (Zo J (Zq J J (oIdxE J J (hE3) ZO J J ?_)))))
 have hc32:=(hE3).cell
 refine Zq J J (ZF (ZT 0) (ZT 0) ?_)
 refine Zq J J (Zlx hc32 ?_)
 refine Zq J J (Zo J (Zq J J (oIdxE J J (hE4) ZO J J ?_)))
 have hc36:=(hE4).cell
 refine Zq J J (ZF (ZT 2) (ZT 2) ?_)
 refine Zq J J (Zlx hc36 ?_)
 refine Zq J J (Z0 J J (Zu J J (Zo J (ZS (ZT 41) (fun h41=>?_) (fun h41=>?_)))))
 refine Zr J J J J (Zr J J J J (Zr J J J J (Zr J J J J (Zr J J J J (Zr J J J J (Zr J J J J (Zr J J J J (Zr J J J J (Zr J J J J (Zt J J (Zn (Za (wCondT J (Zh (Zi (oBuild Parts.nil J J Built.nil (oBuild (Parts.cons J (Parts.cons J (Parts.cons J Parts.nil))) J J (Built.cons (off:=0) (s:=1) J ZP J ZP (Built.cons (off:=1) (s:=1) J ZP J ZP (Built.cons (off:=2) (s:=1) J ZP J ZP Built.nil))) ?_)))))))))))))))))
 refine Zsa ?_
 refine Zsa ?_
 refine Zn (Za (Zl (Zc (Zw ?_))))
 refine ⟨rfl,_,(ResL.cons (by first | exact ResR.cell rfl ZP rfl | exact ResR.agg rfl ZP rfl rfl) (ResL.cons (by first | exact ResR.cell rfl ZP rfl | exact ResR.agg rfl ZP rfl rfl) ResL.nil)),?_⟩
 have hR:bindR l s=(15,-1,-1):=by rw [hbw,if_pos ZO]
 have hP:bindP l s=⟨[],[],0⟩:=by unfold bindP;rw [hR,if_neg (by first | decide | exact absurd rfl)]
 exact ⟨⟨none,0,[],none,0,[],[]⟩,by rw [hP];exact fun w _=>⟨rfl,rfl⟩,by rw [hR,hP];rfl,(Leads.nilrow.trans (bun_nil.trans (Leads.nilrow.trans Lh)))⟩
 refine Zq J J (Zo J (Zq J J (Zo J (Zq J J (oIdxE J J (hE3) ZO J J ?_)))))
 have hc44:=(hE3).cell
 refine Zq J J (ZF (ZT 0) (ZT 0) ?_)
 refine Zq J J (Zlx hc44 ?_)
 refine Zq J J (Zo J (Zq J J (oIdxE J J (hE4) ZO J J ?_)))
 have hc48:=(hE4).cell
 refine Zq J J (ZF (ZT 3) (ZT 3) ?_)
 refine Zq J J (Zlx hc48 ?_)
 refine Zq J J (Z1 J J (Zu J J (Zn (Za (wC (fun h52=>?_) (fun h52=>?_))))))
 refine Zh (Zi (oBuild Parts.nil J J Built.nil (oBuild (Parts.cons J (Parts.cons J (Parts.cons J Parts.nil))) J J (Built.cons (off:=0) (s:=1) J ZP J ZP (Built.cons (off:=1) (s:=1) J ZP J ZP (Built.cons (off:=2) (s:=1) J ZP J ZP Built.nil))) ?_)))
 refine Zsa ?_
 refine Zsa ?_
 refine Zn (Za (Zl (Zc (Zw ?_))))
 refine ⟨rfl,_,(ResL.cons (by first | exact ResR.cell rfl ZP rfl | exact ResR.agg rfl ZP rfl rfl) (ResL.cons (by first | exact ResR.cell rfl ZP rfl | exact ResR.agg rfl ZP rfl rfl) ResL.nil)),?_⟩
 have hR:bindR l s=(15,-1,-1):=by rw [hbw,if_pos ZO]
 have hP:bindP l s=⟨[],[],0⟩:=by unfold bindP;rw [hR,if_neg (by first | decide | exact absurd rfl)]
 exact ⟨⟨none,0,[],none,0,[],[]⟩,by rw [hP];exact fun w _=>⟨rfl,rfl⟩,by rw [hR,hP];rfl,(Leads.nilrow.trans (bun_nil.trans (Leads.nilrow.trans Lh)))⟩
 have hR:bindR l s=(0,0,0):=by rw [hbw,if_neg (by simp;omega)]
 refine Zj (Za (Zh (Zi (oAlloc J ZP (fun b10=>?_)))))
 refine Zn (Za (Zzk ?_))
 (refine ZC0 rfl ZK (fun w hS=>frame hS ZQ (fun B' hB hS'=>bind_number hS' A cp l (Kd.C_grow hB hC) hfew)) ?_;rintro ⟨b13,b11⟩ -)
 refine Zp J (Zn (Za (Zh (Zh (Zi (Zo J (Zv J J (Zo J (Zn (Za (Zk (wLoop (ι:=Nat×PR) (fun x=>[(0,.slice A l.length cp),(1,.string s),(4,.pointer (some ⟨b4,0,none⟩)),(5,.pointer (some ⟨b5,0,none⟩)),(7,.int .i64 (i:Int)),(8,.int .i64 (k:Int)),(10,.pointer (some ⟨b10,0,none⟩)),(11,.pointer (some ⟨b13,0,none⟩)),(58,.int .i64 (l.length:Int)),(59,.int .i64 (x.1:Int))]) (fun x=>[blk b4 43 [.slice none 0 0,.slice none 0 0,.int .i64 0],blk b5 45 [.int .i64 0,.int .i64 0,.int .i64 0],blk b13 119 [.slice A l.length cp,.map (some b11)],kmap itemV (Value.int .i64) b11 (numM l l.length 0 0),blk b10 43 (x.2.cells 0),row (kRaw 13) W0 59 (.slice x.2.Af x.2.rf.length x.2.cf) x.2.rf,row (kRaw 7) W0 64 (.slice x.2.Ad x.2.rd.length x.2.cd) x.2.rd,bun x.2.Ψ]) (fun x=>x.1≤l.length∧x.2.ok (funsTo l x.1) (datsTo l x.1)) (fun x=>l.length-x.1) (0,⟨none,0,[],none,0,[],[]⟩) ?_ cv (Leads.nilrow.trans (bun_nil.trans (Leads.nilrow.trans Lh))) ?_))))))))))))
 exact ⟨Nat.zero_le _,fun w _=>⟨rfl,rfl⟩⟩
 rintro ⟨j,z⟩ ⟨hj,hz⟩
 dsimp only at hj hz
 try dsimp only
 refine Zh (Zi (Zx J J (Zn (Za (Zh (wC (fun h60=>?_) (fun h60=>?_)))))))
 obtain ⟨o2,ho2⟩:∃ o,l[j]?=some o:=⟨_,List.getElem?_eq_getElem ZO⟩
 refine Zj (Za (Zh (Zk (Zh (Zi (Zo J (Zp J (Zn (Za (Zi (Zo J (Zo J ?_))))))))))))
 (refine ZC0 rfl ZK (fun w hS=>frame hS ZQ (fun B' hB hS'=>binder_file A cp l b13 b11 b10 z W0 hS' (Kd.C_grow hB hC) hv hok j o2 ho2 hz)) ?_;rintro z' hz')
 refine Zn (Zzf ?_)
 refine Zo J (Zn (Za ?_))
 exact ⟨rfl,(j+1,z'),⟨by show j+1≤_;omega,hz'⟩,by show l.length-(j+1)<l.length-j;omega,cv,Lh⟩
 obtain rfl:j=l.length:=by omega
 obtain ⟨i2,k2,o2,y,hb,ho2,hy,h1,h2⟩:=hok.bnd ho hkl
 refine Zm (Zb (Zb (Ze (Za (Zh (Zi (Zo J (Zo J (Zo J ?_)))))))))
 (refine ZC0 rfl ZK (fun w hS=>frame hS ZQ (fun B' hB hS'=>binder_of A cp l b13 b11 hS' (Kd.C_grow hB hC) hsm i k i2 k2 o2 y hb ho2 hy (sym_sort ((obj_zero (hok.objs o2 (List.mem_of_getElem? ho2))).2.1 k2 (List.getElem?_eq_some_iff.1 hy).1) hy) h1 h2)) ?_;rintro ⟨⟩ -)
 refine Zz (n:=2) (m:=2) J J J (Zst ?_)
 refine Zn (Zzq ?_)
 refine oBuild Parts.nil J J Built.nil (Zsa ?_)
 refine Zsa ?_
 refine Zn (Za (Zl (Zw ?_)))
 refine ⟨rfl,_,(ResL.cons (by first | exact ResR.cell rfl ZP rfl | exact ResR.agg rfl ZP rfl rfl) (ResL.cons (by first | exact ResR.cell rfl ZP rfl | exact ResR.agg rfl ZP rfl rfl) ResL.nil)),?_⟩
 have hP:bindP l s=⟨funsTo l l.length,datsTo l l.length,numberF l i k⟩:=by unfold bindP;rw [hR,if_pos rfl,hfe]
 exact ⟨z,by rw [hP];exact hz,by rw [hR,hP];rfl,Lh⟩
def isF (file item:Int) (f:ApiFun):Bool:=decide (f.fFile=file) && decide (f.fItem=item)
def funN (p:ApiProgram) (file item:Int):Int:=idxI (isF file item) p.fFuns
def ovr (l most:List Int) (i:Nat):Bool:=decide (0≤most.getD i 0) && decide (most.getD i 0≤l.getD i 0)
def refsE (l most:List Int):Int:=if l.length≠most.length∨l.any (fun n=>decide (n < -1))=true then 2 else if (List.range l.length).any (ovr l most)=true then 9 else 0
def mostI (p:ApiProgram) (o:Int):Int:=if needF o=0 then -1 else if needF o=3∨needF o=4 then (p.fDats.length:Int) else (p.fFuns.length:Int)
def mostF (p:ApiProgram) (f:ApiFun):List Int:=f.fF.fCode.map fun x=>mostI p x.fOp
def mostD (p:ApiProgram) (d:ApiDat):List Int:=d.fD.fWords.map fun _=>(p.fFuns.length:Int)
def funsE (p:ApiProgram):List Int:=p.fFuns.map fun f=>refsE f.fRefs (mostF p f)
def datsE (p:ApiProgram):List Int:=p.fDats.map fun d=>refsE d.fRefs (mostD p d)
def progE (p:ApiProgram):Int:=if p.fEntry<0∨(p.fFuns.length:Int)≤p.fEntry then 2 else if fstE (funsE p)≠0 then fstE (funsE p) else fstE (datsE p)
theorem mapG {α:Type}{e:α→Int}{l:List α}{i:Nat}{x:α}(h:l[i]?=some x):(l.map e).getD i 0=e x:=by rw [List.getD_eq_getElem?_getD,List.getElem?_map,h];rfl
theorem mapA {α β:Type}{e:α→β}{l:List α}{i:Nat}{x:α}(h:l[i]?=some x):(l.map e)[i]?=some (e x):=by rw [List.getElem?_map,h];rfl
theorem mapT {α β:Type}{e:α→β}{l:List α}{i:Nat}{x:α}(h:l[i]?=some x):(l.map e).take (i+1)=(l.map e).take i++[e x]:=by rw [List.take_add_one,mapA h];rfl
theorem getG {l:List Int}{i:Nat}{x:Int}(h:l[i]?=some x):l.getD i 0=x:=by rw [List.getD_eq_getElem?_getD,h];rfl
theorem indexFunc_fun {B:Base}{w:World}{R1 R2:Res}(hS:St B [R1,R2] w) (l:List ApiFun) (A:Option Addr) (cp:Nat) (hC:kApiFun.C B.e A l) (gf:Nat) (lb:Array Value) (p:ApiFun→Bool) (hg:goodF Tryz.prog gf=true)
 (hh:∀ B' w (x:ApiFun) (xc:List Value),Grow B.e B'.e→kApiFun.K B'.e x xc→St B' [R1,R2] w→CW gf (#[]++[Value.agg xc.toArray].toArray++lb) w (Ret B' (fun _:Unit=>True) (fun _=>.bool (p x)) (fun _=>[R1,R2]))) :
 CW 51 #[.slice A l.length cp,.func (.func gf) #[] lb] w (Ret B (fun _:Unit=>True) (fun _=>.int .i64 (idxI p l)) (fun _=>[R1,R2])):=by
 have hl:=hC.1
 refine ZX Tryz.func51 hS ?_
 refine Zh (Zi (Zp J (Zn (Za (Zh (Zh (Zi (Zo J (Zv J J (Zo J (Zn (Za (Zk (wLoop (ι:=Nat) (fun i=>[(0,.slice A l.length cp),(1,.func (.func gf) #[] lb),(7,.int .i64 (l.length:Int)),(8,.int .i64 (i:Int))]) (fun i=>[R1,R2]) (fun i=>i≤l.length∧∀ y ∈ l.take i,p y=false) (fun i=>l.length-i) 0 ?_ cv (Leads.has ZQ) ?_))))))))))))))
 exact ⟨Nat.zero_le _,by simp⟩
 rintro i ⟨hi,hs⟩
 try dsimp only
 refine Zh (Zi (Zx J J (Zn (Za (Zh (wC (fun h9=>?_) (fun h9=>?_)))))))
 obtain ⟨f,hx⟩:∃ x,l[i]?=some x:=⟨_,List.getElem?_eq_getElem ZO⟩
 obtain ⟨e1,cs1,hE⟩:=hC.elm hx
 have hfK:=hE.K
 obtain ⟨F0,f0,F1,f1,F2,f2,F3,f3,F4,f4,rfl,n0,r0,n1,r1,n2,r2,n3,r3,n4,r4⟩:=kApiFun_open hE.K
 refine Zj (Za (Zh (Zk (Zh (Zi (Zo J (Zp J (Zn (Za (Zh (Zi (Zo J (Zo J (Zo J (oIdxE J J (hE) ZO J J ?_)))))))))))))))
 have hc14:=(hE).cell
 refine Zlx hc14 ?_
 (refine oCallV rfl rfl rfl hg (fun w hS=>frame hS ZQ (fun B' hB hS'=>hh B' w f _ hB (kApiFun.K_grow hB hfK) hS')) ?_;rintro ⟨⟩ -)
 refine Zn (Za (wC (fun h16=>?_) (fun h16=>?_)))
 refine Zh (Zi (Zo J (Zzc ?_)))
 exact ⟨(),trivial,by rw [idxI_stop hs hx (by simpa using h16)];rfl,Lh⟩
 refine Zj (Zzf ?_)
 refine Zo J (Zn (Za ?_))
 exact ⟨rfl,i+1,⟨by omega,take_not hs hx (by simpa using h16)⟩,by omega,cv,Lh⟩
 refine Zm (Zzg ?_)
 obtain rfl:i=l.length:=by omega
 rw [List.take_length] at hs
 exact ⟨(),trivial,by rw [idxI_none hs];rfl,Lh⟩
theorem bind_Fun1 {B:Base}{w:World}{b4 b5:Nat}{file item:Int}(hS:St B [blk b4 3 [.int .i64 file],blk b5 3 [.int .i64 item]] w) (f:ApiFun) (fc:List Value) (hf:kApiFun.K B.e f fc) :
 CW 52 #[.agg fc.toArray,.pointer (some ⟨b4,0,none⟩),.pointer (some ⟨b5,0,none⟩)] w (Ret B (fun _:Unit=>True) (fun _=>.bool (isF file item f)) (fun _=>[blk b4 3 [.int .i64 file],blk b5 3 [.int .i64 item]])):=by
 obtain ⟨F0,f0,F1,f1,F2,f2,F3,f3,F4,f4,rfl,n0,r0,n1,r1,n2,r2,n3,r3,n4,r4⟩:=kApiFun_open hf
 refine ZX Tryz.func52 hS ?_
 refine Zh (Zi (oBox J ZP (fun b3=>?_)))
 refine Zp J (Zn (Za (Zh (Zi (Zz (n:=0) (m:=0) J J J (Zld ?_))))))
 refine Zld ?_
 refine Zy J J (Zo J (ZS (ZT 9) (fun h9=>?_) (fun h9=>?_)))
 refine Zq J J (Zz (n:=1) (m:=1) J J J (Zzh ?_))
 refine Zq J J (Zld ?_)
 refine Zq J J (Zy J J (Zt J J (Zzi ?_)))
 exact ⟨(),trivial,by unfold isF;simp [resVal,show f.fFile=file from h9],Lh⟩
 refine Zr J J J J (Zr J J J J (Zzm ?_))
 exact ⟨(),trivial,by unfold isF;simp [resVal,show ¬ f.fFile=file from h9],Lh⟩
theorem bind_Fun {B:Base}{w:World}(hS:St B [] w) (p:ApiProgram) (pc:List Value) (hp:kApiProgram.K B.e p pc) (file item:Int) :
 CW 21 #[.agg pc.toArray,.int .i64 file,.int .i64 item] w (Ret B (fun _:Unit=>True) (fun _=>.int .i64 (funN p file item)) (fun _=>[])):=by
 obtain ⟨A0,c0,A1,c1,rfl,m0,q0,m1,q1⟩:=kApiProgram_open hp
 refine ZX Tryz.func21 hS ?_
 refine Zh (Zi (oBox J ZP (fun b3=>?_)))
 refine oBox J ZP (fun b4=>?_)
 refine oBox J ZP (fun b5=>?_)
 refine Zp J (Zn (Za (Zh (Zi (Zz (n:=0) (m:=0) J J J (Zld ?_))))))
 refine oMakeFunc J ?_
 (refine ZC0 rfl ZK (fun w hS=>frame hS ZQ (fun B' hB hS'=>indexFunc_fun hS' p.fFuns A0 c0 (Kd.C_grow hB q0) 52 #[.pointer (some ⟨b4,0,none⟩),.pointer (some ⟨b5,0,none⟩)] (isF file item) ZK (fun B2 w2 x xc hB2 hxK hS2=>bind_Fun1 hS2 x xc hxK))) ?_;rintro ⟨⟩ -)
 refine Zp J (Zza ?_)
 exact ⟨(),trivial,rfl,Lh⟩
theorem bind_neg {B:Base}{w:World}{R:Res}(hS:St B [R] w) (x:Int) :
 CW 93 #[.int .i64 x] w (Ret B (fun _:Unit=>True) (fun _=>.bool (decide (x < -1))) (fun _=>[R])):=by
 refine ZX Tryz.func93 hS ?_
 refine Zh (Zi (Zp J (Zn (Za (Zh (Zi (Zo J (Zx J J (Zzi ?_)))))))))
 exact ⟨(),trivial,rfl,Lh⟩
theorem bind_refs {B:Base}{w:World}{R:Res}(hS:St B [R] w) (l:List Int) (A:Option Addr) (cp:Nat) (hC:(Kd.int .i64).C B.e A l) (most:List Int) (n:Int) (hn:n=(most.length:Int)) (gf:Nat) (lb:Array Value) (hg:goodF Tryz.prog gf=true)
 (hh:∀ B' w (i:Nat),Grow B.e B'.e→i<most.length→St B' [R] w→CW gf (#[]++[Value.int .i64 (i:Int)].toArray++lb) w (Ret B' (fun _:Unit=>True) (fun _=>.int .i64 (most.getD i 0)) (fun _=>[R]))) :
 CW 53 #[.slice A l.length cp,.int .i64 n,.func (.func gf) #[] lb] w (Ret B (fun _:Unit=>True) (fun _=>.int .i64 (refsE l most)) (fun _=>[R])):=by
 subst hn
 have hl:=hC.1
 refine ZX Tryz.func53 hS ?_
 refine Zh (Zi (Zp J (Zn (Za (Zh (Zh (Zi (Zo J (Zv J J (Zo J (Z0 J J (Zo J (ZS (ZT 14) (fun h14=>?_) (fun h14=>?_))))))))))))))
 refine Zr J J J J (Zr J J J J (Zt J J (Zn (Za (wCondT J (Zh (Zi (Zzb ?_))))))))
 exact ⟨(),trivial,by unfold refsE;rw [if_pos (.inl ZO)];rfl,Lh⟩
 refine Zq J J (Zo J (Zq J J ?_))
 (refine ZC0 rfl ZK (fun w hS=>frame hS ZQ (fun B' hB hS'=>Go.Proofs.YtafiabekcekdbaaGreatV.containsFunc_int hS' l A cp (Kd.C_grow hB hC) 93 #[] (fun n=>decide (n < -1)) ZK (fun B2 w2 x hB2 hx hS2=>bind_neg hS2 x))) ?_;rintro ⟨⟩ -)
 refine Zu J J (Zn (Za (wC (fun h17=>?_) (fun h17=>?_))))
 refine Zh (Zi (Zzb ?_))
 exact ⟨(),trivial,by unfold refsE;rw [if_pos (.inr h17)];rfl,Lh⟩
 have hn2:¬ (l.length≠most.length∨l.any (fun n=>decide (n < -1))=true):=by rintro (a | a);exact a ZO;rw [h17] at a;cases a
 refine Zj (Za (Zh (Zh (Zi (Zo J (Zv J J (Zo J (Zn (Za (Zk (wLoop (ι:=Nat) (fun i=>[(2,.func (.func gf) #[] lb),(18,.slice A l.length cp),(19,.int .i64 (l.length:Int)),(20,.int .i64 (i:Int))]) (fun i=>[R]) (fun i=>i≤l.length∧∀ j,j<i→ovr l most j=false) (fun i=>l.length-i) 0 ?_ cv (Leads.has ZQ) ?_)))))))))))
 exact ⟨Nat.zero_le _,fun j hj=>by omega⟩
 rintro i ⟨hi,hs⟩
 try dsimp only
 refine Zh (Zi (Zx J J (Zn (Za (Zh (wC (fun h21=>?_) (fun h21=>?_)))))))
 obtain ⟨x,hx⟩:∃ x,l[i]?=some x:=⟨_,List.getElem?_eq_getElem ZO⟩
 obtain ⟨e1,cs1,hE⟩:=hC.elm hx
 obtain rfl:=(show cs1=[Value.int .i64 x] from hE.K)
 have hov:ovr l most i=(decide (0≤most.getD i 0) && decide (most.getD i 0≤x)):=by unfold ovr;rw [getG hx]
 refine Zj (Za (Zh (Zk (Zh (Zi (Zo J (oIdxE J J (hE) ZO J J ?_)))))))
 have hc23:=(hE).cell
 refine Zlx hc23 ?_
 refine Zp J (Zp J (Zn (Zzp ?_)))
 (refine oCallV rfl rfl rfl hg (fun w hS=>frame hS ZQ (fun B' hB hS'=>hh B' w i hB ZO hS')) ?_;rintro ⟨⟩ -)
 refine Zp J (Zn (Za (Zh (Zi (Zo J (Z2 J J (Zo J (ZS (ZT 30) (fun h30=>?_) (fun h30=>?_)))))))))
 refine Zq J J (Zo J (Zq J J (Zo J (Zq J J (Z2 J J (Zt J J (Zn (Za (wC (fun h34=>?_) (fun h34=>?_))))))))))
 refine Zh (Zi (Zzc ?_))
 exact ⟨(),trivial,by unfold refsE;rw [if_neg hn2,if_pos (List.any_eq_true.2 ⟨i,List.mem_range.2 ZO,by rw [hov,Bool.and_eq_true,decide_eq_true_eq,decide_eq_true_eq];omega⟩)];rfl,Lh⟩
 refine Zj (Zzf ?_)
 refine Zo J (Zn (Za ?_))
 exact ⟨rfl,i+1,⟨by omega,fun j hj=>by
 by_cases e:j=i
 · subst e;rw [hov,Bool.and_eq_false_iff,decide_eq_false_iff_not,decide_eq_false_iff_not];omega
 · exact hs j ZO⟩,by omega,cv,Lh⟩
 refine Zr J J J J (Zr J J J J (Zr J J J J (Zu J J (Zn (Za (wCondF J (Zj (Zzf ?_))))))))
 refine Zo J (Zn (Za ?_))
 exact ⟨rfl,i+1,⟨by omega,fun j hj=>by
 by_cases e:j=i
 · subst e;rw [hov,Bool.and_eq_false_iff,decide_eq_false_iff_not,decide_eq_false_iff_not];omega
 · exact hs j ZO⟩,by omega,cv,Lh⟩
 refine Zm (Zzg ?_)
 obtain rfl:i=l.length:=by omega
 exact ⟨(),trivial,by unfold refsE;rw [if_neg hn2,if_neg (by intro h;obtain ⟨j,hj,hh⟩:=List.any_eq_true.1 h;rw [hs j (List.mem_range.1 hj)] at hh;cases hh)];rfl,Lh⟩
theorem bind_refs2 {B:Base}{w:World}{R1 R2:Res}(hS:St B [R1,R2] w) (l:List Int) (A:Option Addr) (cp:Nat) (hC:(Kd.int .i64).C B.e A l) (most:List Int) (n:Int) (hn:n=(most.length:Int)) (gf:Nat) (lb:Array Value) (hg:goodF Tryz.prog gf=true)
 (hh:∀ B' w (i:Nat),Grow B.e B'.e→i<most.length→St B' [R1,R2] w→CW gf (#[]++[Value.int .i64 (i:Int)].toArray++lb) w (Ret B' (fun _:Unit=>True) (fun _=>.int .i64 (most.getD i 0)) (fun _=>[R1,R2]))) :
 CW 53 #[.slice A l.length cp,.int .i64 n,.func (.func gf) #[] lb] w (Ret B (fun _:Unit=>True) (fun _=>.int .i64 (refsE l most)) (fun _=>[R1,R2])):=by
 refine (bind_refs (R:=bun [R1,R2]) (St.pack (Ψ:=[R1,R2]) hS) l A cp hC most n hn gf lb hg (fun B' w' i hB hi hS'=>(hh B' w' i hB hi hS'.unpack).mono ?_)).mono ?_
 · rintro e w2 ⟨i,hi,he,hw⟩
   exact ⟨i,hi,he,St.pack (Ψ:=[R1,R2]) hw⟩
 · rintro e w2 ⟨i,hi,he,hw⟩
   exact ⟨i,hi,he,hw.unpack⟩
theorem ref24_refs {B:Base}{w:World}(hS:St B [] w) (l:List Int) (A:Option Addr) (cp:Nat) (hC:(Kd.int .i64).C B.e A l) (most:List Int) (A1:Option Addr) (cp1:Nat) (hC1:(Kd.int .i64).C B.e A1 most) :
 CW 58 #[.slice A l.length cp,.slice A1 most.length cp1] w (Ret B (fun _:Unit=>True) (fun _=>.int .i64 (refsE l most)) (fun _=>[])):=by
 have hl:=hC.1
 refine ZX Tryz.func58 hS ?_
 refine Zh (Zi (Zp J (Zn (Za (Zh (Zh (Zi (Zo J (Zv J J (Zo J (Zv J J (Z0 J J (Zn (Za (wC (fun h11=>?_) (fun h11=>?_))))))))))))))))
 refine Zh (Zi (Zzb ?_))
 exact ⟨(),trivial,by unfold refsE;rw [if_pos (.inl ZO)];rfl,Lh⟩
 refine Zj (Za (Zh (Zh (Zi (Zp J (Zn (Za (Zk (wLoop (ι:=Nat) (fun i=>[(0,.slice A l.length cp),(1,.slice A1 most.length cp1),(5,.int .i64 (i:Int))]) (fun i=>[]) (fun i=>i≤l.length∧∀ y ∈ l.take i,decide (y < -1)=false) (fun i=>l.length-i) 0 ?_ cv (Leads.has ZQ) ?_)))))))))
 exact ⟨Nat.zero_le _,by simp⟩
 rintro i ⟨hi,hs⟩
 try dsimp only
 refine Zh (Zh (Zi (Zo J (Zo J (Zv J J (Zx J J (Zn (Za (wC (fun h15=>?_) (fun h15=>?_))))))))))
 obtain ⟨x,hx⟩:∃ x,l[i]?=some x:=⟨_,List.getElem?_eq_getElem ZO⟩
 obtain ⟨e1,cs1,hE⟩:=hC.elm hx
 obtain rfl:=(show cs1=[Value.int .i64 x] from hE.K)
 refine Zj (Za (Zh (Zk (Zh (Zi (Zo J (Zo J (oIdxE J J (hE) ZO J J ?_))))))))
 have hc20:=(hE).cell
 refine Zlx hc20 ?_
 refine Zx J J (Zn (Za (wC (fun h22=>?_) (fun h22=>?_))))
 refine Zh (Zi (Zzc ?_))
 exact ⟨(),trivial,by unfold refsE;rw [if_pos (.inr (List.any_eq_true.2 ⟨x,List.mem_of_getElem? hx,by simpa using h22⟩))];rfl,Lh⟩
 refine Zj (Zzj ?_)
 refine Zp J (Zn (Za ?_))
 exact ⟨rfl,i+1,⟨by omega,take_not (p:=fun y=>decide (y < -1)) hs hx (by simpa using h22)⟩,by omega,cv,Lh⟩
 obtain rfl:i=l.length:=by omega
 rw [List.take_length] at hs
 have hn2:¬ (l.length≠most.length∨l.any (fun n=>decide (n < -1))=true):=by rintro (a | a);exact a ZO;obtain ⟨y,hy,hq⟩:=List.any_eq_true.1 a;rw [hs y hy] at hq;cases hq
 refine Zm (Zb (Zb (Ze (Za (Zh (Zh (Zi (Zp J (Zn (Za (Zk (wLoop (ι:=Nat) (fun i=>[(0,.slice A l.length cp),(1,.slice A1 most.length cp1),(6,.int .i64 (i:Int))]) (fun i=>[]) (fun i=>i≤l.length∧∀ j,j<i→ovr l most j=false) (fun i=>l.length-i) 0 ?_ cv (Leads.has ZQ) ?_))))))))))))
 exact ⟨Nat.zero_le _,fun j hj=>by omega⟩
 rintro i ⟨hi,hs⟩
 try dsimp only
 refine Zh (Zh (Zi (Zo J (Zo J (Zv J J (Zx J J (Zn (Za (wC (fun h26=>?_) (fun h26=>?_))))))))))
 obtain ⟨x,hx⟩:∃ x,l[i]?=some x:=⟨_,List.getElem?_eq_getElem ZO⟩
 obtain ⟨e1,cs1,hE⟩:=hC.elm hx
 obtain rfl:=(show cs1=[Value.int .i64 x] from hE.K)
 obtain ⟨m,hm⟩:∃ x,most[i]?=some x:=⟨_,List.getElem?_eq_getElem ZO⟩
 obtain ⟨e2,cs2,hE2⟩:=hC1.elm hm
 obtain rfl:=(show cs2=[Value.int .i64 m] from hE2.K)
 have hov:ovr l most i=(decide (0≤m) && decide (m≤x)):=by unfold ovr;rw [getG hx,getG hm]
 have hil:i<l.length:=by omega
 have him:i<most.length:=by omega
 refine Zj (Za (Zh (Zk (Zh (wDrawG J [0,1,2,3,4,5,6,7,8,9,10,11,12,13,14,15] [] [] 24 ZK J J (fun w0=>?_))))))
 refine Zo J (Zo J (oIdxE J J (hE2) ZO J J ?_))
 have hc31:=(hE2).cell
 refine Zlx hc31 ?_
 refine Z2 J J (Zo J (ZS (ZT 34) (fun h34=>?_) (fun h34=>?_)))
 refine Zq J J (Zo J (Zq J J (Zo J (Zq J J (oIdxE J J (hE) ZO J J ?_)))))
 have hc37:=(hE).cell
 refine Zq J J (Zlx hc37 ?_)
 refine Zq J J (Zo J (Zq J J (Zo J (Zq J J (oIdxE J J (hE2) ZO J J ?_)))))
 have hc41:=(hE2).cell
 refine Zq J J (Zlx hc41 ?_)
 refine Zq J J (Z2 J J (Zt J J (Z6 (Zn (Za (wC (fun h44=>?_) (fun h44=>?_)))))))
 refine Zh (Zi (Zzc ?_))
 exact ⟨(),trivial,by unfold refsE;rw [if_neg hn2,if_pos (List.any_eq_true.2 ⟨i,List.mem_range.2 ZO,by rw [hov,Bool.and_eq_true,decide_eq_true_eq,decide_eq_true_eq];omega⟩)];rfl,Lh⟩
 refine Zj (Zzj ?_)
 refine Zp J (Zn (Za ?_))
 exact ⟨rfl,i+1,⟨by omega,fun j hj=>by
 by_cases e:j=i
 · subst e;rw [hov,Bool.and_eq_false_iff,decide_eq_false_iff_not,decide_eq_false_iff_not];omega
 · exact hs j ZO⟩,by omega,cv,Lh⟩
 refine Zr J J J J (Zr J J J J (Zr J J J J (Zr J J J J (Zr J J J J (Zr J J J J (Zr J J J J (Zr J J J J (Zr J J J J (Zu J J (Z6 (Zn (Za (wCondF J (Zj (Zzj ?_)))))))))))))))
 refine Zp J (Zn (Za ?_))
 exact ⟨rfl,i+1,⟨by omega,fun j hj=>by
 by_cases e:j=i
 · subst e;rw [hov,Bool.and_eq_false_iff,decide_eq_false_iff_not,decide_eq_false_iff_not];omega
 · exact hs j ZO⟩,by omega,cv,Lh⟩
 refine Zm (Zzg ?_)
 obtain rfl:i=l.length:=by omega
 exact ⟨(),trivial,by unfold refsE;rw [if_neg hn2,if_neg (by intro h;obtain ⟨j,hj,hh⟩:=List.any_eq_true.1 h;rw [hs j (List.mem_range.1 hj)] at hh;cases hh)];rfl,Lh⟩
theorem bind_mostF {B:Base}{w:World}(p:ApiProgram) (A0 A1:Option Addr) (c0 c1 b1 b4:Nat) (f:ApiFun) (F0 F1 F2 F3 F4:Option Addr) (f0 f1 f2 f3 f4:Nat) (hS:St B [blk b4 59 [.int .i64 f.fFile,.int .i64 f.fItem,.string f.fName,.int .i64 f.fF.fClass,.slice F0 f.fF.fKinds.length f0,.int .i64 f.fF.fPad,.bool f.fF.fNosplit,.int .i64 f.fF.fFrom,.int .i64 f.fF.fTo,.slice F1 f.fF.fLines.length f1,.slice F2 f.fF.fCode.length f2,.slice F3 f.fF.fRelocs.length f3,.slice F4 f.fRefs.length f4],blk b1 43 (pcL p A0 c0 A1 c1)] w) (r2:kApiInstr.C B.e F2 f.fF.fCode) (i:Nat) (hi:i<(mostF p f).length) :
 CW 54 #[.int .i64 (i:Int),.pointer (some ⟨b4,0,none⟩),.pointer (some ⟨b1,0,none⟩)] w (Ret B (fun _:Unit=>True) (fun _=>.int .i64 ((mostF p f).getD i 0)) (fun _=>[blk b4 59 [.int .i64 f.fFile,.int .i64 f.fItem,.string f.fName,.int .i64 f.fF.fClass,.slice F0 f.fF.fKinds.length f0,.int .i64 f.fF.fPad,.bool f.fF.fNosplit,.int .i64 f.fF.fFrom,.int .i64 f.fF.fTo,.slice F1 f.fF.fLines.length f1,.slice F2 f.fF.fCode.length f2,.slice F3 f.fF.fRelocs.length f3,.slice F4 f.fRefs.length f4],blk b1 43 (pcL p A0 c0 A1 c1)])):=by
 unfold mostF at hi ⊢
 rw [List.length_map] at hi
 obtain ⟨x,hx⟩:∃ x,f.fF.fCode[i]?=some x:=⟨_,List.getElem?_eq_getElem hi⟩
 rw [mapG hx]
 obtain ⟨e1,cs1,hE⟩:=r2.elm hx
 obtain rfl:=kApiInstr_open hE.K
 refine ZX Tryz.func54 hS ?_
 refine Zh (Zi (Zp J (Zn (Za (Zh (Zh (Zi (Zz (n:=3) (m:=3) J J J (Zz (n:=7) (m:=10) J J J (Zld ?_))))))))))
 refine Zo J (oIdxE J J (hE) ZO J J ?_)
 have hc9:=(hE).cell
 refine ZF (ZT 0) (ZT 0) ?_
 refine Zlx hc9 ?_
 (refine ZC0 rfl ZK (fun w hS=>frame hS ZQ (fun B' hB hS'=>op_Need hS' x.fOp)) ?_;rintro ⟨⟩ -)
 refine Zn (Za (Zk (Zh (Zi (Zy J J (Zp J (Zn (Za (wC (fun h13=>?_) (fun h13=>?_))))))))))
 refine Zh (Zi (Zze ?_))
 exact ⟨(),trivial,by unfold mostI;rw [if_pos h13];rfl,Lh⟩
 refine Zh (Zh (Zi (Zy J J (Zp J (Zn (Za (wC (fun h15=>?_) (fun h15=>?_))))))))
 refine Zj (Za (ZY h15 ?_))
 refine Zh (Zi (Zz (n:=1) (m:=1) J J J (Zld ?_)))
 refine Zv J J (Zze ?_)
 exact ⟨(),trivial,by unfold mostI;rw [if_neg h13,if_pos (by first | exact .inl h15 | exact .inr h15)];rfl,Lh⟩
 refine Zi (Zy J J (Zp J (Zn (Za (wC (fun h15=>?_) (fun h15=>?_))))))
 refine Zh (Zi (Zz (n:=1) (m:=1) J J J (Zld ?_)))
 refine Zv J J (Zze ?_)
 exact ⟨(),trivial,by unfold mostI;rw [if_neg h13,if_pos (by first | exact .inl h15 | exact .inr h15)];rfl,Lh⟩
 refine Zj (Zd (Za (Zh (Zi (Zz (n:=0) (m:=0) J J J (Zld ?_))))))
 refine Zv J J (Zzi ?_)
 exact ⟨(),trivial,by unfold mostI;rw [if_neg h13,if_neg ZO];rfl,Lh⟩
theorem bind_mostD {B:Base}{w:World}(p:ApiProgram) (A0 A1:Option Addr) (c0 c1 b1:Nat) (d:ApiDat) (hS:St B [blk b1 43 (pcL p A0 c0 A1 c1)] w) (i:Nat) (hi:i<(mostD p d).length) :
 CW 56 #[.int .i64 (i:Int),.pointer (some ⟨b1,0,none⟩)] w (Ret B (fun _:Unit=>True) (fun _=>.int .i64 ((mostD p d).getD i 0)) (fun _=>[blk b1 43 (pcL p A0 c0 A1 c1)])):=by
 unfold mostD at hi ⊢
 rw [List.length_map] at hi
 obtain ⟨x,hx⟩:∃ x,d.fD.fWords[i]?=some x:=⟨_,List.getElem?_eq_getElem hi⟩
 rw [mapG hx]
 refine ZX Tryz.func56 hS ?_
 refine Zh (Zi (Zp J (Zn (Za (Zh (Zi (Zz (n:=0) (m:=0) J J J (Zld ?_))))))))
 refine Zv J J (Zzi ?_)
 exact ⟨(),trivial,rfl,Lh⟩
theorem bind_Check {B:Base}{w:World}(hS:St B [] w) (p:ApiProgram) (pc:List Value) (hp:kApiProgram.K B.e p pc) :
    CW 23 #[.agg pc.toArray] w (Ret B (fun _:Unit=>True) (fun _=>.int .i64 (progE p)) (fun _=>[])):=by
  obtain ⟨A0,c0,A1,c1,rfl,m0,q0,m1,q1⟩:=kApiProgram_open hp
  have hl:=q0.1
  have hl1:=q1.1
  refine ZX Tryz.func23 hS ?_
  refine Zh (Zi (oBox J ZP (fun b1=>?_)))
  refine Zp J (Zn (Za (Zh (Zh (Zi (Zz (n:=2) (m:=2) J J J (Zld ?_)))))))
  refine Zx J J (Zo J (ZS (ZT 12) (fun h12=>?_) (fun h12=>?_)))
  refine Zr J J J J (Zr J J J J (Zr J J J J (Zr J J J J (Zr J J J J (Zr J J J J (Zt J J (Zn (Za (wCondT J (Zh (Zi (Zzb ?_))))))))))))
  exact ⟨(),trivial,by unfold progE;rw [if_pos ZO];rfl,Lh⟩
  refine Zq J J (Zz (n:=2) (m:=2) J J J (Zzh ?_))
  refine Zq J J (Zz (n:=0) (m:=0) J J J (Zzh ?_))
  refine Zq J J (Zv J J (Zq J J (Z2 J J (Zu J J (Zn (Za (wC (fun h19=>?_) (fun h19=>?_))))))))
  refine Zh (Zi (Zzb ?_))
  exact ⟨(),trivial,by unfold progE;rw [if_pos ZO];rfl,Lh⟩
  have hen:¬ (p.fEntry<0∨(p.fFuns.length:Int)≤p.fEntry):=by omega
  refine Zj (Za (Zh (Zh (Zi (Zz (n:=0) (m:=0) J J J (Zld ?_))))))
  refine Zv J J (Zo J (Zn (Za (Zk (wLoop (ι:=Nat) (fun i=>[(1,.pointer (some ⟨b1,0,none⟩)),(21,.slice A0 p.fFuns.length c0),(22,.int .i64 (p.fFuns.length:Int)),(23,.int .i64 (i:Int))]) (fun i=>[blk b1 43 (pcL p A0 c0 A1 c1)]) (fun i=>i≤p.fFuns.length∧fstE ((funsE p).take i)=0) (fun i=>p.fFuns.length-i) 0 ?_ cv (Leads.has ZQ) ?_)))))
  exact ⟨Nat.zero_le _,rfl⟩
  rintro i ⟨hi,hs⟩
  try dsimp only
  refine Zh (Zi (Zx J J (Zn (Za (Zh (wC (fun h24=>?_) (fun h24=>?_)))))))
  obtain ⟨f,hx⟩:∃ x,p.fFuns[i]?=some x:=⟨_,List.getElem?_eq_getElem ZO⟩
  obtain ⟨e1,cs1,hE⟩:=q0.elm hx
  obtain ⟨F0,f0,F1,f1,F2,f2,F3,f3,F4,f4,rfl,n0,r0,n1,r1,n2,r2,n3,r3,n4,r4⟩:=kApiFun_open hE.K
  refine Zj (Za (Zh (Zk (Zh (Zi (oIdxE J J (hE) ZO J J ?_))))))
  have hc25:=(hE).cell
  refine Zlx hc25 ?_
  refine oAlloc J ZP (fun b4=>?_)
  refine Zsa ?_
  refine Zn (Za (Zh (Zi (Zz (n:=12) (m:=12) J J J (Zld ?_)))))
  refine Zz (n:=3) (m:=3) J J J (Zz (n:=7) (m:=10) J J J (Zld ?_))
  refine Zv J J (oMakeFunc J ?_)
  (refine ZC0 rfl ZK (fun w hS=>frame hS ZQ (fun B' hB hS'=>bind_refs2 hS' f.fRefs F4 f4 (Kd.C_grow hB r4) (mostF p f) _ (by unfold mostF;rw [List.length_map]) 54 #[.pointer (some ⟨b4,0,none⟩),.pointer (some ⟨b1,0,none⟩)] ZK (fun B2 w2 i hB2 hi hS2=>bind_mostF p A0 A1 c0 c1 b1 b4 f F0 F1 F2 F3 F4 f0 f1 f2 f3 f4 hS2 (Kd.C_grow (hB.trans hB2) r2) i hi))) ?_;rintro ⟨⟩ -)
  refine Zp J (Zn (Za (Zh (Zi (Zo J (Z0 J J (Zn (Za (wC (fun h36=>?_) (fun h36=>?_))))))))))
  refine Zh (Zi (Zo J (Zzc ?_)))
  have hfe:fstE (funsE p)=refsE f.fRefs (mostF p f):=fstE_stop hs (mapA (e:=fun f:ApiFun=>refsE f.fRefs (mostF p f)) hx) h36
  exact ⟨(),trivial,by unfold progE;rw [if_neg hen,hfe,if_pos h36];rfl,Lh⟩
  refine Zj (Zzf ?_)
  refine Zo J (Zn (Za ?_))
  exact ⟨rfl,i+1,⟨by omega,fstE_next hs (mapA (e:=fun f:ApiFun=>refsE f.fRefs (mostF p f)) hx) (Classical.not_not.1 h36)⟩,by omega,cv,Lh⟩
  obtain rfl:i=p.fFuns.length:=by omega
  have hf0 : fstE (funsE p) = 0 := by have : (funsE p).take p.fFuns.length = funsE p := by unfold funsE; rw [← List.length_map (f := fun f : ApiFun => refsE f.fRefs (mostF p f)), List.take_length]
                                      rw [← this]; exact hs
  refine Zm (Zb (Zb (Ze (Za (Zh (Zh (Zi (Zz (n:=1) (m:=1) J J J (Zld ?_)))))))))
  refine Zv J J (Zo J (Zn (Za (Zk (wLoop (ι:=Nat) (fun i=>[(1,.pointer (some ⟨b1,0,none⟩)),(40,.slice A1 p.fDats.length c1),(41,.int .i64 (p.fDats.length:Int)),(42,.int .i64 (i:Int))]) (fun i=>[blk b1 43 (pcL p A0 c0 A1 c1)]) (fun i=>i≤p.fDats.length∧fstE ((datsE p).take i)=0) (fun i=>p.fDats.length-i) 0 ?_ cv (Leads.has ZQ) ?_)))))
  exact ⟨Nat.zero_le _,rfl⟩
  rintro i ⟨hi,hs⟩
  try dsimp only
  refine Zh (Zi (Zx J J (Zn (Za (Zh (wC (fun h43=>?_) (fun h43=>?_)))))))
  obtain ⟨d,hx⟩:∃ x,p.fDats[i]?=some x:=⟨_,List.getElem?_eq_getElem ZO⟩
  obtain ⟨e1,cs1,hE⟩:=q1.elm hx
  obtain ⟨F0,f0,F1,f1,F2,f2,rfl,n0,r0,n1,r1,n2,r2⟩:=kApiDat_open hE.K
  refine Zj (Za (Zh (Zk (Zh (Zi (oIdxE J J (hE) ZO J J ?_))))))
  have hc44:=(hE).cell
  refine Zlx hc44 ?_
  refine oAlloc J ZP (fun b7=>?_)
  refine Zsa ?_
  refine Zn (Za (Zh (Zi (Zz (n:=6) (m:=6) J J J (Zld ?_)))))
  refine Zz (n:=3) (m:=3) J J J (Zz (n:=1) (m:=4) J J J (Zld ?_))
  refine Zv J J (oMakeFunc J ?_)
  (refine ZC0 rfl ZK (fun w hS=>frame hS ZQ (fun B' hB hS'=>bind_refs hS' d.fRefs F2 f2 (Kd.C_grow hB r2) (mostD p d) _ (by unfold mostD;rw [List.length_map]) 56 #[.pointer (some ⟨b1,0,none⟩)] ZK (fun B2 w2 i hB2 hi hS2=>bind_mostD p A0 A1 c0 c1 b1 d hS2 i hi))) ?_;rintro ⟨⟩ -)
  refine Zp J (Zn (Za (Zh (Zi (Zo J (Z0 J J (Zn (Za (wC (fun h55=>?_) (fun h55=>?_))))))))))
  refine Zh (Zi (Zo J (Zzc ?_)))
  have hfe:fstE (datsE p)=refsE d.fRefs (mostD p d):=fstE_stop hs (mapA (e:=fun d:ApiDat=>refsE d.fRefs (mostD p d)) hx) h55
  exact ⟨(),trivial,by unfold progE;rw [if_neg hen,hf0,if_neg (by simp),hfe];rfl,Lh⟩
  refine Zj (Zzf ?_)
  refine Zo J (Zn (Za ?_))
  exact ⟨rfl,i+1,⟨by omega,fstE_next hs (mapA (e:=fun d:ApiDat=>refsE d.fRefs (mostD p d)) hx) (Classical.not_not.1 h55)⟩,by omega,cv,Lh⟩
  refine Zm (Zzg ?_)
  obtain rfl:i=p.fDats.length:=by omega
  have hd0 : fstE (datsE p) = 0 := by have : (datsE p).take p.fDats.length = datsE p := by unfold datsE; rw [← List.length_map (f := fun d : ApiDat => refsE d.fRefs (mostD p d)), List.take_length]
                                      rw [← this]; exact hs
  exact ⟨(),trivial,by unfold progE;rw [if_neg hen,hf0,if_neg (by simp),hd0];rfl,Lh⟩
theorem ref24_Check {B:Base}{w:World}(hS:St B [] w) (p:ApiProgram) (pc:List Value) (hp:kApiProgram.K B.e p pc) (hf:∀ f ∈ p.fFuns,f.fF.fCode.length≤1000) (hd:∀ d ∈ p.fDats,d.fD.fWords.length≤1000) :
    CW 24 #[.agg pc.toArray] w (Ret B (fun _:Unit=>True) (fun _=>.int .i64 (progE p)) (fun _=>[])):=by
  obtain ⟨A0,c0,A1,c1,rfl,m0,q0,m1,q1⟩:=kApiProgram_open hp
  have hl:=q0.1
  have hl1:=q1.1
  refine ZX Tryz.func24 hS ?_
  refine Zh (Zi (oBox J ZP (fun b1=>?_)))
  refine Zp J (Zn (Za (Zh (Zh (Zi (Zz (n:=2) (m:=2) J J J (Zld ?_)))))))
  refine Zx J J (Zo J (ZS (ZT 16) (fun h16=>?_) (fun h16=>?_)))
  refine Zr J J J J (Zr J J J J (Zr J J J J (Zr J J J J (Zr J J J J (Zr J J J J (Zt J J (Zn (Za (wCondT J (Zh (Zi (Zzb ?_))))))))))))
  exact ⟨(),trivial,by unfold progE;rw [if_pos ZO];rfl,Lh⟩
  refine Zq J J (Zz (n:=2) (m:=2) J J J (Zzh ?_))
  refine Zq J J (Zz (n:=0) (m:=0) J J J (Zzh ?_))
  refine Zq J J (Zv J J (Zq J J (Z2 J J (Zu J J (Zn (Za (wC (fun h23=>?_) (fun h23=>?_))))))))
  refine Zh (Zi (Zzb ?_))
  exact ⟨(),trivial,by unfold progE;rw [if_pos ZO];rfl,Lh⟩
  have hen:¬ (p.fEntry<0∨(p.fFuns.length:Int)≤p.fEntry):=by omega
  refine Zj (Za (Zh (Zh (Zi (Zp J (Zn (Za (Zk (wLoop (ι:=Nat) (fun i=>[(1,.pointer (some ⟨b1,0,none⟩)),(3,.int .i64 (i:Int))]) (fun i=>[blk b1 43 (pcL p A0 c0 A1 c1)]) (fun i=>i≤p.fFuns.length∧fstE ((funsE p).take i)=0) (fun i=>p.fFuns.length-i) 0 ?_ cv (Leads.has ZQ) ?_)))))))))
  exact ⟨Nat.zero_le _,rfl⟩
  rintro i ⟨hi,hs⟩
  try dsimp only
  refine Zh (Zh (Zi (Zo J (Zz (n:=0) (m:=0) J J J (Zld ?_)))))
  refine Zv J J (Zx J J (Zn (Za (wC (fun h28=>?_) (fun h28=>?_)))))
  obtain ⟨f,hx⟩:∃ x,p.fFuns[i]?=some x:=⟨_,List.getElem?_eq_getElem ZO⟩
  have hfl:=hf f (List.mem_of_getElem? hx)
  obtain ⟨e1,cs1,hE⟩:=q0.elm hx
  obtain ⟨F0,f0,F1,f1,F2,f2,F3,f3,F4,f4,rfl,n0,r0,n1,r1,n2,r2,n3,r3,n4,r4⟩:=kApiFun_open hE.K
  refine Zj (Za (Zh (Zk (Zh (Zi (Zp J (Zn (Za (Zh (Zh (Zi (Zp J (Zn (Za (Zk (wLoop (ι:=Nat×Option Addr×Nat) (fun x=>[(1,.pointer (some ⟨b1,0,none⟩)),(3,.int .i64 (i:Int)),(4,.slice x.2.1 ((mostF p f).take x.1).length x.2.2),(5,.int .i64 (x.1:Int))]) (fun x=>[blk b1 43 (pcL p A0 c0 A1 c1),row (Kd.int .i64) B.e 3 (.slice x.2.1 ((mostF p f).take x.1).length x.2.2) ((mostF p f).take x.1)]) (fun x=>x.1≤f.fF.fCode.length) (fun x=>f.fF.fCode.length-x.1) (0,none,0) ?_ cv (Leads.nilrow.trans Lh) ?_))))))))))))))))
  exact Nat.zero_le _
  rintro ⟨j,A4,c4⟩ hj
  dsimp only at hj
  have htl:((mostF p f).take j).length≤1000:=by unfold mostF;rw [List.length_take,List.length_map];omega
  try dsimp only
  refine Zh (Zh (Zi (Zo J (Zz (n:=0) (m:=0) J J J (Zld ?_)))))
  refine Zo J (oIdxE J J (hE) ZO J J ?_)
  have hc35:=(hE).cell
  refine ZF (ZT 3) (ZT 3) ?_
  refine ZF (ZT 7) (ZT 10) ?_
  refine Zlx hc35 ?_
  refine Zv J J (Zx J J (Zn (Za (wC (fun h40=>?_) (fun h40=>?_)))))
  obtain ⟨x,hj2⟩:∃ x,f.fF.fCode[j]?=some x:=⟨_,List.getElem?_eq_getElem ZO⟩
  have hmt:(mostF p f).take (j+1)=(mostF p f).take j++[mostI p x.fOp]:=mapT (e:=fun x:ApiInstr=>mostI p x.fOp) hj2
  obtain ⟨e2,cs2,hE2⟩:=r2.elm hj2
  obtain rfl:=kApiInstr_open hE2.K
  refine Zj (Za (Zh (Zk (Zh (Zi (Zz (n:=0) (m:=0) J J J (Zld ?_)))))))
  refine Zv J J (Zp J (Zn (Za (Zh (Zh (Zi (Zz (n:=0) (m:=0) J J J (Zld ?_))))))))
  refine Zo J (oIdxE J J (hE) ZO J J ?_)
  have hc49:=(hE).cell
  refine ZF (ZT 3) (ZT 3) ?_
  refine ZF (ZT 7) (ZT 10) ?_
  refine Zlx hc49 ?_
  refine Zo J (oIdxE J J (hE2) ZO J J ?_)
  have hc54:=(hE2).cell
  refine ZF (ZT 0) (ZT 0) ?_
  refine Zlx hc54 ?_
  (refine ZC0 rfl ZK (fun w hS=>frame hS ZQ (fun B' hB hS'=>ref7_Need hS' x.fOp)) ?_;rintro ⟨⟩ -)
  refine Zp J (Zn (Za (Zh (Zi (Zo J (Zy J J (Zo J (ZS (ZT 60) (fun h60=>?_) (fun h60=>?_)))))))))
  refine Zr J J J J (Zr J J J J (Zt J J (Zn (Za (wCondT J (Zi (Zz (n:=1) (m:=1) J J J (Zld ?_))))))))
  refine Zv J J (Zp J (Zn (Za (Zi (Zo J (Zo J ?_))))))
  refine ZS0 (t:=70) (v':=.int .i64 (mostI p x.fOp)) J (by unfold mostI;rw [if_neg ZO,if_pos ZO]) ?_
  refine oBuildSlice1 J J J J J ZP J (fun b71=>?_)
  refine oApp1 (mostI p x.fOp) J J J J ZP ZP J ZO J (fun g72 cp72=>?_)
  rw [show ((mostF p f).take j).length+1=((mostF p f).take (j+1)).length by rw [hmt,List.length_append];rfl,← hmt]
  refine Zp J (Zn (Zzj ?_))
  refine Zp J (Zn (Za ?_))
  exact ⟨rfl,(j+1,some ⟨g72,0,none⟩,cp72),by show j+1≤_;omega,by show f.fF.fCode.length-(j+1)<f.fF.fCode.length-j;omega,cv,Lh⟩
  refine Zq J J (Zo J (Zq J J (Zy J J (Zu J J (Zn (Za (wC (fun h63=>?_) (fun h63=>?_))))))))
  refine Zi (Zz (n:=1) (m:=1) J J J (Zld ?_))
  refine Zv J J (Zp J (Zn (Za (Zi (Zo J (Zo J ?_))))))
  refine ZS0 (t:=70) (v':=.int .i64 (mostI p x.fOp)) J (by unfold mostI;rw [if_neg ZO,if_pos ZO]) ?_
  refine oBuildSlice1 J J J J J ZP J (fun b71=>?_)
  refine oApp1 (mostI p x.fOp) J J J J ZP ZP J ZO J (fun g72 cp72=>?_)
  rw [show ((mostF p f).take j).length+1=((mostF p f).take (j+1)).length by rw [hmt,List.length_append];rfl,← hmt]
  refine Zp J (Zn (Zzj ?_))
  refine Zp J (Zn (Za ?_))
  exact ⟨rfl,(j+1,some ⟨g72,0,none⟩,cp72),by show j+1≤_;omega,by show f.fF.fCode.length-(j+1)<f.fF.fCode.length-j;omega,cv,Lh⟩
  refine Zh (Zi (Zo J (Zy J J (Zn (Za (wC (fun h68=>?_) (fun h68=>?_)))))))
  refine Zi (Zp J (Zn (Za (Zi (Zo J (Zo J ?_))))))
  refine ZS0 (t:=70) (v':=.int .i64 (mostI p x.fOp)) J (by unfold mostI;rw [if_pos ZO]) ?_
  refine oBuildSlice1 J J J J J ZP J (fun b71=>?_)
  refine oApp1 (mostI p x.fOp) J J J J ZP ZP J ZO J (fun g72 cp72=>?_)
  rw [show ((mostF p f).take j).length+1=((mostF p f).take (j+1)).length by rw [hmt,List.length_append];rfl,← hmt]
  refine Zp J (Zn (Zzj ?_))
  refine Zp J (Zn (Za ?_))
  exact ⟨rfl,(j+1,some ⟨g72,0,none⟩,cp72),by show j+1≤_;omega,by show f.fF.fCode.length-(j+1)<f.fF.fCode.length-j;omega,cv,Lh⟩
  refine Zj (Za (Zi (Zo J (Zo J ?_))))
  refine ZS0 (t:=70) (v':=.int .i64 (mostI p x.fOp)) J (by unfold mostI;rw [if_neg ZO,if_neg ZO]) ?_
  refine oBuildSlice1 J J J J J ZP J (fun b71=>?_)
  refine oApp1 (mostI p x.fOp) J J J J ZP ZP J ZO J (fun g72 cp72=>?_)
  rw [show ((mostF p f).take j).length+1=((mostF p f).take (j+1)).length by rw [hmt,List.length_append];rfl,← hmt]
  refine Zp J (Zn (Zzj ?_))
  refine Zp J (Zn (Za ?_))
  exact ⟨rfl,(j+1,some ⟨g72,0,none⟩,cp72),by show j+1≤_;omega,by show f.fF.fCode.length-(j+1)<f.fF.fCode.length-j;omega,cv,Lh⟩
  obtain rfl:j=f.fF.fCode.length:=by omega
  rw [show (mostF p f).take f.fF.fCode.length=mostF p f by unfold mostF;rw [← List.length_map (f:=fun x:ApiInstr=>mostI p x.fOp),List.take_length]]
  refine Zm (Zb (Zb (Ze (Za (Zh (Zi (Zz (n:=0) (m:=0) J J J (Zld ?_))))))))
  refine Zo J (oIdxE J J (hE) ZO J J ?_)
  have hc76:=(hE).cell
  refine ZF (ZT 12) (ZT 12) ?_
  refine Zlx hc76 ?_
  refine Zo J ?_
  (refine ZD J (fun w B' hB hR hS'=>ref24_refs hS' f.fRefs F4 f4 (Kd.C_grow hB r4) (mostF p f) A4 c4 (row_Cs (W:=B.e) (e:=3) (n:=(mostF p f).length) (cp:=c4) (hR _ _ ZP))) ?_;rintro ⟨⟩ -)
  refine Zp J (Zn (Za (Zh (Zi (Zo J (Z0 J J (Zn (Za (wC (fun h82=>?_) (fun h82=>?_))))))))))
  refine Zh (Zi (Zo J (Zzc ?_)))
  have hfe:fstE (funsE p)=refsE f.fRefs (mostF p f):=fstE_stop hs (mapA (e:=fun f:ApiFun=>refsE f.fRefs (mostF p f)) hx) h82
  exact ⟨(),trivial,by unfold progE;rw [if_neg hen,hfe,if_pos h82];rfl,Lh⟩
  refine Zj (Zzj ?_)
  refine Zp J (Zn (Za ?_))
  exact ⟨rfl,i+1,⟨by omega,fstE_next hs (mapA (e:=fun f:ApiFun=>refsE f.fRefs (mostF p f)) hx) (Classical.not_not.1 h82)⟩,by omega,cv,Lh⟩
  obtain rfl:i=p.fFuns.length:=by omega
  have hf0 : fstE (funsE p) = 0 := by have : (funsE p).take p.fFuns.length = funsE p := by unfold funsE; rw [← List.length_map (f := fun f : ApiFun => refsE f.fRefs (mostF p f)), List.take_length]
                                      rw [← this]; exact hs
  refine Zm (Zb (Zb (Ze (Za (Zh (Zh (Zi (Zp J (Zn (Za (Zk (wLoop (ι:=Nat) (fun i=>[(1,.pointer (some ⟨b1,0,none⟩)),(9,.int .i64 (i:Int))]) (fun i=>[blk b1 43 (pcL p A0 c0 A1 c1)]) (fun i=>i≤p.fDats.length∧fstE ((datsE p).take i)=0) (fun i=>p.fDats.length-i) 0 ?_ cv (Leads.has ZQ) ?_))))))))))))
  exact ⟨Nat.zero_le _,rfl⟩
  rintro i ⟨hi,hs⟩
  try dsimp only
  refine Zh (Zh (Zi (Zo J (Zz (n:=1) (m:=1) J J J (Zld ?_)))))
  refine Zv J J (Zx J J (Zn (Za (wC (fun h88=>?_) (fun h88=>?_)))))
  obtain ⟨d,hx⟩:∃ x,p.fDats[i]?=some x:=⟨_,List.getElem?_eq_getElem ZO⟩
  have hdl:=hd d (List.mem_of_getElem? hx)
  obtain ⟨e1,cs1,hE⟩:=q1.elm hx
  obtain ⟨F0,f0,F1,f1,F2,f2,rfl,n0,r0,n1,r1,n2,r2⟩:=kApiDat_open hE.K
  refine Zj (Za (Zh (Zk (Zh (Zi (Zp J (Zn (Za (Zh (Zh (Zi (Zp J (Zn (Za (Zk (wLoop (ι:=Nat×Option Addr×Nat) (fun x=>[(1,.pointer (some ⟨b1,0,none⟩)),(9,.int .i64 (i:Int)),(10,.slice x.2.1 ((mostD p d).take x.1).length x.2.2),(11,.int .i64 (x.1:Int))]) (fun x=>[blk b1 43 (pcL p A0 c0 A1 c1),row (Kd.int .i64) B.e 3 (.slice x.2.1 ((mostD p d).take x.1).length x.2.2) ((mostD p d).take x.1)]) (fun x=>x.1≤d.fD.fWords.length) (fun x=>d.fD.fWords.length-x.1) (0,none,0) ?_ cv (Leads.nilrow.trans Lh) ?_))))))))))))))))
  exact Nat.zero_le _
  rintro ⟨j,A4,c4⟩ hj
  dsimp only at hj
  have htl:((mostD p d).take j).length≤1000:=by unfold mostD;rw [List.length_take,List.length_map];omega
  try dsimp only
  refine Zh (Zh (Zi (Zo J (Zz (n:=1) (m:=1) J J J (Zld ?_)))))
  refine Zo J (oIdxE J J (hE) ZO J J ?_)
  have hc95:=(hE).cell
  refine ZF (ZT 3) (ZT 3) ?_
  refine ZF (ZT 1) (ZT 4) ?_
  refine Zlx hc95 ?_
  refine Zv J J (Zx J J (Zn (Za (wC (fun h100=>?_) (fun h100=>?_)))))
  obtain ⟨x,hj2⟩:∃ x,d.fD.fWords[j]?=some x:=⟨_,List.getElem?_eq_getElem ZO⟩
  have hmt:(mostD p d).take (j+1)=(mostD p d).take j++[(p.fFuns.length:Int)]:=mapT (e:=fun _:Int=>(p.fFuns.length:Int)) hj2
  refine Zj (Za (Zh (Zk (Zi (Zo J (Zz (n:=0) (m:=0) J J J (Zld ?_)))))))
  refine Zv J J (oBuildSlice1 J J J J J ZP J (fun b107=>?_))
  refine oApp1 (p.fFuns.length:Int) J J J J ZP ZP J ZO J (fun g108 cp108=>?_)
  rw [show ((mostD p d).take j).length+1=((mostD p d).take (j+1)).length by rw [hmt,List.length_append];rfl,← hmt]
  refine Zp J (Zn (Zzj ?_))
  refine Zp J (Zn (Za ?_))
  exact ⟨rfl,(j+1,some ⟨g108,0,none⟩,cp108),by show j+1≤_;omega,by show d.fD.fWords.length-(j+1)<d.fD.fWords.length-j;omega,cv,Lh⟩
  obtain rfl:j=d.fD.fWords.length:=by omega
  rw [show (mostD p d).take d.fD.fWords.length=mostD p d by unfold mostD;rw [← List.length_map (f:=fun _:Int=>(p.fFuns.length:Int)),List.take_length]]
  refine Zm (Zb (Zb (Ze (Za (Zh (Zi (Zz (n:=1) (m:=1) J J J (Zld ?_))))))))
  refine Zo J (oIdxE J J (hE) ZO J J ?_)
  have hc112:=(hE).cell
  refine ZF (ZT 6) (ZT 6) ?_
  refine Zlx hc112 ?_
  refine Zo J ?_
  (refine ZD J (fun w B' hB hR hS'=>ref24_refs hS' d.fRefs F2 f2 (Kd.C_grow hB r2) (mostD p d) A4 c4 (row_Cs (W:=B.e) (e:=3) (n:=(mostD p d).length) (cp:=c4) (hR _ _ ZP))) ?_;rintro ⟨⟩ -)
  refine Zp J (Zn (Za (Zh (Zi (Zo J (Z0 J J (Zn (Za (wC (fun h118=>?_) (fun h118=>?_))))))))))
  refine Zh (Zi (Zo J (Zzc ?_)))
  have hfe:fstE (datsE p)=refsE d.fRefs (mostD p d):=fstE_stop hs (mapA (e:=fun d:ApiDat=>refsE d.fRefs (mostD p d)) hx) h118
  exact ⟨(),trivial,by unfold progE;rw [if_neg hen,hf0,if_neg (by simp),hfe];rfl,Lh⟩
  refine Zj (Zzj ?_)
  refine Zp J (Zn (Za ?_))
  exact ⟨rfl,i+1,⟨by omega,fstE_next hs (mapA (e:=fun d:ApiDat=>refsE d.fRefs (mostD p d)) hx) (Classical.not_not.1 h118)⟩,by omega,cv,Lh⟩
  refine Zm (Zzg ?_)
  obtain rfl:i=p.fDats.length:=by omega
  have hd0 : fstE (datsE p) = 0 := by have : (datsE p).take p.fDats.length = datsE p := by unfold datsE; rw [← List.length_map (f := fun d : ApiDat => refsE d.fRefs (mostD p d)), List.take_length]
                                      rw [← this]; exact hs
  exact ⟨(),trivial,by unfold progE;rw [if_neg hen,hf0,if_neg (by simp),hd0];rfl,Lh⟩
def oneF:ApiFunc:=⟨1,[0,0],0,false,0,0,[],[⟨15,1,0,0,0⟩,⟨24,1,0,0,0⟩],[⟨0,1,true⟩]⟩
def oneD:ApiData:=⟨0,[7],[]⟩
def oneS (x:Int):List ApiSymbol:=[⟨⟨#[109,97,105,110]⟩,false,1,1,0⟩,⟨⟨#[100]⟩,true,2,0,x⟩]
def oneO (x:Int):ApiObject:=⟨oneS x,[oneF],[oneD]⟩
theorem one_K {w:World}{s k c r f w' d:Nat}{x:Int}(h0:(blk s 37 [.string ⟨#[109,97,105,110]⟩,.bool false,.int .i64 1,.int .i64 1,.int .i64 0,.string ⟨#[100]⟩,.bool true,.int .i64 2,.int .i64 0,.int .i64 x]).q w) (h1:(blk k 3 [.int .i64 0,.int .i64 0]).q w) (h2:(blk c 67 [.int .i64 15,.int .i64 1,.int .i64 0,.int .i64 0,.int .i64 0,.int .i64 24,.int .i64 1,.int .i64 0,.int .i64 0,.int .i64 0]).q w) (h3:(blk r 103 [.int .i64 0,.int .i64 1,.bool true]).q w) (h4:(blk f 57 [.int .i64 1,.slice (some ⟨k,0,none⟩) 2 2,.int .i64 0,.bool false,.int .i64 0,.int .i64 0,.slice none 0 0,.slice (some ⟨c,0,none⟩) 2 2,.slice (some ⟨r,0,none⟩) 1 1]).q w) (h5:(blk w' 2 [.int .i64 7]).q w) (h6:(blk d 62 [.int .i64 0,.slice (some ⟨w',0,none⟩) 1 1,.slice none 0 0]).q w):kApiObject.K w (oneO x) [.slice (some ⟨s,0,none⟩) 2 2,.slice (some ⟨f,0,none⟩) 1 1,.slice (some ⟨d,0,none⟩) 1 1]:=
 kApiObject_mk w (oneO x) (A0:=some ⟨s,0,none⟩) (A1:=some ⟨f,0,none⟩) (A2:=some ⟨d,0,none⟩) (c0:=2) (c1:=1) (c2:=1) (by show 2≤2;omega)
  (C_blk (kd:=kApiSymbol) h0 (by show 2≤9223372036854775807;omega) ⟨_,_,rfl,kApiSymbol_mk w ⟨⟨#[109,97,105,110]⟩,false,1,1,0⟩,_,_,rfl,kApiSymbol_mk w ⟨⟨#[100]⟩,true,2,0,x⟩,rfl⟩) (by show 1≤1;omega)
  (C_blk (kd:=kApiFunc) h4 (by show 1≤9223372036854775807;omega) ⟨_,_,rfl,kApiFunc_mk w oneF (c0:=2) (c1:=0) (c2:=2) (c3:=1) (by decide) (C_blk (kd:=Kd.int .i64) h1 (by decide) (cat_scalar.2 rfl)) (by decide) (Kd.C_nil _ _ _) (by decide) (C_blk (kd:=kApiInstr) h2 (by decide) ⟨_,_,rfl,kApiInstr_mk w ⟨15,1,0,0,0⟩,_,_,rfl,kApiInstr_mk w ⟨24,1,0,0,0⟩,rfl⟩) (by decide) (C_blk (kd:=kApiReloc) h3 (by decide) ⟨_,_,rfl,kApiReloc_mk w ⟨0,1,true⟩,rfl⟩),rfl⟩) (by show 1≤1;omega)
  (C_blk (kd:=kApiData) h6 (by show 1≤9223372036854775807;omega) ⟨_,_,rfl,kApiData_mk w oneD (c0:=1) (c1:=0) (by decide) (C_blk (kd:=Kd.int .i64) h5 (by decide) (cat_scalar.2 rfl)) (by decide) (Kd.C_nil _ _ _),rfl⟩)
theorem one_good {x:Int}(hx:in64 x):GoodO (oneO x):=by
 refine ⟨?_,by show 2≤60;omega,by show 1≤20;omega,by show 1≤20;omega,fun f hf=>?_,fun d hd=>?_⟩
 · have s1:(⟨#[109,97,105,110]⟩:ByteArray).size=4:=rfl
   have s2:(⟨#[100]⟩:ByteArray).size=1:=rfl
   unfold vApiObject
   simp [s1,s2,oneO,oneS,oneF,oneD,vApiSymbol,vApiFunc,vApiData,vApiInstr,vApiReloc,vApiLine,in64,maxLen] at hx ⊢
   omega
 · obtain rfl:=List.mem_singleton.1 hf;decide
 · obtain rfl:=List.mem_singleton.1 hd;decide
theorem one_range:rangeF oneF=0:=by
 unfold rangeF
 rw [if_neg]
 rintro ⟨i,hi,hr,-⟩
 have hn:∀ y,¬ RP (rg oneF.fCode) (fromL oneF.fCode (dfrN oneF.fCode)) y:=by
  intro y hy
  induction hy with
  | start h1 h2=>rw [show fromL oneF.fCode (dfrN oneF.fCode)=[] from by decide] at h1;cases h1
  | step h1 h2 ih=>exact ih
 exact hn _ hr
theorem one_fun:funF oneF=0:=by unfold funF codeF;rw [flowF_eq];decide
theorem one_chk:chkE oneF (oneS 0)=0:=by unfold chkE;rw [one_fun];decide
theorem one_syms:symsL (oneO 0)=[0,0]:=by decide
theorem one_it0:itemE (oneO 0) 0=0:=by
 unfold itemE funE
 rw [if_neg (by decide),if_neg (by decide),if_neg (by decide),if_neg (by show ¬ chkE oneF (oneS 0)≠0;rw [one_chk];decide)]
 exact one_range
theorem one_it1:itemE (oneO 0) 1=0:=by
 unfold itemE
 rw [if_neg (by decide),if_pos (by decide),if_neg (by decide)]
 decide
theorem one_its:itsL (oneO 0)=[0,0]:=by
 show [itemE (oneO 0) 0,itemE (oneO 0) 1]=[0,0]
 rw [one_it0,one_it1]
theorem one_E:objE (oneO 0)=0∧objI (oneO 0) = -1:=by
 unfold objE objI
 rw [one_syms,one_its]
 decide
theorem law_One {B:Base}{w:World}(hS:St B [] w) :
 CW 28 #[] w (Ret B (fun _:Nat×Nat×Nat×Nat×Nat×Nat×Nat=>True) (fun z=>.agg #[.slice (some ⟨z.1,0,none⟩) 2 2,.slice (some ⟨z.2.2.2.2.1,0,none⟩) 1 1,.slice (some ⟨z.2.2.2.2.2.2,0,none⟩) 1 1]) (fun z=>[blk z.1 37 [.string ⟨#[109,97,105,110]⟩,.bool false,.int .i64 1,.int .i64 1,.int .i64 0,.string ⟨#[100]⟩,.bool true,.int .i64 2,.int .i64 0,.int .i64 0],blk z.2.1 3 [.int .i64 0,.int .i64 0],blk z.2.2.1 67 [.int .i64 15,.int .i64 1,.int .i64 0,.int .i64 0,.int .i64 0,.int .i64 24,.int .i64 1,.int .i64 0,.int .i64 0,.int .i64 0],blk z.2.2.2.1 103 [.int .i64 0,.int .i64 1,.bool true],blk z.2.2.2.2.1 57 [.int .i64 1,.slice (some ⟨z.2.1,0,none⟩) 2 2,.int .i64 0,.bool false,.int .i64 0,.int .i64 0,.slice none 0 0,.slice (some ⟨z.2.2.1,0,none⟩) 2 2,.slice (some ⟨z.2.2.2.1,0,none⟩) 1 1],blk z.2.2.2.2.2.1 2 [.int .i64 7],blk z.2.2.2.2.2.2 62 [.int .i64 0,.slice (some ⟨z.2.2.2.2.2.1,0,none⟩) 1 1,.slice none 0 0]])):=by
 refine ZX Tryz.func28 hS ?_
 refine Zh (Zi (oAlloc J ZP (fun b0=>?_)))
 refine Zn (Za (Zh (Zi (oBuild (Parts.cons J (Parts.cons J (Parts.cons J Parts.nil))) J J (Built.cons (off:=0) (s:=1) J ZP J ZP (Built.cons (off:=2) (s:=1) J ZP J ZP (Built.cons (off:=3) (s:=1) J ZP J ZP Built.nil))) ?_))))
 refine oBuild (Parts.cons J (Parts.cons J (Parts.cons J Parts.nil))) J J (Built.cons (off:=0) (s:=1) J ZP J ZP (Built.cons (off:=1) (s:=1) J ZP J ZP (Built.cons (off:=2) (s:=1) J ZP J ZP Built.nil))) ?_
 refine oBuildSliceF (Parts.cons J (Parts.cons J Parts.nil)) J J J J J (Fulls.cons ZP J (Fulls.cons ZP J Fulls.nil ap) ap) (fun b3=>?_)
 refine oBuildSliceF (Parts.cons J (Parts.cons J Parts.nil)) J J J J J (Fulls.cons ZP J (Fulls.cons ZP J Fulls.nil ap) ap) (fun b4=>?_)
 refine oBuild (Parts.cons J (Parts.cons J Parts.nil)) J J (Built.cons (off:=0) (s:=1) J ZP J ZP (Built.cons (off:=1) (s:=1) J ZP J ZP Built.nil)) ?_
 refine oBuild (Parts.cons J (Parts.cons J Parts.nil)) J J (Built.cons (off:=0) (s:=1) J ZP J ZP (Built.cons (off:=1) (s:=1) J ZP J ZP Built.nil)) ?_
 refine oBuildSliceF (Parts.cons J (Parts.cons J Parts.nil)) J J J J J (Fulls.cons ZP J (Fulls.cons ZP J Fulls.nil ap) ap) (fun b7=>?_)
 refine oBuild (Parts.cons J (Parts.cons J (Parts.cons J Parts.nil))) J J (Built.cons (off:=0) (s:=1) J ZP J ZP (Built.cons (off:=1) (s:=1) J ZP J ZP (Built.cons (off:=2) (s:=1) J ZP J ZP Built.nil))) ?_
 refine oBuildSlice1 J J J J J ZP J (fun b9=>?_)
 refine oBuild (Parts.cons J (Parts.cons J (Parts.cons J (Parts.cons J Parts.nil)))) J J (Built.cons (off:=0) (s:=1) J ZP J ZP (Built.cons (off:=1) (s:=1) J ZP J ZP (Built.cons (off:=7) (s:=1) J ZP J ZP (Built.cons (off:=8) (s:=1) J ZP J ZP Built.nil)))) ?_
 refine oBuildSlice1 J J J J J ZP J (fun b11=>?_)
 refine oBuildSlice1 J J J J J ZP J (fun b12=>?_)
 refine oBuild (Parts.cons J Parts.nil) J J (Built.cons (off:=1) (s:=1) J ZP J ZP Built.nil) ?_
 refine oBuildSlice1 J J J J J ZP J (fun b14=>?_)
 refine oBuild (Parts.cons J (Parts.cons J (Parts.cons J Parts.nil))) J J (Built.cons (off:=0) (s:=1) J ZP J ZP (Built.cons (off:=1) (s:=1) J ZP J ZP (Built.cons (off:=2) (s:=1) J ZP J ZP Built.nil))) ?_
 refine Zsa ?_
 refine Zn (Za (Zl (Zw (ZI ?_))))
 exact ⟨(b3,b4,b7,b9,b11,b12,b14),trivial,rfl,Lh⟩
abbrev mainB:ByteArray:=⟨#[109,97,105,110]⟩
abbrev dB:ByteArray:=⟨#[100]⟩
def oneFun:ApiFun:=⟨0,0,mainB,oneF,[0,-1]⟩
def oneDat:ApiDat:=⟨0,1,dB,oneD,[-1]⟩
def oneP:ApiProgram:=⟨[oneFun],[oneDat],0⟩
theorem one_chk23:chk23 [oneO 0]=(0,0,0):=by decide
theorem one_wrong:wrongR [oneO 0]=(0,0,0):=by
 unfold wrongR
 rw [if_neg (by decide),idxI_none (by intro y hy;obtain rfl:=List.mem_singleton.1 hy;unfold badB;rw [one_E.1];decide),if_neg (by decide),one_chk23]
theorem one_fnd:fnd [oneO 0] mainB=(0,0,true):=by decide
theorem one_fnd2:fnd [oneO 0] dB=(0,0,false):=by decide
theorem one_bindR:bindR [oneO 0] mainB=(0,0,0):=by
 rw [bind_wr,one_wrong,if_neg (by decide),one_fnd]
 decide
theorem one_bindR2:bindR [oneO 0] dB=(15,-1,-1):=by
 rw [bind_wr,one_wrong,if_neg (by decide),one_fnd2]
 decide
theorem one_bindP:bindP [oneO 0] mainB=oneP:=by
 unfold bindP
 rw [one_bindR,if_pos rfl,one_fnd]
 rfl
theorem one_bindP2:bindP [oneO 0] dB=⟨[],[],0⟩:=by
 unfold bindP
 rw [one_bindR2,if_neg (by decide)]
theorem one_few:FewO [oneO 0]:=by
 refine ⟨by decide,fun o ho=>?_,fun o ho=>?_,fun o ho=>?_,fun o ho f hf=>?_,fun o ho d hd=>?_⟩ <;> obtain rfl:=List.mem_singleton.1 ho
 · decide
 · decide
 · decide
 · obtain rfl:=List.mem_singleton.1 hf;decide
 · obtain rfl:=List.mem_singleton.1 hd;decide
theorem one_vs:∀ o ∈ [oneO 0],vApiObject o:=fun o ho=>by
 obtain rfl:=List.mem_singleton.1 ho
 exact (one_good (by unfold in64;omega)).1
theorem rej_eql (r q:Int×Int×Int) (w:World):(binOp .eql 45 (.agg (rejL r).toArray) (.agg (rejL q).toArray)).run Tryz.prog w=.ok (.bool (decide (r=q))) w:=by
 obtain ⟨a,b,c⟩:=r
 obtain ⟨d,e,f⟩:=q
 simp [go_sem,binOp,Op.equal,Op.maxDepth]
 by_cases h1:a=d
 · subst h1
   by_cases h2:b=e
   · subst h2
     by_cases h3:c=f
     · subst h3;simp
     · simp [h3]
   · simp [h2]
 · simp [h1]
theorem known24 {B:Base}{w:World}(hS:St B [] w) :
 CW 17 #[] w (Ret B (fun _:Unit=>True) (fun _=>.bool true) (fun _=>[])):=by
 refine ZX Tryz.func17 hS ?_
 refine Zh (Zi (Zp J (Zn (Za (Zh (Zi ?_))))))
 (refine ZC0 rfl ZK (fun w hS=>frame hS ZQ (fun B' hB hS'=>law_One hS')) ?_;rintro ⟨x1,x2,x3,x4,x5,x6,x7⟩ -)
 try dsimp only
 refine oBuildSlice1 J J J J J ZP J (fun b7=>?_)
 refine Zp J (Zn (Za (wFreeze [blk x1 37 [.string ⟨#[109,97,105,110]⟩,.bool false,.int .i64 1,.int .i64 1,.int .i64 0,.string ⟨#[100]⟩,.bool true,.int .i64 2,.int .i64 0,.int .i64 0],blk x2 3 [.int .i64 0,.int .i64 0],blk x3 67 [.int .i64 15,.int .i64 1,.int .i64 0,.int .i64 0,.int .i64 0,.int .i64 24,.int .i64 1,.int .i64 0,.int .i64 0,.int .i64 0],blk x4 103 [.int .i64 0,.int .i64 1,.bool true],blk x5 57 [.int .i64 1,.slice (some ⟨x2,0,none⟩) 2 2,.int .i64 0,.bool false,.int .i64 0,.int .i64 0,.slice none 0 0,.slice (some ⟨x3,0,none⟩) 2 2,.slice (some ⟨x4,0,none⟩) 1 1],blk x6 2 [.int .i64 7],blk x7 62 [.int .i64 0,.slice (some ⟨x6,0,none⟩) 1 1,.slice none 0 0],blk b7 26 [.slice (some ⟨x1,0,none⟩) 2 2,.slice (some ⟨x5,0,none⟩) 1 1,.slice (some ⟨x7,0,none⟩) 1 1]] ZQ (fun B1 hB1 hq1=>?_))))
 have hC:kApiObject.C B1.e (some ⟨b7,0,none⟩) [oneO 0]:=C_blk (kd:=kApiObject) (hq1 (blk b7 _ _) _ ZP) (by decide) ⟨_,_,rfl,one_K (x:=0) (s:=x1) (k:=x2) (c:=x3) (r:=x4) (f:=x5) (w':=x6) (d:=x7) (hq1 _ _ ZP) (hq1 _ _ ZP) (hq1 _ _ ZP) (hq1 _ _ ZP) (hq1 _ _ ZP) (hq1 _ _ ZP) (hq1 _ _ ZP),rfl⟩
 refine Zh (Zi (Zo J ?_))
 (refine ZC0 rfl ZK (fun w hS=>frame hS ZQ (fun B' hB hS'=>bind_Bind hS' (some ⟨b7,0,none⟩) 1 [oneO 0] (Kd.C_grow hB hC) one_vs one_few mainB B1.e)) ?_;rintro z hz)
 rw [one_bindP] at hz ⊢
 rw [one_bindR]
 refine Zo J (oExt J ZP ?_)
 refine oExt J ZP ?_
 refine oAlloc J ZP (fun b2=>?_)
 refine oAlloc J ZP (fun b3=>?_)
 refine Zsa ?_
 refine Zsa ?_
 refine Zn (Za (Zzk ?_))
 (refine ZC0 rfl ZK (fun w hS=>frame hS ZQ (fun B' hB hS'=>bind_Bind hS' (some ⟨b7,0,none⟩) 1 [oneO 0] (Kd.C_grow hB hC) one_vs one_few dB B1.e)) ?_;rintro z2 hz2)
 rw [one_bindP2] at hz2 ⊢
 rw [one_bindR2]
 refine Zo J (oExt J ZP ?_)
 refine oExt J ZP ?_
 refine oAlloc J ZP (fun b4=>?_)
 refine oAlloc J ZP (fun b5=>?_)
 refine Zsa ?_
 refine Zsa ?_
 refine Zn (Za (wFreeze [row (kRaw 13) B1.e 59 (.slice z.Af z.rf.length z.cf) z.rf,row (kRaw 7) B1.e 64 (.slice z.Ad z.rd.length z.cd) z.rd,bun z.Ψ] ZQ (fun B2 hB2 hq2=>?_)))
 obtain ⟨k1,k2⟩:=hz _ (hq2 (bun z.Ψ) _ ZP)
 have hp:=PR.K (e:=0) hz (hq2 _ _ ZP) (hq2 _ _ ZP) (hq2 _ _ ZP)
 have q0:=rawrow (kd:=kApiFun) (hq2 (row (kRaw 13) _ _ _ _) _ ZP) rfl k1
 have q1:=rawrow (kd:=kApiDat) (hq2 (row (kRaw 7) _ _ _ _) _ ZP) rfl k2
 have l1:=k1.length
 have l2:=k2.length
 replace l1:z.rf.length=1:=l1
 have lr:oneFun.fRefs.length=2:=rfl
 replace l2:z.rd.length=1:=l2
 obtain ⟨e1,cs1,hE⟩:=q0.elm (i:=0) (u:=oneFun) rfl
 obtain ⟨F0,f0,F1,f1,F2,f2,F3,f3,F4,f4,rfl,n0,r0,n1,r1,n2,r2,n3,r3,n4,r4⟩:=kApiFun_open hE.K
 obtain ⟨e2,cs2,hE2⟩:=r4.elm (i:=0) (u:=0) rfl
 obtain rfl:=(show cs2=[Value.int .i64 0] from hE2.K)
 obtain ⟨e3,cs3,hE3⟩:=r4.elm (i:=1) (u:=-1) rfl
 obtain rfl:=(show cs3=[Value.int .i64 (-1)] from hE3.K)
 obtain ⟨e4,cs4,hE4⟩:=q1.elm (i:=0) (u:=oneDat) rfl
 obtain ⟨G0,g0,G1,g1,G2,g2,rfl,m0,s0,m1,s1,m2,s2⟩:=kApiDat_open hE4.K
 refine Zh (Zi ?_)
 simp only [List.append_eq,List.cons_append,List.nil_append]
 refine Zla ?_
 refine oBuild Parts.nil J J Built.nil (Go.Proofs.YtafiabekcekdbaaGreatS.oBinV (r:=.bool true) J J (fun w=>run_eqGuard_agg w .eql _ _ _ _ _ Tryz.eqGuardType45) (fun w=>rej_eql (0,0,0) (0,0,0) w) ?_)
 refine Zo J (Zq J J (Zz (n:=0) (m:=0) J J J (Zzh ?_)))
 refine Zq J J (Zv J J (Zq J J (Zy J J ?_)))
 refine ZS0 (t:=25) (v':=.bool true) rfl (by first | rfl | decide | (simp;done) | (simp [l1];done) | (simp [l2];done)) ?_
 refine Zt J J (Zo J (Zq J J (Zz (n:=1) (m:=1) J J J (Zzh ?_))))
 refine Zq J J (Zv J J (Zq J J (Zy J J ?_)))
 refine ZS0 (t:=31) (v':=.bool true) rfl (by first | rfl | decide | (simp;done) | (simp [l1];done) | (simp [l2];done)) ?_
 refine Zt J J (Zo J (Zq J J (Zz (n:=0) (m:=0) J J J (Zzh ?_))))
 refine Zq J J ?_
 refine oIdxE rfl rfl (hE) (by rw [l1];decide) rfl rfl ?_
 have hc36:=(hE).cell
 refine Zq J J (ZF (ZT 2) (ZT 2) ?_)
 refine Zq J J (Zlx hc36 ?_)
 refine Zq J J (oSEq J J ?_)
 refine ZS0 (t:=39) (v':=.bool true) rfl (by first | rfl | decide | (simp;done) | (simp [l1];done) | (simp [l2];done)) ?_
 refine Zt J J (Zo J (Zq J J (Zz (n:=0) (m:=0) J J J (Zzh ?_))))
 refine Zq J J ?_
 refine oIdxE rfl rfl (hE) (by rw [l1];decide) rfl rfl ?_
 have hc44:=(hE).cell
 refine Zq J J (ZF (ZT 12) (ZT 12) ?_)
 refine Zq J J (Zlx hc44 ?_)
 refine Zq J J ?_
 refine oIdxE rfl rfl (hE2) (by rw [lr];decide) rfl rfl ?_
 have hc47:=(hE2).cell
 refine Zq J J (Zlx hc47 ?_)
 refine Zq J J (Zy J J ?_)
 refine ZS0 (t:=49) (v':=.bool true) rfl (by first | rfl | decide | (simp;done) | (simp [l1];done) | (simp [l2];done)) ?_
 refine Zt J J (Zo J (Zq J J (Zz (n:=0) (m:=0) J J J (Zzh ?_))))
 refine Zq J J ?_
 refine oIdxE rfl rfl (hE) (by rw [l1];decide) rfl rfl ?_
 have hc54:=(hE).cell
 refine Zq J J (ZF (ZT 12) (ZT 12) ?_)
 refine Zq J J (Zlx hc54 ?_)
 refine Zq J J ?_
 refine oIdxE rfl rfl (hE3) (by rw [lr];decide) rfl rfl ?_
 have hc57:=(hE3).cell
 refine Zq J J (Zlx hc57 ?_)
 refine Zq J J (Zy J J ?_)
 refine ZS0 (t:=59) (v':=.bool true) rfl (by first | rfl | decide | (simp;done) | (simp [l1];done) | (simp [l2];done)) ?_
 refine Zt J J (Zo J (Zq J J (Zz (n:=1) (m:=1) J J J (Zzh ?_))))
 refine Zq J J ?_
 refine oIdxE rfl rfl (hE4) (by rw [l2];decide) rfl rfl ?_
 have hc64:=(hE4).cell
 refine Zq J J (ZF (ZT 1) (ZT 1) ?_)
 refine Zq J J (Zlx hc64 ?_)
 refine Zq J J (Zy J J ?_)
 refine ZS0 (t:=67) (v':=.bool true) rfl (by first | rfl | decide | (simp;done) | (simp [l1];done) | (simp [l2];done)) ?_
 refine Zt J J (Zo J (Zq J J (Zla ?_)))
 refine Zq J J (oBuild (Parts.cons J (Parts.cons J (Parts.cons J Parts.nil))) J J (Built.cons (off:=0) (s:=1) J ZP J ZP (Built.cons (off:=1) (s:=1) J ZP J ZP (Built.cons (off:=2) (s:=1) J ZP J ZP Built.nil))) ?_)
 refine Zq J J (Go.Proofs.YtafiabekcekdbaaGreatS.oBinV (r:=.bool true) J J (fun w=>run_eqGuard_agg w .eql _ _ _ _ _ Tryz.eqGuardType45) (fun w=>rej_eql (15,-1,-1) (15,-1,-1) w) ?_)
 refine Zt J J (Zo J (Zq J J (Zla ?_)))
 refine Zq J J ?_
 (refine ZC0 rfl ZK (fun w hS=>frame hS ZQ (fun B' hB hS'=>bind_Fun hS' oneP _ (gPg hB hp) 0 0)) ?_;rintro ⟨⟩ -)
 refine Zq J J (Zy J J ?_)
 refine ZS0 (t:=77) (v':=.bool true) rfl (by first | rfl | decide | (simp;done) | (simp [l1];done) | (simp [l2];done)) ?_
 refine Zt J J (Zo J (Zq J J (Zla ?_)))
 refine Zq J J ?_
 (refine ZC0 rfl ZK (fun w hS=>frame hS ZQ (fun B' hB hS'=>bind_Fun hS' oneP _ (gPg hB hp) 0 1)) ?_;rintro ⟨⟩ -)
 refine Zq J J (Zy J J ?_)
 refine ZS0 (t:=82) (v':=.bool true) rfl (by first | rfl | decide | (simp;done) | (simp [l1];done) | (simp [l2];done)) ?_
 refine Zt J J (Zo J (Zq J J (Zla ?_)))
 refine Zq J J ?_
 (refine ZC0 rfl ZK (fun w hS=>frame hS ZQ (fun B' hB hS'=>bind_Check hS' oneP _ (gPg hB hp))) ?_;rintro ⟨⟩ -)
 refine Zq J J (Zy J J ?_)
 refine ZS0 (t:=87) (v':=.bool true) rfl (by first | rfl | decide | (simp;done) | (simp [l1];done) | (simp [l2];done)) ?_
 refine Zt J J (Zo J (Zq J J (oBuild Parts.nil J J Built.nil (Zq J J ?_))))
 (refine ZC0 rfl ZK (fun w hS=>frame hS ZQ (fun B' hB hS'=>bind_Check hS' ⟨[],[],0⟩ _ (kApiProgram_mk _ ⟨[],[],0⟩ (c0:=0) (c1:=0) (by decide) (Kd.C_nil _ _ _) (by decide) (Kd.C_nil _ _ _)))) ?_;rintro ⟨⟩ -)
 refine Zq J J (Zy J J ?_)
 refine ZS0 (t:=92) (v':=.bool true) rfl (by first | rfl | decide | (simp;done) | (simp [l1];done) | (simp [l2];done)) ?_
 refine Zt J J (Zzi ?_)
 exact ⟨(),trivial,rfl,Lh⟩
end Go.Proofs.YtafiabekcekdbaaGreatO
namespace Go.Proofs.YtafiabekcekdbaaGreatW
set_option maxRecDepth 100000
set_option maxHeartbeats 4000000
open Go.RowKit Go.Proofs.YtafiabekcekdbaaGreatK Go.Proofs.YtafiabekcekdbaaGreatT Go.Proofs.YtafiabekcekdbaaGreatL Go.Proofs.YtafiabekcekdbaaGreatV Go.Proofs.YtafiabekcekdbaaGreatG

theorem ref24_Few {B:Base}{w:World}(hS:St B [] w) (A:Option Addr) (cp:Nat) (l:List ApiObject) (hC:kApiObject.C B.e A l) :
 CW 16 #[.slice A l.length cp] w (Ret B (fun r:Bool=>r=true→FewO l) (fun r=>.bool r) (fun _=>[])):=by
 have hl:=hC.1
 refine ZX Tryz.func16 hS ?_
 refine Zh (Zi (Zp J (Zn (Za (Zh (Zh (Zi (Zp J (Zn (Za (Zk (wLoop (ι:=Nat) (fun i=>[(0,.slice A l.length cp),(3,.int .i64 (i:Int))]) (fun i=>[]) (fun i=>i≤l.length∧∀ o ∈ l.take i,FewB o) (fun i=>l.length-i) 0 ?_ cv (Leads.has ZQ) ?_))))))))))))
 exact ⟨Nat.zero_le _,by simp⟩
 rintro i ⟨hi,hs⟩
 try dsimp only
 refine Zh (Zh (Zi (Zo J (Zo J (Zv J J (Zx J J (Zn (Za (wC (fun h7=>?_) (fun h7=>?_))))))))))
 obtain ⟨o,ho⟩:∃ o,l[i]?=some o:=⟨_,List.getElem?_eq_getElem ZO⟩
 obtain ⟨e1,cs1,hE⟩:=hC.elm ho
 obtain ⟨B0,d0,B1,d1,B2,d2,rfl,m0,q0,m1,q1,m2,q2⟩:=kApiObject_open hE.K
 refine Zj (Za (Zh (Zk (Zh (Zi (Zo J (Zo J (oIdxE J J (hE) ZO J J ?_))))))))
 have hc12:=(hE).cell
 refine Zlx hc12 ?_
 (refine ZC0 rfl ZK (fun w hS=>frame hS ZQ (fun B' hB hS'=>ref19_Few hS' o _ (kApiObject_mk _ o m0 (Kd.C_grow hB q0) m1 (Kd.C_grow hB q1) m2 (Kd.C_grow hB q2)))) ?_;rintro r14 h14)
 refine Zno ?_
 refine Zn (Za (wC (fun h15=>?_) (fun h15=>?_)))
 refine Zh (Zi (Zzc ?_))
 exact ⟨false,(by intro h;cases h),rfl,Lh⟩
 refine Zj (Zzj ?_)
 refine Zp J (Zn (Za ?_))
 exact ⟨rfl,i+1,⟨by omega,take_all hs ho (h14 (by simp_all))⟩,by omega,cv,Lh⟩
 refine Zm (Zb (Zb (Ze (Za (Zh (Zi (Zo J (Zv J J (oLeq J J (Zzi ?_))))))))))
 obtain rfl:i=l.length:=by omega
 rw [List.take_length] at hs
 exact ⟨_,(by intro h;have:=of_decide_eq_true h;exact ⟨by omega,fun o ho=>(hs o ho).syms,fun o ho=>(hs o ho).funcs,fun o ho=>(hs o ho).datas,fun o ho=>(hs o ho).fun_,fun o ho=>(hs o ho).data⟩),rfl,Lh⟩
end Go.Proofs.YtafiabekcekdbaaGreatW
namespace Go.Proofs.YtafiabekcekdbaaGreatO
set_option maxRecDepth 100000
set_option maxHeartbeats 4000000
open Go.RowKit Go.Proofs.YtafiabekcekdbaaGreatK Go.Proofs.YtafiabekcekdbaaGreatT Go.Proofs.YtafiabekcekdbaaGreatL Go.Proofs.YtafiabekcekdbaaGreatV Go.Proofs.YtafiabekcekdbaaGreatG Go.Proofs.YtafiabekcekdbaaGreatW Go.Proofs.YtafiabekcekdbaaGreatU

theorem funs_mem {l:List ApiObject}{x:ApiFun}(h:x ∈ funsTo l l.length):∃ (i k:Nat) (o:ApiObject) (f:ApiFunc),l[i]?=some o∧o.fFuncs[k]?=some f∧x=⟨(i:Int),(k:Int),nameI o (k:Int),f,boundL l i (symsF f)⟩:=by
 unfold funsTo at h
 obtain ⟨q,hq,hx⟩:=List.mem_flatten.1 h
 obtain ⟨i,hi,rfl⟩:=List.mem_map.1 hq
 have hi:=List.mem_range.1 hi
 have ho:l[i]?=some l[i]:=List.getElem?_eq_getElem hi
 unfold fileFuns at hx
 rw [objAt_eq ho] at hx
 obtain ⟨k,hk,rfl⟩:=List.mem_map.1 hx
 have hk:=List.mem_range.1 hk
 have hf:l[i].fFuncs[k]?=some l[i].fFuncs[k]:=List.getElem?_eq_getElem hk
 have hfg:funAt l i k=l[i].fFuncs[k]:=by unfold funAt;rw [objAt_eq ho,List.getD_eq_getElem?_getD,hf];rfl
 exact ⟨i,k,_,_,ho,hf,by unfold mkFun;rw [objAt_eq ho,hfg]⟩
theorem dats_mem {l:List ApiObject}{x:ApiDat}(h:x ∈ datsTo l l.length):∃ (i k:Nat) (o:ApiObject) (d:ApiData),l[i]?=some o∧o.fDatas[k]?=some d∧x=⟨(i:Int),((o.fFuncs.length+k:Nat):Int),nameI o ((o.fFuncs.length+k:Nat):Int),d,boundL l i (refsD d)⟩:=by
 unfold datsTo at h
 obtain ⟨q,hq,hx⟩:=List.mem_flatten.1 h
 obtain ⟨i,hi,rfl⟩:=List.mem_map.1 hq
 have hi:=List.mem_range.1 hi
 have ho:l[i]?=some l[i]:=List.getElem?_eq_getElem hi
 unfold fileDats at hx
 rw [objAt_eq ho] at hx
 obtain ⟨k,hk,rfl⟩:=List.mem_map.1 hx
 have hk:=List.mem_range.1 hk
 have hd:l[i].fDatas[k]?=some l[i].fDatas[k]:=List.getElem?_eq_getElem hk
 have hdg:datAt l i k=l[i].fDatas[k]:=by unfold datAt;rw [objAt_eq ho,List.getD_eq_getElem?_getD,hd];rfl
 exact ⟨i,k,_,_,ho,hd,by unfold mkDat;rw [objAt_eq ho,hdg]⟩
theorem zip_mem {α β γ:Type}{m:α→β→γ}{a:List α}{b:List β}{x:γ}(h:x ∈ List.zipWith m a b):∃ u ∈ a,∃ v ∈ b,x=m u v:=by
 obtain ⟨i,hi,rfl⟩:=List.mem_iff_getElem.1 h
 rw [List.length_zipWith] at hi
 exact ⟨a[i],List.getElem_mem ZO,b[i],List.getElem_mem ZO,by rw [List.getElem_zipWith]⟩
structure SmT (ft:List FunT) (dt:List DatT):Prop where
  f:∀ t ∈ ft,t.2.2.2.1.fCode.length≤1000
  d:∀ t ∈ dt,t.2.2.2.1.fWords.length≤1000
theorem SmT.set {ft:List FunT}{dt:List DatT}(h:SmT ft dt) {t:FunT}{i:Nat}(ht:ft[i]?=some t) (u:Hdr):SmT (ft.set i (t.1,t.2.1,t.2.2.1,t.2.2.2.1,u)) dt:=⟨fun x hx=>by
 rcases List.mem_or_eq_of_mem_set hx with h1 | rfl
 · exact h.f x h1
 · exact h.f t (List.mem_of_getElem? ht),h.d⟩
theorem SmT.p {z:PZ}(h:SmT z.ft z.dt) (e:Int):(∀ f ∈ (z.prog e).fFuns,f.fF.fCode.length≤1000)∧∀ d ∈ (z.prog e).fDats,d.fD.fWords.length≤1000:=by
 constructor
 · intro f hf
   obtain ⟨u,hu,v,_,rfl⟩:=zip_mem hf
   exact h.f u hu
 · intro f hf
   obtain ⟨u,hu,v,_,rfl⟩:=zip_mem hf
   exact h.d u hu
theorem set_same {α:Type}{l:List α}{i:Nat}{u:α}(h:l[i]?=some u):l.set i u=l:=by
 obtain ⟨hi,rfl⟩:=List.getElem?_eq_some_iff.1 h
 simp
theorem defines_same {o:ApiObject}{x y:ApiSymbol}{i:Int}(h:definesF o i x=true) (h':definesF o i y=true):y.fSort=x.fSort∧y.fDef=x.fDef:=by
 unfold definesF at h h'
 split at h
 · cases h
 split at h <;> rename_i hn hl <;> rw [if_neg hn] at h'
 · rw [if_pos hl] at h';simp only [Bool.and_eq_true,decide_eq_true_eq] at h h';omega
 · rw [if_neg hl] at h';simp only [Bool.and_eq_true,decide_eq_true_eq] at h h';omega
theorem definer_is {o:ApiObject}{i:Int}{k:Nat}{x:ApiSymbol}(hx:o.fSymbols[k]?=some x) (h:definerF o i=(k:Int)):definesF o i x=true:=by
 obtain ⟨k',x',h1,h2,h3⟩:=definer_at (show 0≤definerF o i by omega)
 obtain rfl:k'=k:=by omega
 rw [hx] at h2
 obtain rfl:=Option.some.inj h2
 exact h3
theorem obj_zero {o:ApiObject}(h:objE o=0):(∀ k,k<o.fSymbols.length→symE o k=0)∧∀ i,i<o.fFuncs.length+o.fDatas.length→itemE o i=0:=by
 unfold objE at h
 split at h
 · omega
 · by_cases h2:fstE (symsL o)=0
   · rw [if_neg (by rw [h2];simp)] at h
     refine ⟨fun k hk=>fstE_zero.1 h2 _ (List.mem_map.2 ⟨k,List.mem_range.2 hk,rfl⟩),fun i hi=>fstE_zero.1 h _ (List.mem_map.2 ⟨i,List.mem_range.2 hi,rfl⟩)⟩
   · rw [if_pos h2] at h;exact absurd h h2
theorem symX_zero {o:ApiObject}{i:Nat}{x:ApiSymbol}(h:symX o i x=0):kindB x=false∧(x.fDef = -1∨(x.fDef=(aheadN x (o.fSymbols.take i):Int)∧x.fDef<(mostN o x:Int))):=by
 unfold symX at h
 split at h
 · omega
 split at h
 · omega
 split at h
 · omega
 split at h
 · omega
 · rename_i h1 h2 h3 h4
   exact ⟨by simpa using h2,by omega⟩
theorem ahead_mono (x:ApiSymbol) (l:List ApiSymbol) {j k:Nat}(h:j≤k):aheadN x (l.take j)≤aheadN x (l.take k):=by
 unfold aheadN
 have e:l.take j=(l.take k).take j:=by rw [List.take_take,Nat.min_eq_left h]
 rw [e]
 exact ((List.take_sublist j (l.take k)).filter _).length_le
theorem sym_item {o:ApiObject}(h:objE o=0) {k:Nat}{x:ApiSymbol}(hx:o.fSymbols[k]?=some x) (hd:0≤x.fDef):∃ i:Nat,i<o.fFuncs.length+o.fDatas.length∧definerF o (i:Int)=(k:Int):=by
 have hkl:=(List.getElem?_eq_some_iff.1 hx).1
 obtain ⟨hs,-⟩:=obj_zero h
 have h1:=hs k hkl
 rw [symE_at hx] at h1
 obtain ⟨hkb,hdf⟩:=symX_zero h1
 have hdf:x.fDef=(aheadN x (o.fSymbols.take k):Int)∧x.fDef<(mostN o x:Int):=by omega
 have hsort:x.fSort=1∨x.fSort=2:=by
  unfold kindB at hkb
  simp only [Bool.or_eq_false_iff,Bool.and_eq_false_iff,decide_eq_false_iff_not] at hkb
  omega
 obtain ⟨n,hn⟩:=Int.eq_ofNat_of_zero_le hd
 have hm:=hdf.2
 unfold mostN at hm
 obtain ⟨i,hi,hp⟩:∃ i:Nat,i<o.fFuncs.length+o.fDatas.length∧definesF o (i:Int) x=true:=by
  rcases hsort with e | e
  · rw [if_neg ZO] at hm
    refine ⟨n,by omega,?_⟩
    unfold definesF itemsF
    rw [if_neg ZO,if_pos ZO,decide_eq_true e,decide_eq_true hn];rfl
  · rw [if_pos e] at hm
    refine ⟨o.fFuncs.length+n,by omega,?_⟩
    unfold definesF itemsF
    rw [if_neg ZO,if_neg ZO,decide_eq_true e,decide_eq_true (show x.fDef=((o.fFuncs.length+n:Nat):Int)-(o.fFuncs.length:Int) by omega)];rfl
 refine ⟨i,hi,idxI_stop (fun y hy=>?_) hx hp⟩
 rw [Bool.eq_false_iff]
 intro hpy
 obtain ⟨j,hj⟩:=List.mem_iff_getElem?.1 hy
 have hjk:j<k:=by
  have:=(List.getElem?_eq_some_iff.1 hj).1
  rw [List.length_take] at this;omega
 rw [List.getElem?_take,if_pos hjk] at hj
 obtain ⟨es,ed⟩:=defines_same hp hpy
 have h2:=hs j ZO
 rw [symE_at hj] at h2
 have h3:=(symX_zero h2).2
 have h4:aheadN y (o.fSymbols.take j)=aheadN x (o.fSymbols.take j):=by unfold aheadN aheadP;rw [es]
 have h5:=ahead_mono x o.fSymbols (show j+1≤k by omega)
 rw [ahead_succ x hj,if_pos (by unfold aheadP;rw [decide_eq_true es,decide_eq_true (show y.fDef≠-1 by omega)];rfl)] at h5
 omega
theorem funsTo_at {l:List ApiObject}{i j:Nat}{o:ApiObject}(ho:l[i]?=some o) (hj:j<o.fFuncs.length):∀ n,i<n→(funsTo l n)[sumO true l i+j]?=some (mkFun l i j)
 | 0,h=>by omega
 | n+1,h=>by
  rw [funsTo_succ]
  by_cases e:i=n
  · subst e
    rw [List.getElem?_append_right (by rw [funsTo_len];omega),funsTo_len,show sumO true l i+j-sumO true l i=j by omega]
    unfold fileFuns
    rw [objAt_eq ho,List.getElem?_map,List.getElem?_range hj];rfl
  · have ih:=funsTo_at ho hj n ZO
    rw [List.getElem?_append_left (List.getElem?_eq_some_iff.1 ih).1,ih]
theorem datsTo_at {l:List ApiObject}{i j:Nat}{o:ApiObject}(ho:l[i]?=some o) (hj:j<o.fDatas.length):∀ n,i<n→(datsTo l n)[sumO false l i+j]?=some (mkDat l i j)
 | 0,h=>by omega
 | n+1,h=>by
  rw [datsTo_succ]
  by_cases e:i=n
  · subst e
    rw [List.getElem?_append_right (by rw [datsTo_len];omega),datsTo_len,show sumO false l i+j-sumO false l i=j by omega]
    unfold fileDats
    rw [objAt_eq ho,List.getElem?_map,List.getElem?_range hj];rfl
  · have ih:=datsTo_at ho hj n ZO
    rw [List.getElem?_append_left (List.getElem?_eq_some_iff.1 ih).1,ih]
theorem def_fun {o:ApiObject}(h:objE o=0) {k:Nat}{x:ApiSymbol}(hx:o.fSymbols[k]?=some x) (h0:0≤x.fDef) (hs:x.fSort=1):∃ (n:Nat) (g:ApiFunc),x.fDef=(n:Int)∧o.fFuncs[n]?=some g∧g.fClass=x.fKind:=by
 obtain ⟨i,hi,hp⟩:=sym_item h hx h0
 have hd:=definer_is hx hp
 unfold definesF at hd
 split at hd
 · cases hd
 split at hd
 · next h1 h2=>
   simp only [Bool.and_eq_true,decide_eq_true_eq] at hd
   have hf:o.fFuncs[i]?=some o.fFuncs[i]:=List.getElem?_eq_getElem ZO
   refine ⟨i,_,hd.2,hf,?_⟩
   rw [(item_fun ((obj_zero h).2 i hi) hf).2.1]
   unfold dKind
   rw [hp,Int.toNat_natCast,List.getD_eq_getElem?_getD,hx];rfl
 · simp only [Bool.and_eq_true,decide_eq_true_eq] at hd
   omega
theorem def_dat {o:ApiObject}(h:objE o=0) {k:Nat}{x:ApiSymbol}(hx:o.fSymbols[k]?=some x) (h0:0≤x.fDef) (hs:x.fSort=2):∃ (n:Nat) (d:ApiData),x.fDef=(n:Int)∧o.fDatas[n]?=some d∧d.fKind=x.fKind:=by
 obtain ⟨i,hi,hp⟩:=sym_item h hx h0
 have hd:=definer_is hx hp
 unfold definesF at hd
 split at hd
 · cases hd
 split at hd
 · simp only [Bool.and_eq_true,decide_eq_true_eq] at hd
   omega
 · next h1 h2=>
   simp only [Bool.and_eq_true,decide_eq_true_eq] at hd
   obtain ⟨n,rfl⟩:∃ n,i=o.fFuncs.length+n:=⟨i-o.fFuncs.length,by omega⟩
   have hf:o.fDatas[n]?=some o.fDatas[n]:=List.getElem?_eq_getElem ZO
   refine ⟨n,_,by omega,hf,?_⟩
   rw [(item_dat ((obj_zero h).2 _ hi) hf).2.1]
   unfold dKind
   rw [hp,Int.toNat_natCast,List.getD_eq_getElem?_getD,hx];rfl
theorem tgt_fun {l:List ApiObject}(hok:OkL l) {i k:Nat}{o:ApiObject}{x:ApiSymbol}(ho:l[i]?=some o) (hx:o.fSymbols[k]?=some x) (hs:x.fSort=1):∃ (n:Nat) (g:ApiFun),numberF l i k=(n:Int)∧(funsTo l l.length)[n]?=some g∧g.fF.fClass=x.fKind:=by
 obtain ⟨i2,k2,o2,y,e,ho2,hy,hd,es,ek⟩:=bnd_ok hok.chk ho hx
 have hz:=hok.objs o2 (List.mem_of_getElem? ho2)
 have h1:=sym_zero ((obj_zero hz).1 k2 (List.getElem?_eq_some_iff.1 hy).1) hy
 obtain ⟨n,g,hn,hg,hc⟩:=def_fun hz hy ZO ZO
 have hgl:=(List.getElem?_eq_some_iff.1 hg).1
 refine ⟨sumO true l i2+n,mkFun l i2 n,?_,funsTo_at ho2 hgl _ (List.getElem?_eq_some_iff.1 ho2).1,?_⟩
 · unfold numberF
   rw [e]
   dsimp only
   rw [symOf_eq ho2 hy,hn,es,hs,Int.toNat_natCast]
   simp only [decide_true]
   omega
 · unfold mkFun funAt
   rw [objAt_eq ho2,List.getD_eq_getElem?_getD,hg]
   show g.fClass=_
   omega
theorem tgt_dat {l:List ApiObject}(hok:OkL l) {i k:Nat}{o:ApiObject}{x:ApiSymbol}(ho:l[i]?=some o) (hx:o.fSymbols[k]?=some x) (hs:x.fSort=2):∃ (n:Nat) (g:ApiDat),numberF l i k=(n:Int)∧(datsTo l l.length)[n]?=some g∧g.fD.fKind=x.fKind:=by
 obtain ⟨i2,k2,o2,y,e,ho2,hy,hd,es,ek⟩:=bnd_ok hok.chk ho hx
 have hz:=hok.objs o2 (List.mem_of_getElem? ho2)
 have h1:=sym_zero ((obj_zero hz).1 k2 (List.getElem?_eq_some_iff.1 hy).1) hy
 obtain ⟨n,g,hn,hg,hc⟩:=def_dat hz hy ZO ZO
 have hgl:=(List.getElem?_eq_some_iff.1 hg).1
 refine ⟨sumO false l i2+n,mkDat l i2 n,?_,datsTo_at ho2 hgl _ (List.getElem?_eq_some_iff.1 ho2).1,?_⟩
 · unfold numberF
   rw [e]
   dsimp only
   rw [symOf_eq ho2 hy,hn,es,hs,Int.toNat_natCast]
   simp only [show decide ((2:Int)=1)=false from rfl]
   omega
 · unfold mkDat datAt
   rw [objAt_eq ho2,List.getD_eq_getElem?_getD,hg]
   show g.fKind=_
   omega
theorem sym_isC {o:ApiObject}{k:Nat}{x:ApiSymbol}(h:symE o k=0) (hx:o.fSymbols[k]?=some x) (hs:x.fSort=1):0≤x.fKind∧x.fKind<8:=by
 rw [symE_at hx] at h
 have h1:=(symX_zero h).1
 unfold kindB at h1
 rw [hs] at h1
 simp at h1
 exact isC_iff.1 h1
theorem code_ref {f:ApiFunc}{l:List ApiSymbol}(h:chkE f l=0) {j:Nat}{x:ApiInstr}(hx:f.fCode[j]?=some x) (hn:needF x.fOp≠0):∃ (m:Nat) (y:ApiSymbol),symF f (j:Int)=(m:Int)∧l[m]?=some y∧symAtF f l (j:Int)=y∧fitsF (needF x.fOp) y=true:=by
 have hjl:=(List.getElem?_eq_some_iff.1 hx).1
 have hr:=ref_zero h hjl
 have hc:codeAt f (j:Int)=x:=by unfold codeAt;rw [Int.toNat_natCast,List.getD_eq_getElem?_getD,hx];rfl
 unfold refE at hr
 rw [hc] at hr
 split at hr
 · next h1=>exact absurd h1.1 hn
 · split at hr
   · exact absurd hr (by decide)
   · next h2=>
     obtain ⟨m,hm⟩:=Int.eq_ofNat_of_zero_le (show 0≤symF f (j:Int) by omega)
     have hml:m<l.length:=by omega
     have hy:symAtF f l (j:Int)=l[m]:=by unfold symAtF;rw [hm,Int.toNat_natCast,List.getD_eq_getElem?_getD,List.getElem?_eq_getElem hml];rfl
     refine ⟨m,l[m],hm,List.getElem?_eq_getElem hml,hy,?_⟩
     rw [hy] at hr
     split at hr
     · next h3=>exact h3
     · exact absurd hr (by decide)
theorem data_ref {d:ApiData}{l:List ApiSymbol}(h:dataF d l=0):∀ s ∈ refsD d,s = -1∨∃ (m:Nat) (y:ApiSymbol),s=(m:Int)∧l[m]?=some y∧y.fSort=1∧y.fKind=d.fKind-1:=by
 intro s hs
 by_cases h0:s<0
 · exact .inl (refs_neg h s hs h0)
 · right
   have hlt:=refs_in h s hs ZO
   obtain ⟨m,rfl⟩:=Int.eq_ofNat_of_zero_le (show 0≤s by omega)
   have hml:m<l.length:=by omega
   refine ⟨m,l[m],rfl,List.getElem?_eq_getElem hml,?_⟩
   obtain ⟨q,hq,hqe⟩:=List.mem_map.1 hs
   obtain ⟨i,hi,rfl⟩:=List.mem_map.1 hq
   unfold refD at hqe
   split at hqe
   · next h1=>
     obtain ⟨k,x,hk,hx,hp⟩:=idxI_at h1
     rw [hk,Int.toNat_natCast,List.getD_eq_getElem?_getD,hx] at hqe
     have hkl:=(List.getElem?_eq_some_iff.1 hx).1
     unfold dataF at h
     split at h
     · exact absurd h (by decide)
     · split at h
       · exact absurd h (by decide)
       · split at h
         · exact absurd h (by decide)
         · have hr:relE d l k=0:=fstE_zero.1 h _ (List.mem_map.2 ⟨k,List.mem_range.2 hkl,rfl⟩)
           rw [relE_at hx] at hr
           unfold dRelE at hr
           split at hr
           · exact absurd hr (by decide)
           · split at hr
             · exact absurd hr (by decide)
             · next h3=>
               have e:x.fSym=(m:Int):=hqe
               rw [e,Int.toNat_natCast,List.getD_eq_getElem?_getD,List.getElem?_eq_getElem hml] at h3
               exact ⟨by simpa using (fun h4=>h3 (.inl h4):¬ _),by simpa using (fun h4=>h3 (.inr h4):¬ _)⟩
   · omega
theorem bound_num {l:List ApiObject}{i m:Nat}{s:Int}(h:s=(m:Int)):boundE l i s=numberF l i m:=by
 unfold boundE;rw [if_pos ZO,h]
theorem bound_neg {l:List ApiObject}{i:Nat} : boundE l i (-1) = -1:=by
 unfold boundE;rw [if_neg ZO]
theorem code_num {l:List ApiObject}(hok:OkL l) {i k:Nat}{o:ApiObject}{f:ApiFunc}(ho:l[i]?=some o) (hf:o.fFuncs[k]?=some f) {j:Nat}{x:ApiInstr}(hx:f.fCode[j]?=some x) (hn:needF x.fOp≠0) :
 ∃ (n:Nat) (y:ApiSymbol),boundE l i (symF f (j:Int))=(n:Int)∧symAtF f o.fSymbols (j:Int)=y∧y ∈ o.fSymbols∧0≤symF f (j:Int)∧symF f (j:Int)<(o.fSymbols.length:Int)∧fitsF (needF x.fOp) y=true∧
  (if needF x.fOp=3∨needF x.fOp=4 then y.fSort=2∧∃ d,(datsTo l l.length)[n]?=some d∧d.fD.fKind=y.fKind else y.fSort=1∧∃ g,(funsTo l l.length)[n]?=some g∧g.fF.fClass=y.fKind):=by
 have hkl:=(List.getElem?_eq_some_iff.1 hf).1
 have hc:=(item_fun ((obj_zero (hok.objs o (List.mem_of_getElem? ho))).2 k ZO) hf).2.2.1
 obtain ⟨m,y,hm,hy,hsy,hfit⟩:=code_ref hc hx hn
 have hml:=(List.getElem?_eq_some_iff.1 hy).1
 have hfit':=hfit
 unfold fitsF at hfit'
 by_cases h3:needF x.fOp=3∨needF x.fOp=4
 · have hs : y.fSort = 2 := by
    rcases h3 with e | e
    · rw [if_pos e] at hfit';simp only [Bool.and_eq_true,decide_eq_true_eq] at hfit';exact hfit'.1
    · rw [if_neg ZO,if_pos e] at hfit';simp only [Bool.and_eq_true,decide_eq_true_eq] at hfit';exact hfit'.1
   obtain ⟨n,d,hnum,hd,hk⟩:=tgt_dat hok ho hy hs
   refine ⟨n,y,by rw [bound_num hm,hnum],hsy,List.mem_of_getElem? hy,by omega,by omega,hfit,?_⟩
   rw [if_pos h3]
   exact ⟨hs,d,hd,hk⟩
 · have hs : y.fSort = 1 := by
    rw [if_neg ZO,if_neg ZO] at hfit';exact of_decide_eq_true hfit'
   obtain ⟨n,d,hnum,hd,hk⟩:=tgt_fun hok ho hy hs
   refine ⟨n,y,by rw [bound_num hm,hnum],hsy,List.mem_of_getElem? hy,by omega,by omega,hfit,?_⟩
   rw [if_neg h3]
   exact ⟨hs,d,hd,hk⟩
theorem code_none {f:ApiFunc}{l:List ApiSymbol}(h:chkE f l=0) {j:Nat}{x:ApiInstr}(hx:f.fCode[j]?=some x) (hn:needF x.fOp=0):symF f (j:Int) = -1:=by
 have hr:=ref_zero h (List.getElem?_eq_some_iff.1 hx).1
 have hc:codeAt f (j:Int)=x:=by unfold codeAt;rw [Int.toNat_natCast,List.getD_eq_getElem?_getD,hx];rfl
 unfold refE at hr
 rw [hc] at hr
 split at hr
 · next h1=>unfold symF;rw [if_pos h1.2]
 · rw [if_pos (.inl hn)] at hr
   exact absurd hr (by decide)
theorem refs_ok {l most:List Int}(hl:l.length=most.length) (h:∀ j,j<l.length→-1≤l.getD j 0∧(0≤most.getD j 0→l.getD j 0<most.getD j 0)):refsE l most=0:=by
 unfold refsE
 rw [if_neg,if_neg]
 · intro hh
   obtain ⟨j,hj,ho⟩:=List.any_eq_true.1 hh
   unfold ovr at ho
   simp only [Bool.and_eq_true,decide_eq_true_eq] at ho
   have:=(h j (List.mem_range.1 hj)).2 ho.1
   omega
 · rintro (h1 | h1)
   · exact h1 hl
   · obtain ⟨y,hy,hh⟩:=List.any_eq_true.1 h1
     obtain ⟨j,hj,rfl⟩:=List.mem_iff_getElem.1 hy
     have:=(h j hj).1
     rw [List.getD_eq_getElem?_getD,List.getElem?_eq_getElem hj] at this
     have hh:=of_decide_eq_true hh
     simp only [Option.getD_some] at this
     omega
theorem symsF_at {f:ApiFunc}{j:Nat}(hj:j<f.fCode.length):(symsF f)[j]?=some (symF f (j:Int)):=rmap_at (e:=fun j:Nat=>symF f (j:Int)) hj
theorem bound_at {l:List ApiObject}{i:Int}{f:ApiFunc}{j:Nat}(hj:j<f.fCode.length):(boundL l i (symsF f))[j]?=some (boundE l i (symF f (j:Int))):=boundL_at (symsF_at hj)
theorem bind_ok {l:List ApiObject}{s:ByteArray}(hok:OkL l) (h:(bindR l s).1=0):progE (bindP l s)=0:=by
 have hP:bindP l s=⟨funsTo l l.length,datsTo l l.length,numberF l (fnd l s).1 (fnd l s).2.1⟩:=by unfold bindP;rw [if_pos h]
 have hen:∃ n:Nat,numberF l (fnd l s).1 (fnd l s).2.1=(n:Int)∧n<(funsTo l l.length).length:=by
  rw [bind_wr] at h
  split at h
  · next h1=>exact absurd h h1
  split at h
  · exact absurd h (by decide)
  next h2=>
  have hf:(fnd l s).2.2=true:=by cases hb:(fnd l s).2.2 with | true=>rfl | false=>exact absurd (.inl hb) h2
  obtain ⟨i,k,o,x,hfe,ho,hx,-⟩:=fnd_some hf
  rw [hfe] at h2 ⊢
  dsimp only at h2 ⊢
  rw [symOf_eq ho hx] at h2
  obtain ⟨n,g,hn,hg,-⟩:=tgt_fun hok ho hx (Classical.byContradiction fun hc=>h2 (.inr (.inl hc)))
  exact ⟨n,hn,(List.getElem?_eq_some_iff.1 hg).1⟩
 obtain ⟨n,hn,hnl⟩:=hen
 rw [hP]
 unfold progE
 dsimp only
 rw [if_neg ZO]
 have h1:fstE (funsE ⟨funsTo l l.length,datsTo l l.length,numberF l (fnd l s).1 (fnd l s).2.1⟩)=0:=by
  refine fstE_zero.2 (fun e he=>?_)
  obtain ⟨f,hf,rfl⟩:=List.mem_map.1 he
  obtain ⟨i,k,o,g,ho,hg,rfl⟩:=funs_mem hf
  have hkl:=(List.getElem?_eq_some_iff.1 hg).1
  have hc:=(item_fun ((obj_zero (hok.objs o (List.mem_of_getElem? ho))).2 k ZO) hg).2.2.1
  refine refs_ok (by unfold mostF;dsimp only;rw [boundL_len,symsF_len,List.length_map]) (fun j hj=>?_)
  dsimp only at hj ⊢
  rw [boundL_len,symsF_len] at hj
  obtain ⟨x,hx⟩:∃ x,g.fCode[j]?=some x:=⟨_,List.getElem?_eq_getElem hj⟩
  unfold mostF
  dsimp only
  rw [getG (bound_at hj),mapG hx]
  unfold mostI
  by_cases hnd:needF x.fOp=0
  · rw [code_none hc hx hnd,bound_neg,if_pos hnd]
    omega
  · obtain ⟨n,y,hb,-,-,-,-,-,ht⟩:=code_num hok ho hg hx hnd
    rw [hb,if_neg hnd]
    split at ht
    · next h3=>
      rw [if_pos h3]
      obtain ⟨-,d,hd,-⟩:=ht
      have:=(List.getElem?_eq_some_iff.1 hd).1
      dsimp only
      omega
    · next h3=>
      rw [if_neg h3]
      obtain ⟨-,d,hd,-⟩:=ht
      have:=(List.getElem?_eq_some_iff.1 hd).1
      dsimp only
      omega
 rw [h1,if_neg (by simp)]
 refine fstE_zero.2 (fun e he=>?_)
 obtain ⟨d,hd,rfl⟩:=List.mem_map.1 he
 obtain ⟨i,k,o,g,ho,hg,rfl⟩:=dats_mem hd
 have hkl:=(List.getElem?_eq_some_iff.1 hg).1
 have hc:=(item_dat ((obj_zero (hok.objs o (List.mem_of_getElem? ho))).2 (o.fFuncs.length+k) ZO) hg).2.2
 have hrl:(refsD g).length=g.fWords.length:=(refsD_len g).trans (marksL_len _ _)
 refine refs_ok (by unfold mostD;dsimp only;rw [boundL_len,hrl,List.length_map]) (fun j hj=>?_)
 dsimp only at hj ⊢
 rw [boundL_len] at hj
 have hjs:(refsD g)[j]?=some (refsD g)[j]:=List.getElem?_eq_getElem hj
 obtain ⟨x,hx⟩:∃ x,g.fWords[j]?=some x:=⟨_,List.getElem?_eq_getElem ZO⟩
 unfold mostD
 dsimp only
 rw [getG (boundL_at hjs),mapG hx]
 rcases data_ref hc _ (List.getElem_mem hj) with e | ⟨m,y,e,hy,hs,-⟩
 · rw [e,bound_neg];omega
 · obtain ⟨n,g2,hn2,hg2,-⟩:=tgt_fun hok ho hy hs
   rw [bound_num e,hn2]
   have:=(List.getElem?_eq_some_iff.1 hg2).1
   omega
theorem funsTo_key {l:List ApiObject} : ∀ (n i:Nat) (x:ApiFun),(funsTo l n)[i]?=some x→∃ (a b:Nat),x=mkFun l a b∧a<n∧b<(objAt l a).fFuncs.length∧i=sumO true l a+b
 | 0,i,x,h=>by simp [funsTo] at h
 | n+1,i,x,h=>by
  rw [funsTo_succ] at h
  by_cases hi:i<(funsTo l n).length
  · rw [List.getElem?_append_left hi] at h
    obtain ⟨a,b,h1,h2,h3,h4⟩:=funsTo_key n i x h
    exact ⟨a,b,h1,by omega,h3,h4⟩
  · rw [List.getElem?_append_right ZO] at h
    unfold fileFuns at h
    rw [List.getElem?_map] at h
    have hb:i-(funsTo l n).length<(objAt l n).fFuncs.length:=by
     apply Classical.byContradiction
     intro hc
     rw [List.getElem?_eq_none (by rw [List.length_range];omega)] at h
     cases h
    rw [List.getElem?_range hb] at h
    obtain rfl:=Option.some.inj h
    rw [funsTo_len] at hi hb ⊢
    exact ⟨n,i-sumO true l n,rfl,by omega,hb,by omega⟩
theorem funN_at {l:List ApiObject}{ds:List ApiDat}{e:Int}{i:Nat}{x:ApiFun}(h:(funsTo l l.length)[i]?=some x):funN ⟨funsTo l l.length,ds,e⟩ x.fFile x.fItem=(i:Int):=by
 obtain ⟨a,b,rfl,-,-,hi⟩:=funsTo_key _ i x h
 refine idxI_stop (fun y hy=>?_) h (by unfold isF;simp)
 obtain ⟨j,hj⟩:=List.mem_iff_getElem?.1 hy
 have hji:j<i:=by have:=(List.getElem?_eq_some_iff.1 hj).1;rw [List.length_take] at this;omega
 rw [List.getElem?_take,if_pos hji] at hj
 obtain ⟨a',b',rfl,-,-,hj'⟩:=funsTo_key _ j y hj
 unfold isF mkFun
 dsimp only
 by_cases ea:a'=a
 · subst ea
   have:¬ (b':Int)=(b:Int):=by omega
   simp [this]
 · have:¬ (a':Int)=(a:Int):=by omega
   simp [this]
theorem slot_zero {kinds:List Int}{a k:Int}(h:slotF kinds a k=0):0≤a∧a<(kinds.length:Int)∧kinds.getD a.toNat 0=k:=by
 unfold slotF at h
 split at h
 · exact absurd h (by decide)
 · split at h
   · exact absurd h (by decide)
   · next h1 h2=>exact ⟨by omega,by omega,Classical.not_not.1 h2⟩
theorem wrap_kind {k:Int}(h:isC (IntKind.i64.wrap (k-1))=true) (hk:in64 k):IntKind.i64.wrap (1+IntKind.i64.wrap (k-1))=k:=by
 have h1:=isC_iff.1 h
 unfold in64 at hk
 have e:IntKind.i64.wrap (k-1)=k-1∨k = -9223372036854775808:=by
  by_cases hc:k = -9223372036854775808
  · exact .inr hc
  · exact .inl (wrap_in (by unfold in64;omega))
 rcases e with e | e
 · rw [e] at h1 ⊢
   rw [show 1+(k-1)=k by omega]
   exact wrap_in (by unfold in64;omega)
 · subst e
   exact absurd h (by decide)
theorem pick_kind {f:ApiFunc}{l:List ApiSymbol}(h:chkE f l=0) {j:Nat}{x:ApiInstr}(hx:f.fCode[j]?=some x) (ho:x.fOp=18) {y:ApiSymbol}(hy:symAtF f l (j:Int)=y) (hfit:fitsF 4 y=true) (hk:in64 y.fKind):0≤x.fA∧x.fA<(f.fKinds.length:Int)∧f.fKinds.getD x.fA.toNat 0=y.fKind:=by
 have hjl:=(List.getElem?_eq_some_iff.1 hx).1
 have hr:=ref_zero h hjl
 have hc:codeAt f (j:Int)=x:=by unfold codeAt;rw [Int.toNat_natCast,List.getD_eq_getElem?_getD,hx];rfl
 have hi:instrF f l (j:Int)=0:=by
  unfold chkE at h
  split at h
  · next h1=>exact absurd h h1
  · exact fstE_zero.1 h _ (List.mem_map.2 ⟨j,List.mem_range.2 hjl,rfl⟩)
 have hrs:refS f l (j:Int)=y:=by
  unfold refS
  rw [if_neg,hy]
  rintro (h1 | h1)
  · rw [hc,ho] at h1;exact absurd h1 (by decide)
  · exact h1 hr
 unfold instrF at hi
 rw [if_neg ZO,if_neg (by rw [hr];simp),hc,hrs,if_neg ZO,if_neg ZO,if_pos ho] at hi
 unfold operF at hi
 have hs:shapeF x.fOp=⟨#[103,114,45,45]⟩:=by rw [ho];decide
 have h0:=fstE_zero.1 hi _ (List.mem_map.2 ⟨0,List.mem_range.2 (by rw [hs];decide),rfl⟩)
 unfold opsE at h0
 rw [hs] at h0
 have h1:slotF f.fKinds x.fA (IntKind.i64.wrap (1+IntKind.i64.wrap (y.fKind-1)))=0:=by
  rw [letE_eq (by decide)] at h0
  unfold operK at h0
  exact h0
 rw [wrap_kind (by unfold fitsF at hfit;rw [if_neg (by decide),if_pos rfl] at hfit;simp only [Bool.and_eq_true] at hfit;exact hfit.2) hk] at h1
 exact slot_zero h1
theorem cls_no {f:ApiFunc}{l:List ApiSymbol}{j:Nat}{x:ApiInstr}(hj:j<f.fCode.length) (hx:f.fCode[j]?=some x) (h:x.fOp≠19∧x.fOp≠20∧x.fOp≠21):(clsF f l (j:Int)).2=false:=by
 have hc:codeAt f (j:Int)=x:=by unfold codeAt;rw [Int.toNat_natCast,List.getD_eq_getElem?_getD,hx];rfl
 unfold clsF
 rw [if_neg ZO,hc,if_neg ZO,if_neg ZO]
theorem cls_yes {f:ApiFunc}{l:List ApiSymbol}{j:Nat}{x:ApiInstr}(hj:j<f.fCode.length) (hx:f.fCode[j]?=some x) (h:(clsF f l (j:Int)).2=true) (h20:x.fOp≠20):needF x.fOp≠0∧¬ (needF x.fOp=3∨needF x.fOp=4)∧(clsF f l (j:Int)).1=(symAtF f l (j:Int)).fKind:=by
 have hc:codeAt f (j:Int)=x:=by unfold codeAt;rw [Int.toNat_natCast,List.getD_eq_getElem?_getD,hx];rfl
 have e:clsF f l (j:Int)=(if x.fOp=19∨x.fOp=21 then (if symF f (j:Int)<0∨(l.length:Int)≤symF f (j:Int)∨(symAtF f l (j:Int)).fSort≠1 then (0,false) else finC (symAtF f l (j:Int)).fKind) else if x.fOp=20 then finC x.fC else (0,false)):=by unfold clsF;rw [if_neg ZO,hc]
 rw [e] at h ⊢
 by_cases h1:x.fOp=19∨x.fOp=21
 · rw [if_pos h1] at h ⊢
   by_cases h2:symF f (j:Int)<0∨(l.length:Int)≤symF f (j:Int)∨(symAtF f l (j:Int)).fSort≠1
   · rw [if_pos h2] at h;cases h
   · rw [if_neg h2] at h ⊢
     unfold finC at h ⊢
     by_cases h3:isC (symAtF f l (j:Int)).fKind=true
     · rw [if_pos h3]
       rcases h1 with e | e <;> (refine ⟨?_,?_,rfl⟩ <;> rw [e] <;> decide)
     · rw [if_neg h3] at h;cases h
 · rw [if_neg h1,if_neg h20] at h;cases h
theorem bindRight {B:Base}{w:World}(hS:St B [] w) (A:Option Addr) (cp:Nat) (l:List ApiObject) (hC:kApiObject.C B.e A l) (hv:∀ o ∈ l,vApiObject o) (s:ByteArray) :
    CW 7 #[.slice A l.length cp,.string s] w (Ret B (fun _:Unit=>True) (fun _=>.bool true) (fun _=>[])):=by
  refine ZX Tryz.func7 hS ?_
  refine Zh (Zi (Zp J (Zn (Za (Zh (Zzk ?_))))))
  (refine ZC0 rfl ZK (fun w hS=>frame hS ZQ (fun B' hB hS'=>ref24_Few hS' A cp l (Kd.C_grow hB hC))) ?_;rintro r18 h18)
  refine Zno ?_
  refine Zo J (ZS (ZT 20) (fun h20=>?_) (fun h20=>?_))
  refine Zr J J J J (Zr J J J J (Zr J J J J (Zt J J (Zn (Za (wCondT J (Zh (Zi ?_))))))))
  (refine ZC0 rfl ZK (fun w hS=>frame hS ZQ (fun B' hB hS'=>known24 hS')) ?_;rintro ⟨⟩ -)
  refine Zp J (Zn (Za (Zl (Zc (Zw (fi1 J ?_))))))
  exact ⟨(),trivial,rfl,Lh⟩
  refine Zq J J (Zo J (Zq J J (oLenStr J J (Zq J J (Z1 J J (Zu J J (Zn (Za (wC (fun h24=>?_) (fun h24=>?_))))))))))
  refine Zh (Zi ?_)
  (refine ZC0 rfl ZK (fun w hS=>frame hS ZQ (fun B' hB hS'=>known24 hS')) ?_;rintro ⟨⟩ -)
  refine Zp J (Zn (Za (Zl (Zc (Zw (fi1 J ?_))))))
  exact ⟨(),trivial,rfl,Lh⟩
  have hsm:FewO l:=h18 (by simp_all)
  refine Zj (Zzp ?_)
  (refine ZC0 rfl ZK (fun w hS=>frame hS ZQ (fun B' hB hS'=>bind_Bind hS' A cp l (Kd.C_grow hB hC) hv hsm s B.e)) ?_;rintro z hz)
  refine Zo J (oExt J ZP ?_)
  refine oExt J ZP ?_
  refine oAlloc J ZP (fun b5=>?_)
  refine oAlloc J ZP (fun b6=>?_)
  refine Zsa ?_
  refine Zsa ?_
  refine Zn (Za (wFreeze [row (kRaw 13) B.e 59 (.slice z.Af z.rf.length z.cf) z.rf,row (kRaw 7) B.e 64 (.slice z.Ad z.rd.length z.cd) z.rd,bun z.Ψ] ZQ (fun B1 hB1 hq1=>?_)))
  have hp:=PR.K (e:=(bindP l s).fEntry) hz (hq1 _ _ ZP) (hq1 _ _ ZP) (hq1 _ _ ZP)
  obtain ⟨k1,k2⟩:=hz _ (hq1 (bun z.Ψ) _ ZP)
  have q0:=rawrow (kd:=kApiFun) (hq1 (row (kRaw 13) _ _ _ _) _ ZP) rfl k1
  have q1:=rawrow (kd:=kApiDat) (hq1 (row (kRaw 7) _ _ _ _) _ ZP) rfl k2
  have l1:=k1.length
  have l2:=k2.length
  have hC:=Kd.C_grow hB1 hC
  refine Zh (Zh (Zi (Zz (n:=0) (m:=0) J J J (Zld ?_))))
  refine Z0 J J (Zn (Za (wC (fun h34=>?_) (fun h34=>?_))))
  have hP:bindP l s=⟨[],[],0⟩:=by unfold bindP;rw [if_neg h34]
  rw [hP] at l1 l2
  replace l1:z.rf.length=0:=l1
  replace l2:z.rd.length=0:=l2
  refine Zh (Zi (Zz (n:=0) (m:=0) J J J (Zld ?_)))
  refine Zv J J (Zz (n:=1) (m:=1) J J J (Zld ?_))
  refine Zv J J (oAdd J J ZO ?_)
  refine Zy J J ?_
  refine ZS0 (t:=42) (v':=.bool true) rfl (by rw [l1,l2];rfl) ?_
  refine Zo J (Zq J J ?_)
  (refine ZC0 rfl ZK (fun w hS=>frame hS ZQ (fun B' hB hS'=>known24 hS')) ?_;rintro ⟨⟩ -)
  refine Zt J J (Zzb ?_)
  exact ⟨(),trivial,rfl,Lh⟩
  have hw0:(bindR l s).1=0:=Classical.not_not.1 h34
  have hP:bindP l s=⟨funsTo l l.length,datsTo l l.length,numberF l (fnd l s).1 (fnd l s).2.1⟩:=by unfold bindP;rw [if_pos hw0]
  have hok : OkL l := wrong_ok hsm (by have := bind_wr l s; split at this; · rw [this] at hw0; exact hw0
                                       · next h => exact Classical.not_not.1 h)
  have hright:=bind_ok hok hw0
  have hF:=sum_funs hsm l.length
  have hD:=sum_dats hsm l.length
  have hln:=hsm.len
  rw [hP] at l1 l2 q0 q1
  dsimp only at l1 l2 q0 q1
  have hf100:∀ f ∈ (bindP l s).fFuns,f.fF.fCode.length≤1000:=by
    rw [hP];intro f hf;obtain ⟨i,k,o,g,ho,hg,rfl⟩:=funs_mem hf;have:=(hsm.fun_ o (List.mem_of_getElem? ho) g (List.mem_of_getElem? hg)).2.2.1;dsimp only;omega
  have hd100:∀ d ∈ (bindP l s).fDats,d.fD.fWords.length≤1000:=by
    rw [hP];intro f hf;obtain ⟨i,k,o,g,ho,hg,rfl⟩:=dats_mem hf;have:=(hsm.data o (List.mem_of_getElem? ho) g (List.mem_of_getElem? hg)).1;dsimp only;omega
  refine Zj (Za (Zh (Zh (Zi (Zla ?_)))))
  (refine ZC0 rfl ZK (fun w hS=>frame hS ZQ (fun B' hB hS'=>bind_Check hS' (bindP l s) _ (gPg hB hp))) ?_;rintro ⟨⟩ -)
  rw [hright]
  refine Z0 J J (ZS0 (t:=48) (v':=.bool false) J (by simp) ?_)
  refine Zo J (Zq J J (Zla ?_))
  refine Zq J J ?_
  (refine ZC0 rfl ZK (fun w hS=>frame hS ZQ (fun B' hB hS'=>ref24_Check hS' (bindP l s) _ (gPg hB hp) hf100 hd100)) ?_;rintro ⟨⟩ -)
  rw [hright]
  refine Zq J J (Z0 J J (ZS0 (t:=52) (v':=.bool false) J (by simp) ?_))
  refine Zu J J (Zn (Za (wCondF J (Zj (Za (Zh (Zh (Zi (Zp J (Zn (Za (Zk (wLoop (ι:=Nat) (fun i=>[(0,.slice A l.length cp),(5,.pointer (some ⟨b5,0,none⟩)),(6,.pointer (some ⟨b6,0,none⟩)),(7,.int .i64 (i:Int))]) (fun i=>[blk b5 43 (z.cells (bindP l s).fEntry),blk b6 45 (rejL (bindR l s))]) (fun i=>i≤(funsTo l l.length).length) (fun i=>(funsTo l l.length).length-i) 0 ?_ cv (Leads.has ZQ) ?_)))))))))))))
  exact Nat.zero_le _
  rintro i hi
  try dsimp only
  refine Zh (Zh (Zi (Zo J (Zz (n:=0) (m:=0) J J J (Zld ?_)))))
  refine Zv J J (Zx J J (Zn (Za (wC (fun h58=>?_) (fun h58=>?_)))))
  obtain ⟨x,hx⟩:∃ x,(funsTo l l.length)[i]?=some x:=⟨_,List.getElem?_eq_getElem ZO⟩
  have hfn:=funN_at (ds:=datsTo l l.length) (e:=numberF l (fnd l s).1 (fnd l s).2.1) hx
  rw [← hP] at hfn
  obtain ⟨i2,k2,o,f,ho,hf,rfl⟩:=funs_mem (List.mem_of_getElem? hx)
  have hil:=(List.getElem?_eq_some_iff.1 ho).1
  have hkl:=(List.getElem?_eq_some_iff.1 hf).1
  have hom:=List.mem_of_getElem? ho
  have hgo:=hsm.one hv hom
  have hgs:=hgo.syms
  have hoz:=obj_zero (hok.objs o hom)
  have hch:=(item_fun (hoz.2 k2 ZO) hf).2.2.1
  have hcl:=(hsm.fun_ o hom f (List.mem_of_getElem? hf)).2.2.1
  obtain ⟨e1,cs1,hE⟩:=q0.elm hx
  obtain ⟨F0,f0,F1,f1,F2,f2,F3,f3,F4,f4,rfl,n0,r0,n1,r1,n2,r2,n3,r3,n4,r4⟩:=kApiFun_open hE.K
  obtain ⟨eo,cso,hEo⟩:=hC.elm ho
  obtain ⟨B0,d0,B1',d1,B2,d2,rfl,m0,s0,m1,s1,m2,s2⟩:=kApiObject_open hEo.K
  dsimp only at n0 r0 n1 r1 n2 r2 n3 r3 n4 r4 hfn
  refine Zj (Za (Zh (Zk (Zh (Zi (Zz (n:=0) (m:=0) J J J (Zld ?_)))))))
  refine Zo J (oIdxE J J (hE) ZO J J ?_)
  have hc64:=(hE).cell
  refine Zlx hc64 ?_
  refine oAlloc J ZP (fun b8=>?_)
  refine Zsa ?_
  refine Zn (Za (Zh (Zh (Zi (Zz (n:=0) (m:=0) J J J (Zld ?_))))))
  refine Zx J J (ZS0 (t:=68) (v':=.bool false) J (by simp) ?_)
  refine Zo J (Zq J J (Zz (n:=0) (m:=0) J J J (Zzh ?_)))
  refine Zq J J (Zo J (Zq J J (Zv J J (Zq J J (Z2 J J ?_)))))
  refine ZS0 (t:=74) (v':=.bool false) J (by simp <;> omega) ?_
  refine Zu J J (Zo J (Zq J J (Zla ?_)))
  refine Zq J J (Zz (n:=0) (m:=0) J J J (Zzh ?_))
  refine Zq J J (Zz (n:=1) (m:=1) J J J (Zzh ?_))
  refine Zq J J ?_
  (refine ZC0 rfl ZK (fun w hS=>frame hS ZQ (fun B' hB hS'=>bind_Fun hS' (bindP l s) _ (gPg hB hp) (i2:Int) (k2:Int))) ?_;rintro ⟨⟩ -)
  rw [hfn]
  refine Zq J J (Zo J (Zq J J (Z0 J J (ZS0 (t:=84) (v':=.bool false) J (by simp) ?_))))
  refine Zu J J (Zn (Za (wCondF J (Zj (Za (Zh (Zi (Zp J (Zn (Za (Zk (wLoop (ι:=Nat) (fun j=>[(0,.slice A l.length cp),(5,.pointer (some ⟨b5,0,none⟩)),(6,.pointer (some ⟨b6,0,none⟩)),(7,.int .i64 (i:Int)),(8,.pointer (some ⟨b8,0,none⟩)),(9,.int .i64 (j:Int))]) (fun j=>[blk b5 43 (z.cells (bindP l s).fEntry),blk b6 45 (rejL (bindR l s)),blk b8 59 [.int .i64 (i2:Int),.int .i64 (k2:Int),.string (nameI o (k2:Int)),.int .i64 f.fClass,.slice F0 f.fKinds.length f0,.int .i64 f.fPad,.bool f.fNosplit,.int .i64 f.fFrom,.int .i64 f.fTo,.slice F1 f.fLines.length f1,.slice F2 f.fCode.length f2,.slice F3 f.fRelocs.length f3,.slice F4 (boundL l (i2:Int) (symsF f)).length f4]]) (fun j=>j≤f.fCode.length) (fun j=>f.fCode.length-j) 0 ?_ cv (Leads.has ZQ) ?_))))))))))))
  exact Nat.zero_le _
  rintro j hj
  try dsimp only
  refine Zh (Zh (Zi (Zo J (Zz (n:=3) (m:=3) J J J (Zz (n:=7) (m:=10) J J J (Zld ?_))))))
  refine Zv J J (Zx J J (Zn (Za (wC (fun h91=>?_) (fun h91=>?_)))))
  obtain ⟨x,hxj⟩:∃ x,f.fCode[j]?=some x:=⟨_,List.getElem?_eq_getElem ZO⟩
  have hjl:j<f.fCode.length:=by omega
  obtain ⟨ei,csi,hEi⟩:=r2.elm hxj
  obtain rfl:=kApiInstr_open hEi.K
  have hbj:=bound_at (l:=l) (i:=(i2:Int)) hjl
  obtain ⟨er,csr,hEr⟩:=r4.elm hbj
  obtain rfl:=(show csr=[Value.int .i64 (boundE l i2 (symF f (j:Int)))] from hEr.K)
  have hbl:=(List.getElem?_eq_some_iff.1 hbj).1
  refine Zj (Za (Zh (Zk (Zh (Zi (Zz (n:=3) (m:=3) J J J (Zz (n:=7) (m:=10) J J J (Zld ?_))))))))
  refine Zo J (oIdxE J J (hEi) ZO J J ?_)
  have hc98:=(hEi).cell
  refine Zlx hc98 ?_
  refine oAlloc J ZP (fun b10=>?_)
  refine Zsa ?_
  refine Zn (Za (Zh (wDrawG J [0,1,2,3,4,5,6,7,8] [(9,[],[10,11,12,13])] [14] 24 ZK J J (fun w0=>?_))))
  refine Zz (n:=3) (m:=3) J J J (Zla ?_)
  refine Zo J (Zz (n:=0) (m:=0) J J J (Zld ?_))
  refine oIdxE J J (hEo) ZO J J ?_
  have hc106:=(hEo).cell
  refine ZF (ZT 0) (ZT 0) ?_
  refine Zlx hc106 ?_
  refine Zo J (Z4 (Z5 J ?_))
  (refine ZC0 rfl ZK (fun w hS=>frame hS ZQ (fun B' hB hS'=>verify_Class hS' f _ (kApiFunc_mk _ f n0 (Kd.C_grow hB r0) n1 (Kd.C_grow hB r1) n2 (Kd.C_grow hB r2) n3 (Kd.C_grow hB r3)) B0 d0 o.fSymbols (Kd.C_grow hB s0) (j:Int))) ?_;rintro ⟨⟩ -)
  refine ZG ?_ J (fun w0=>?_)
  exact AgainG.nil
  refine Zo J (oExt J ZP ?_)
  refine oExt J ZP ?_
  refine Zp J (Z6 (Zp J (Zn (Za (Zh (Zh (Zi (Zz (n:=0) (m:=0) J J J (Zld ?_)))))))))
  refine Zy J J (Zo J (ZS (ZT 116) (fun h116=>?_) (fun h116=>?_)))
  have hnd:needF x.fOp=3:=by unfold needF;rw [if_neg ZO,if_neg ZO,if_pos ZO]
  obtain ⟨n,y,hb,hsy,hym,hs0,hs1,hfit,ht⟩:=code_num hok ho hf hxj ZO
  rw [if_pos (.inl hnd)] at ht
  obtain ⟨hys,dd,hdd,hdk⟩:=ht
  have hcls:(clsF f o.fSymbols (j:Int)).2=false:=cls_no hjl hxj ZO
  obtain ⟨ed,csd,hEd⟩:=q1.elm hdd
  obtain ⟨G0,g0,G1,g1,G2,g2,rfl,t0,u0,t1,u1,t2,u2⟩:=kApiDat_open hEd.K
  have hddl:=(List.getElem?_eq_some_iff.1 hdd).1
  have hk0:dd.fD.fKind=0:=by rw [hnd] at hfit;unfold fitsF at hfit;rw [if_pos rfl] at hfit;simp only [Bool.and_eq_true,decide_eq_true_eq] at hfit;omega
  refine Zr J J J J (Zr J J J J (Zr J J J J (Zt J J (Zo J (Zr J J J J (Zr J J J J (Zr J J J J (Zt J J (Zo J (Zr J J J J (Zr J J J J (Zs J J J (Zs J J J (Zs J J J (Zr J J J J (Zt J J (Zp J (Zn (Za (Zh (Zi (Zo J (Zo J (Zq J J (Zz (n:=12) (m:=12) J J J (Zzh ?_))))))))))))))))))))))))))
  refine Zq J J (Zo J (Zq J J (oIdxE J J (hEr) ZO J J ?_)))
  have hc139:=(hEr).cell
  refine Zq J J (Zlx hc139 ?_)
  refine Zq J J (Zx J J ?_)
  refine ZS0 (t:=141) (v':=.bool false) rfl (by rw [hb];simp <;> omega) ?_
  refine Zt J J (Zn (Za (wCondF J (Zj (Za (Zh (Zh (wDrawG J [0,1,2,3,4,5,6,7,8,9,10,11,12,13,14,15,16,17,18,19,20] [] [] 24 ZK J J (fun w0=>?_)))))))))
  refine Zo rfl (Zo rfl (ZS0 (t:=144) (v':=.bool false) rfl (by rw [hcls]) ?_))
  refine Zr J J J J (Zr J J J J (Zr J J J J (Zu J J (Zo J (Zr J J J J (Zr J J J J (Zr J J J J (Zr J J J J (Zr J J J J (Zr J J J J (Zr J J J J (Zr J J J J (Zr J J J J (Zr J J J J (Zr J J J J (Zr J J J J (Zr J J J J (Zu J J (Z6 (Zn (Za (wCondF J (Zj (Za (Zh (Zh (wDrawG J [0,1,2,3,4,5,6,7,8,9,10,11,12,13,14,15,16,17,18,19,20,21] [] [] 24 ZK J J (fun w0=>?_))))))))))))))))))))))))))))
  refine Zz (n:=0) (m:=0) J J J (Zld ?_)
  refine Zy J J ?_
  refine ZS0 (t:=166) (v':=.bool true) J (by simp <;> omega) ?_
  refine Zo J (Zr J J J J (Zr J J J J (Zr J J J J (Zt J J (Zo J (Zq J J (Zz (n:=1) (m:=1) J J J (Zzh ?_))))))))
  refine Zq J J (Zz (n:=12) (m:=12) J J J (Zzh ?_))
  refine Zq J J (Zo J (Zq J J (oIdxE J J (hEr) ZO J J ?_)))
  have hc178:=(hEr).cell
  refine Zq J J (Zlx hc178 ?_)
  refine ZS0 (t:=179) (v':=.int .i64 (n:Int)) rfl (by rw [hb]) ?_
  refine Zq J J (oIdxE J J (hEd) ZO J J ?_)
  have hc180:=(hEd).cell
  refine Zq J J (ZF (ZT 3) (ZT 3) ?_)
  refine Zq J J (ZF (ZT 0) (ZT 3) ?_)
  refine Zq J J (Zlx hc180 ?_)
  refine Zq J J (Z0 J J ?_)
  refine ZS0 (t:=184) (v':=.bool false) rfl (by rw [hk0];simp) ?_
  refine Zt J J (Z6 (Zn (Za (wCondF J (Zj (Za (Zh (wDrawG J [0,1,2,3,4,5,6,7,8,9,10,11,12,13,14,15,16,17,18,19,20,21,22,23,24,25,26,27,28,29,30,31,32] [] [] 24 ZK J J (fun w0=>?_)))))))))
  refine Zz (n:=0) (m:=0) J J J (Zld ?_)
  refine Zy J J ?_
  refine ZS0 (t:=188) (v':=.bool false) J (by simp <;> omega) ?_
  refine Zo J (Zzd ?_)
  refine Z6 (Zn (Za (wCondF J (Zj (Zzj ?_)))))
  refine Zp J (Zn (Za ?_))
  exact ⟨rfl,j+1,by omega,by omega,cv,Lh⟩
  refine Zq J J (Zz (n:=0) (m:=0) J J J (Zzh ?_))
  refine Zq J J (Zy J J (Zu J J (Zo J (ZS (ZT 121) (fun h121=>?_) (fun h121=>?_)))))
  have hnd:needF x.fOp=3:=by unfold needF;rw [if_neg ZO,if_neg ZO,if_pos ZO]
  obtain ⟨n,y,hb,hsy,hym,hs0,hs1,hfit,ht⟩:=code_num hok ho hf hxj ZO
  rw [if_pos (.inl hnd)] at ht
  obtain ⟨hys,dd,hdd,hdk⟩:=ht
  have hcls:(clsF f o.fSymbols (j:Int)).2=false:=cls_no hjl hxj ZO
  obtain ⟨ed,csd,hEd⟩:=q1.elm hdd
  obtain ⟨G0,g0,G1,g1,G2,g2,rfl,t0,u0,t1,u1,t2,u2⟩:=kApiDat_open hEd.K
  have hddl:=(List.getElem?_eq_some_iff.1 hdd).1
  have hk0:dd.fD.fKind=0:=by rw [hnd] at hfit;unfold fitsF at hfit;rw [if_pos rfl] at hfit;simp only [Bool.and_eq_true,decide_eq_true_eq] at hfit;omega
  refine Zr J J J J (Zr J J J J (Zr J J J J (Zt J J (Zo J (Zr J J J J (Zr J J J J (Zs J J J (Zs J J J (Zs J J J (Zr J J J J (Zt J J (Zp J (Zn (Za (Zh (Zi (Zo J (Zo J (Zq J J (Zz (n:=12) (m:=12) J J J (Zzh ?_)))))))))))))))))))))
  refine Zq J J (Zo J (Zq J J (oIdxE J J (hEr) ZO J J ?_)))
  have hc139:=(hEr).cell
  refine Zq J J (Zlx hc139 ?_)
  refine Zq J J (Zx J J ?_)
  refine ZS0 (t:=141) (v':=.bool false) rfl (by rw [hb];simp <;> omega) ?_
  refine Zt J J (Zn (Za (wCondF J (Zj (Za (Zh (Zh (wDrawG J [0,1,2,3,4,5,6,7,8,9,10,11,12,13,14,15,16,17,18,19,20] [] [] 24 ZK J J (fun w0=>?_)))))))))
  refine Zo rfl (Zo rfl (ZS0 (t:=144) (v':=.bool false) rfl (by rw [hcls]) ?_))
  refine Zr J J J J (Zr J J J J (Zr J J J J (Zu J J (Zo J (Zr J J J J (Zr J J J J (Zr J J J J (Zr J J J J (Zr J J J J (Zr J J J J (Zr J J J J (Zr J J J J (Zr J J J J (Zr J J J J (Zr J J J J (Zr J J J J (Zr J J J J (Zu J J (Z6 (Zn (Za (wCondF J (Zj (Za (Zh (Zh (wDrawG J [0,1,2,3,4,5,6,7,8,9,10,11,12,13,14,15,16,17,18,19,20,21] [] [] 24 ZK J J (fun w0=>?_))))))))))))))))))))))))))))
  refine Zz (n:=0) (m:=0) J J J (Zld ?_)
  refine Zy J J ?_
  refine ZS0 (t:=166) (v':=.bool false) J (by simp <;> omega) ?_
  refine Zo J (Zq J J (Zz (n:=0) (m:=0) J J J (Zzh ?_)))
  refine Zq J J (Zy J J ?_)
  refine ZS0 (t:=170) (v':=.bool true) J (by simp <;> omega) ?_
  refine Zu J J (Zo J (Zq J J (Zz (n:=1) (m:=1) J J J (Zzh ?_))))
  refine Zq J J (Zz (n:=12) (m:=12) J J J (Zzh ?_))
  refine Zq J J (Zo J (Zq J J (oIdxE J J (hEr) ZO J J ?_)))
  have hc178:=(hEr).cell
  refine Zq J J (Zlx hc178 ?_)
  refine ZS0 (t:=179) (v':=.int .i64 (n:Int)) rfl (by rw [hb]) ?_
  refine Zq J J (oIdxE J J (hEd) ZO J J ?_)
  have hc180:=(hEd).cell
  refine Zq J J (ZF (ZT 3) (ZT 3) ?_)
  refine Zq J J (ZF (ZT 0) (ZT 3) ?_)
  refine Zq J J (Zlx hc180 ?_)
  refine Zq J J (Z0 J J ?_)
  refine ZS0 (t:=184) (v':=.bool false) rfl (by rw [hk0];simp) ?_
  refine Zt J J (Z6 (Zn (Za (wCondF J (Zj (Za (Zh (wDrawG J [0,1,2,3,4,5,6,7,8,9,10,11,12,13,14,15,16,17,18,19,20,21,22,23,24,25,26,27,28,29,30,31,32] [] [] 24 ZK J J (fun w0=>?_)))))))))
  refine Zz (n:=0) (m:=0) J J J (Zld ?_)
  refine Zy J J ?_
  refine ZS0 (t:=188) (v':=.bool false) J (by simp <;> omega) ?_
  refine Zo J (Zzd ?_)
  refine Z6 (Zn (Za (wCondF J (Zj (Zzj ?_)))))
  refine Zp J (Zn (Za ?_))
  exact ⟨rfl,j+1,by omega,by omega,cv,Lh⟩
  refine Zq J J (Zz (n:=0) (m:=0) J J J (Zzh ?_))
  refine Zq J J (Zy J J (Zu J J (Zo J (ZS (ZT 126) (fun h126=>?_) (fun h126=>?_)))))
  have hnd:needF x.fOp=4:=by unfold needF;rw [if_neg ZO,if_neg ZO,if_neg ZO,if_pos ZO]
  obtain ⟨n,y,hb,hsy,hym,hs0,hs1,hfit,ht⟩:=code_num hok ho hf hxj ZO
  rw [if_pos (.inr hnd)] at ht
  obtain ⟨hys,dd,hdd,hdk⟩:=ht
  have hcls:(clsF f o.fSymbols (j:Int)).2=false:=cls_no hjl hxj ZO
  obtain ⟨ed,csd,hEd⟩:=q1.elm hdd
  obtain ⟨G0,g0,G1,g1,G2,g2,rfl,t0,u0,t1,u1,t2,u2⟩:=kApiDat_open hEd.K
  have hddl:=(List.getElem?_eq_some_iff.1 hdd).1
  obtain ⟨hpa,hpb,hpc⟩:=pick_kind hch hxj h126 hsy (by rw [hnd] at hfit;exact hfit) ((hv o hom).1.2 y hym).2.2.2.1
  obtain ⟨a,ha⟩:=Int.eq_ofNat_of_zero_le hpa
  have hal:a<f.fKinds.length:=by omega
  obtain ⟨ek,csk,hEk⟩:=r0.elm (i:=a) (u:=y.fKind) (by rw [ha,Int.toNat_natCast,List.getD_eq_getElem?_getD,List.getElem?_eq_getElem hal] at hpc;rw [List.getElem?_eq_getElem hal];exact congrArg some hpc)
  obtain rfl:=(show csk=[Value.int .i64 y.fKind] from hEk.K)
  refine Zr J J J J (Zr J J J J (Zs J J J (Zs J J J (Zs J J J (Zr J J J J (Zt J J (Zp J (Zn (Za (Zh (Zi (Zo J (Zo J (Zq J J (Zz (n:=12) (m:=12) J J J (Zzh ?_))))))))))))))))
  refine Zq J J (Zo J (Zq J J (oIdxE J J (hEr) ZO J J ?_)))
  have hc139:=(hEr).cell
  refine Zq J J (Zlx hc139 ?_)
  refine Zq J J (Zx J J ?_)
  refine ZS0 (t:=141) (v':=.bool false) rfl (by rw [hb];simp <;> omega) ?_
  refine Zt J J (Zn (Za (wCondF J (Zj (Za (Zh (Zh (wDrawG J [0,1,2,3,4,5,6,7,8,9,10,11,12,13,14,15,16,17,18,19,20] [] [] 24 ZK J J (fun w0=>?_)))))))))
  refine Zo rfl (Zo rfl (ZS0 (t:=144) (v':=.bool false) rfl (by rw [hcls]) ?_))
  refine Zr J J J J (Zr J J J J (Zr J J J J (Zu J J (Zo J (Zr J J J J (Zr J J J J (Zr J J J J (Zr J J J J (Zr J J J J (Zr J J J J (Zr J J J J (Zr J J J J (Zr J J J J (Zr J J J J (Zr J J J J (Zr J J J J (Zr J J J J (Zu J J (Z6 (Zn (Za (wCondF J (Zj (Za (Zh (Zh (wDrawG J [0,1,2,3,4,5,6,7,8,9,10,11,12,13,14,15,16,17,18,19,20,21] [] [] 24 ZK J J (fun w0=>?_))))))))))))))))))))))))))))
  refine Zz (n:=0) (m:=0) J J J (Zld ?_)
  refine Zy J J ?_
  refine ZS0 (t:=166) (v':=.bool false) J (by simp <;> omega) ?_
  refine Zo J (Zq J J (Zz (n:=0) (m:=0) J J J (Zzh ?_)))
  refine Zq J J (Zy J J ?_)
  refine ZS0 (t:=170) (v':=.bool false) J (by simp <;> omega) ?_
  refine Zu J J (Zo J (Zr J J J J (Zr J J J J (Zr J J J J (Zr J J J J (Zr J J J J (Zr J J J J (Zr J J J J (Zr J J J J (Zr J J J J (Zr J J J J (Zr J J J J (Zr J J J J (Zu J J (Z6 (Zn (Za (wCondF J (Zj (Za (Zh (wDrawG J [0,1,2,3,4,5,6,7,8,9,10,11,12,13,14,15,16,17,18,19,20,21,22,23,24,25,26,27,28,29,30,31,32] [] [] 24 ZK J J (fun w0=>?_)))))))))))))))))))))))
  refine Zz (n:=0) (m:=0) J J J (Zld ?_)
  refine Zy J J ?_
  refine ZS0 (t:=188) (v':=.bool true) J (by simp <;> omega) ?_
  refine Zo J (Zq J J (Zz (n:=1) (m:=1) J J J (Zzh ?_)))
  refine Zq J J (Zz (n:=3) (m:=3) J J J (Zq J J (Zz (n:=1) (m:=4) J J J (Zzh ?_))))
  refine Zq J J (Zv J J (Zq J J (Zx J J ?_)))
  refine ZS0 (t:=196) (v':=.bool true) J (by simp <;> omega) ?_
  refine Zt J J (Zo J (Zq J J (Zz (n:=1) (m:=1) J J J (Zzh ?_))))
  refine Zq J J (Zz (n:=12) (m:=12) J J J (Zzh ?_))
  refine Zq J J (Zo J (Zq J J (oIdxE J J (hEr) ZO J J ?_)))
  have hc204:=(hEr).cell
  refine Zq J J (Zlx hc204 ?_)
  refine ZS0 (t:=205) (v':=.int .i64 (n:Int)) rfl (by rw [hb]) ?_
  refine Zq J J (oIdxE J J (hEd) ZO J J ?_)
  have hc206:=(hEd).cell
  refine Zq J J (ZF (ZT 3) (ZT 3) ?_)
  refine Zq J J (ZF (ZT 0) (ZT 3) ?_)
  refine Zq J J (Zlx hc206 ?_)
  refine Zq J J (Zz (n:=3) (m:=3) J J J (Zq J J (Zz (n:=1) (m:=4) J J J (Zzh ?_))))
  refine Zq J J (Zz (n:=1) (m:=1) J J J (Zzh ?_))
  refine ZS0 (t:=214) (v':=.int .i64 (a:Int)) rfl (by rw [ha]) ?_
  refine Zq J J (oIdxE J J (hEk) ZO J J ?_)
  have hc215:=(hEk).cell
  refine Zq J J (Zlx hc215 ?_)
  refine Zq J J (Z0 J J ?_)
  refine ZS0 (t:=217) (v':=.bool false) rfl (by rw [hdk];simp) ?_
  refine Zt J J (Z6 (Zn (Za (wCondF J (Zj (Zzj ?_))))))
  refine Zp J (Zn (Za ?_))
  exact ⟨rfl,j+1,by omega,by omega,cv,Lh⟩
  refine Zq J J (Zo J (Zq J J (Zo J (ZS (ZT 128) (fun h128=>?_) (fun h128=>?_)))))
  refine Zq J J (Zz (n:=0) (m:=0) J J J (Zzh ?_))
  refine Zq J J (Z0 J J (Zq J J (Zt J J (Zu J J (Zp J (Zn (Za (Zh (Zi (Zo J (Zo J (ZS (ZT 135) (fun h135=>?_) (fun h135=>?_)))))))))))))
  obtain ⟨hnd,hnn,hk1⟩:=cls_yes (l:=o.fSymbols) hjl hxj (by simpa using h128) (by first | exact h135 | simpa using h135)
  obtain ⟨n,y,hb,hsy,hym,hs0,hs1,hfit,ht⟩:=code_num hok ho hf hxj hnd
  rw [if_neg hnn] at ht
  obtain ⟨hys,gg,hgg,hgk⟩:=ht
  rw [hsy] at hk1
  obtain ⟨eg,csg,hEg⟩:=q0.elm hgg
  obtain ⟨G0,g0,G1,g1,G2,g2,G3,g3,G4,g4,rfl,t0,u0,t1,u1,t2,u2,t3,u3,t4,u4⟩:=kApiFun_open hEg.K
  have hggl:=(List.getElem?_eq_some_iff.1 hgg).1
  refine Zq J J (Zz (n:=12) (m:=12) J J J (Zzh ?_))
  refine Zq J J (Zo J (Zq J J (oIdxE J J (hEr) ZO J J ?_)))
  have hc139:=(hEr).cell
  refine Zq J J (Zlx hc139 ?_)
  refine Zq J J (Zx J J ?_)
  refine ZS0 (t:=141) (v':=.bool false) rfl (by rw [hb];simp <;> omega) ?_
  refine Zt J J (Zn (Za (wCondF J (Zj (Za (Zh (Zh (wDrawG J [0,1,2,3,4,5,6,7,8,9,10,11,12,13,14,15,16,17,18,19,20] [] [] 24 ZK J J (fun w0=>?_)))))))))
  refine Zo J (Zo J ?_)
  refine ZS0 (t:=144) (v':=.bool true) J (by first | rw [h128] | simp_all) ?_
  refine Zq J J (Zz (n:=0) (m:=0) J J J (Zzh ?_))
  refine Zq J J (Z0 J J ?_)
  refine ZS0 (t:=147) (v':=.bool true) J (by simp <;> omega) ?_
  refine Zt J J (Zo J (Zq J J (Zz (n:=0) (m:=0) J J J (Zzh ?_))))
  refine Zq J J (Zz (n:=12) (m:=12) J J J (Zzh ?_))
  refine Zq J J (Zo J (Zq J J (oIdxE J J (hEr) ZO J J ?_)))
  have hc155:=(hEr).cell
  refine Zq J J (Zlx hc155 ?_)
  refine ZS0 (t:=156) (v':=.int .i64 (n:Int)) rfl (by rw [hb]) ?_
  refine Zq J J (oIdxE J J (hEg) ZO J J ?_)
  have hc157:=(hEg).cell
  refine Zq J J (ZF (ZT 3) (ZT 3) ?_)
  refine Zq J J (ZF (ZT 0) (ZT 3) ?_)
  refine Zq J J (Zlx hc157 ?_)
  refine Zq J J (Zo J (Zq J J (Z0 J J ?_)))
  refine ZS0 (t:=162) (v':=.bool false) rfl (by rw [hgk,hk1];simp) ?_
  refine Zt J J (Z6 (Zn (Za (wCondF J (Zj (Za (Zh (Zh (wDrawG J [0,1,2,3,4,5,6,7,8,9,10,11,12,13,14,15,16,17,18,19,20,21] [] [] 24 ZK J J (fun w0=>?_))))))))))
  refine Zz (n:=0) (m:=0) J J J (Zld ?_)
  refine Zy J J ?_
  refine ZS0 (t:=166) (v':=.bool false) J (by simp <;> omega) ?_
  refine Zo J (Zq J J (Zz (n:=0) (m:=0) J J J (Zzh ?_)))
  refine Zq J J (Zy J J ?_)
  refine ZS0 (t:=170) (v':=.bool false) J (by simp <;> omega) ?_
  refine Zu J J (Zo J (Zr J J J J (Zr J J J J (Zr J J J J (Zr J J J J (Zr J J J J (Zr J J J J (Zr J J J J (Zr J J J J (Zr J J J J (Zr J J J J (Zr J J J J (Zr J J J J (Zu J J (Z6 (Zn (Za (wCondF J (Zj (Za (Zh (wDrawG J [0,1,2,3,4,5,6,7,8,9,10,11,12,13,14,15,16,17,18,19,20,21,22,23,24,25,26,27,28,29,30,31,32] [] [] 24 ZK J J (fun w0=>?_)))))))))))))))))))))))
  refine Zz (n:=0) (m:=0) J J J (Zld ?_)
  refine Zy J J ?_
  refine ZS0 (t:=188) (v':=.bool false) J (by simp <;> omega) ?_
  refine Zo J (Zzd ?_)
  refine Z6 (Zn (Za (wCondF J (Zj (Zzj ?_)))))
  refine Zp J (Zn (Za ?_))
  exact ⟨rfl,j+1,by omega,by omega,cv,Lh⟩
  refine Zr J J J J (Zr J J J J (Zr J J J J (Zr J J J J (Zr J J J J (Zr J J J J (Zu J J (Zn (Za (wCondF J (Zj (Za (Zh (Zh (wDrawG J [0,1,2,3,4,5,6,7,8,9,10,11,12,13,14,15,16,17,18,19,20] [] [] 24 ZK J J (fun w0=>?_)))))))))))))))
  refine Zo J (Zo J ?_)
  refine ZS0 (t:=144) (v':=.bool true) J (by first | rw [h128] | simp_all) ?_
  refine Zq J J (Zz (n:=0) (m:=0) J J J (Zzh ?_))
  refine Zq J J (Z0 J J ?_)
  refine ZS0 (t:=147) (v':=.bool false) J (by simp <;> omega) ?_
  refine Zt J J (Zo J (Zr J J J J (Zr J J J J (Zr J J J J (Zr J J J J (Zr J J J J (Zr J J J J (Zr J J J J (Zr J J J J (Zr J J J J (Zr J J J J (Zr J J J J (Zr J J J J (Zr J J J J (Zu J J (Z6 (Zn (Za (wCondF J (Zj (Za (Zh (Zh (wDrawG J [0,1,2,3,4,5,6,7,8,9,10,11,12,13,14,15,16,17,18,19,20,21] [] [] 24 ZK J J (fun w0=>?_)))))))))))))))))))))))))
  refine Zz (n:=0) (m:=0) J J J (Zld ?_)
  refine Zy J J ?_
  refine ZS0 (t:=166) (v':=.bool false) J (by simp <;> omega) ?_
  refine Zo J (Zq J J (Zz (n:=0) (m:=0) J J J (Zzh ?_)))
  refine Zq J J (Zy J J ?_)
  refine ZS0 (t:=170) (v':=.bool false) J (by simp <;> omega) ?_
  refine Zu J J (Zo J (Zr J J J J (Zr J J J J (Zr J J J J (Zr J J J J (Zr J J J J (Zr J J J J (Zr J J J J (Zr J J J J (Zr J J J J (Zr J J J J (Zr J J J J (Zr J J J J (Zu J J (Z6 (Zn (Za (wCondF J (Zj (Za (Zh (wDrawG J [0,1,2,3,4,5,6,7,8,9,10,11,12,13,14,15,16,17,18,19,20,21,22,23,24,25,26,27,28,29,30,31,32] [] [] 24 ZK J J (fun w0=>?_)))))))))))))))))))))))
  refine Zz (n:=0) (m:=0) J J J (Zld ?_)
  refine Zy J J ?_
  refine ZS0 (t:=188) (v':=.bool false) J (by simp <;> omega) ?_
  refine Zo J (Zzd ?_)
  refine Z6 (Zn (Za (wCondF J (Zj (Zzj ?_)))))
  refine Zp J (Zn (Za ?_))
  exact ⟨rfl,j+1,by omega,by omega,cv,Lh⟩
  refine Zr J J J J (Zr J J J J (Zr J J J J (Zq J J (Zu J J (Zu J J (Zp J (Zn (Za (Zh (Zi (Zo J (Zo J (Zr J J J J (Zr J J J J (Zr J J J J (Zr J J J J (Zr J J J J (Zr J J J J (Zu J J (Zn (Za (wCondF J (Zj (Za (Zh (Zh (wDrawG J [0,1,2,3,4,5,6,7,8,9,10,11,12,13,14,15,16,17,18,19,20] [] [] 24 ZK J J (fun w0=>?_))))))))))))))))))))))))))))
  refine Zo J (Zo J ?_)
  refine ZS0 (t:=144) (v':=.bool false) J (by first | rw [h128] | simp_all) ?_
  refine Zr J J J J (Zr J J J J (Zr J J J J (Zu J J (Zo J (Zr J J J J (Zr J J J J (Zr J J J J (Zr J J J J (Zr J J J J (Zr J J J J (Zr J J J J (Zr J J J J (Zr J J J J (Zr J J J J (Zr J J J J (Zr J J J J (Zr J J J J (Zu J J (Z6 (Zn (Za (wCondF J (Zj (Za (Zh (Zh (wDrawG J [0,1,2,3,4,5,6,7,8,9,10,11,12,13,14,15,16,17,18,19,20,21] [] [] 24 ZK J J (fun w0=>?_))))))))))))))))))))))))))))
  refine Zz (n:=0) (m:=0) J J J (Zld ?_)
  refine Zy J J ?_
  refine ZS0 (t:=166) (v':=.bool false) J (by simp <;> omega) ?_
  refine Zo J (Zq J J (Zz (n:=0) (m:=0) J J J (Zzh ?_)))
  refine Zq J J (Zy J J ?_)
  refine ZS0 (t:=170) (v':=.bool false) J (by simp <;> omega) ?_
  refine Zu J J (Zo J (Zr J J J J (Zr J J J J (Zr J J J J (Zr J J J J (Zr J J J J (Zr J J J J (Zr J J J J (Zr J J J J (Zr J J J J (Zr J J J J (Zr J J J J (Zr J J J J (Zu J J (Z6 (Zn (Za (wCondF J (Zj (Za (Zh (wDrawG J [0,1,2,3,4,5,6,7,8,9,10,11,12,13,14,15,16,17,18,19,20,21,22,23,24,25,26,27,28,29,30,31,32] [] [] 24 ZK J J (fun w0=>?_)))))))))))))))))))))))
  refine Zz (n:=0) (m:=0) J J J (Zld ?_)
  refine Zy J J ?_
  refine ZS0 (t:=188) (v':=.bool false) J (by simp <;> omega) ?_
  refine Zo J (Zzd ?_)
  refine Z6 (Zn (Za (wCondF J (Zj (Zzj ?_)))))
  refine Zp J (Zn (Za ?_))
  exact ⟨rfl,j+1,by omega,by omega,cv,Lh⟩
  refine Zm (Zb (Zb (Ze (Zzj ?_))))
  refine Zp J (Zn (Za ?_))
  exact ⟨rfl,i+1,by omega,by omega,cv,Lh⟩
  refine Zm (Zb (Zb (Ze (Za (Zh (Zh (Zi (Zp J (Zn (Za (Zk (wLoop (ι:=Nat) (fun i=>[(0,.slice A l.length cp),(5,.pointer (some ⟨b5,0,none⟩)),(6,.pointer (some ⟨b6,0,none⟩)),(14,.int .i64 (i:Int))]) (fun i=>[blk b5 43 (z.cells (bindP l s).fEntry),blk b6 45 (rejL (bindR l s))]) (fun i=>i≤(datsTo l l.length).length) (fun i=>(datsTo l l.length).length-i) 0 ?_ cv (Leads.has ZQ) ?_))))))))))))
  exact Nat.zero_le _
  rintro i hi
  try dsimp only
  refine Zh (Zh (Zi (Zo J (Zz (n:=1) (m:=1) J J J (Zld ?_)))))
  refine Zv J J (Zx J J (Zn (Za (wC (fun h223=>?_) (fun h223=>?_)))))
  obtain ⟨x,hx⟩:∃ x,(datsTo l l.length)[i]?=some x:=⟨_,List.getElem?_eq_getElem ZO⟩
  obtain ⟨i2,k2,o,d,ho,hd,rfl⟩:=dats_mem (List.mem_of_getElem? hx)
  have hil:=(List.getElem?_eq_some_iff.1 ho).1
  have hkl:=(List.getElem?_eq_some_iff.1 hd).1
  have hom:=List.mem_of_getElem? ho
  have hgo:=hsm.one hv hom
  have hoz:=obj_zero (hok.objs o hom)
  have hch:=(item_dat (hoz.2 (o.fFuncs.length+k2) ZO) hd).2.2
  have hcl:=(hsm.data o hom d (List.mem_of_getElem? hd)).1
  have hrl:(refsD d).length=d.fWords.length:=(refsD_len d).trans (marksL_len _ _)
  have hbl:(boundL l (i2:Int) (refsD d)).length=d.fWords.length:=by rw [boundL_len,hrl]
  obtain ⟨e1,cs1,hE⟩:=q1.elm hx
  obtain ⟨F0,f0,F1,f1,F2,f2,rfl,n0,r0,n1,r1,n2,r2⟩:=kApiDat_open hE.K
  dsimp only at n0 r0 n1 r1 n2 r2
  refine Zj (Za (Zh (Zk (Zh (Zi (Zz (n:=1) (m:=1) J J J (Zld ?_)))))))
  refine Zo J (oIdxE J J (hE) ZO J J ?_)
  have hc229:=(hE).cell
  refine Zlx hc229 ?_
  refine oAlloc J ZP (fun b15=>?_)
  refine Zsa ?_
  refine Zn (Za (Zh (Zi (Zp J (Zn (Za (Zk (wLoop (ι:=Nat) (fun j=>[(0,.slice A l.length cp),(5,.pointer (some ⟨b5,0,none⟩)),(6,.pointer (some ⟨b6,0,none⟩)),(14,.int .i64 (i:Int)),(15,.pointer (some ⟨b15,0,none⟩)),(16,.int .i64 (j:Int))]) (fun j=>[blk b5 43 (z.cells (bindP l s).fEntry),blk b6 45 (rejL (bindR l s)),blk b15 64 [.int .i64 (i2:Int),.int .i64 ((o.fFuncs.length+k2:Nat):Int),.string (nameI o ((o.fFuncs.length+k2:Nat):Int)),.int .i64 d.fKind,.slice F0 d.fWords.length f0,.slice F1 d.fRelocs.length f1,.slice F2 (boundL l (i2:Int) (refsD d)).length f2]]) (fun j=>j≤(boundL l (i2:Int) (refsD d)).length) (fun j=>(boundL l (i2:Int) (refsD d)).length-j) 0 ?_ cv (Leads.has ZQ) ?_))))))))
  exact Nat.zero_le _
  rintro j hj
  try dsimp only
  refine Zh (Zh (Zi (Zo J (Zz (n:=6) (m:=6) J J J (Zld ?_)))))
  refine Zv J J (Zx J J (Zn (Za (wC (fun h235=>?_) (fun h235=>?_)))))
  have hjr:j<(refsD d).length:=by omega
  have hjs:(refsD d)[j]?=some (refsD d)[j]:=List.getElem?_eq_getElem hjr
  have hbj:=boundL_at (l:=l) (i:=(i2:Int)) hjs
  obtain ⟨er,csr,hEr⟩:=r2.elm hbj
  obtain rfl:=(show csr=[Value.int .i64 (boundE l i2 (refsD d)[j])] from hEr.K)
  have hdr:=data_ref hch _ (List.getElem_mem hjr)
  refine Zj (Za (Zh (Zk (Zh (wDrawG J [0,1,2,3,4,5,6,7,8,9,10,11,12,13,14,15,16,17,18,19,20,21,22,23] [] [] 24 ZK J J (fun w0=>?_))))))
  refine Zz (n:=6) (m:=6) J J J (Zld ?_)
  refine Zo J (oIdxE J J (hEr) ZO J J ?_)
  have hc241:=(hEr).cell
  refine Zlx hc241 ?_
  refine Z2 J J (Zo J (ZS (ZT 244) (fun h244=>?_) (fun h244=>?_)))
  obtain ⟨m,y,hm,hy,hys,hyk⟩:∃ (m:Nat) (y:ApiSymbol),(refsD d)[j]=(m:Int)∧o.fSymbols[m]?=some y∧y.fSort=1∧y.fKind=d.fKind-1:=hdr.resolve_left (fun e=>by rw [e,bound_neg] at h244;omega)
  obtain ⟨n,gg,hnum,hgg,hgk⟩:=tgt_fun hok ho hy hys
  have hb:boundE l i2 (refsD d)[j]=(n:Int):=by rw [bound_num hm,hnum]
  have hyc:=sym_isC (hoz.1 m (List.getElem?_eq_some_iff.1 hy).1) hy hys
  obtain ⟨eg,csg,hEg⟩:=q0.elm hgg
  obtain ⟨G0,g0,G1,g1,G2,g2,G3,g3,G4,g4,rfl,t0,u0,t1,u1,t2,u2,t3,u3,t4,u4⟩:=kApiFun_open hEg.K
  have hggl:=(List.getElem?_eq_some_iff.1 hgg).1
  refine Zq J J (Zz (n:=0) (m:=0) J J J (Zzh ?_))
  refine Zq J J (Zz (n:=6) (m:=6) J J J (Zzh ?_))
  refine Zq J J (Zo J (Zq J J (oIdxE J J (hEr) ZO J J ?_)))
  have hc250:=(hEr).cell
  refine Zq J J (Zlx hc250 ?_)
  refine ZS0 (t:=251) (v':=.int .i64 (n:Int)) rfl (by rw [hb]) ?_
  refine Zq J J (oIdxE J J (hEg) ZO J J ?_)
  have hc252:=(hEg).cell
  refine Zq J J (ZF (ZT 3) (ZT 3) ?_)
  refine Zq J J (ZF (ZT 0) (ZT 3) ?_)
  refine Zq J J (Zlx hc252 ?_)
  refine Zq J J (Zz (n:=3) (m:=3) J J J (Zq J J (Zz (n:=0) (m:=3) J J J (Zzh ?_))))
  refine Zq J J (oSub J J ZO ?_)
  refine Zq J J (Z0 J J ?_)
  refine ZS0 (t:=260) (v':=.bool false) rfl (by rw [hgk,hyk];simp) ?_
  refine Zt J J (Z6 (Zn (Za (wCondF J (Zj (Zzj ?_))))))
  refine Zp J (Zn (Za ?_))
  exact ⟨rfl,j+1,by omega,by omega,cv,Lh⟩
  refine Zr J J J J (Zr J J J J (Zr J J J J (Zr J J J J (Zr J J J J (Zr J J J J (Zr J J J J (Zr J J J J (Zr J J J J (Zr J J J J (Zr J J J J (Zr J J J J (Zr J J J J (Zr J J J J (Zr J J J J (Zr J J J J (Zu J J (Z6 (Zn (Za (wCondF J (Zj (Zzj ?_))))))))))))))))))))))
  refine Zp J (Zn (Za ?_))
  exact ⟨rfl,j+1,by omega,by omega,cv,Lh⟩
  refine Zm (Zb (Zb (Ze (Zzj ?_))))
  refine Zp J (Zn (Za ?_))
  exact ⟨rfl,i+1,by omega,by omega,cv,Lh⟩
  refine Zm (Zb (Zb (Ze (Za (Zh (Zi ?_))))))
  (refine ZC0 rfl ZK (fun w hS=>frame hS ZQ (fun B' hB hS'=>known24 hS')) ?_;rintro ⟨⟩ -)
  refine Zp J (Zza ?_)
  exact ⟨(),trivial,rfl,Lh⟩
end Go.Proofs.YtafiabekcekdbaaGreatO
