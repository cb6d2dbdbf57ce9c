/-
  Part 5 of the proof of BindChecks: contracts of functions, and what follows from them; without conditions.
-/
import Derived.Test.YtafiabekcekdbaaGreatBindChecks4
import Derived.Laws.StructEq
set_option linter.unusedVariables false
set_option linter.unusedSimpArgs false
set_option linter.defProp false
namespace Go.Proofs.YtafiabekcekdbaaGreatW
set_option maxRecDepth 100000
set_option maxHeartbeats 4000000
open Go.RowKit Go.Proofs.YtafiabekcekdbaaGreatK Go.Proofs.YtafiabekcekdbaaGreatT Go.Proofs.YtafiabekcekdbaaGreatL Go.Proofs.YtafiabekcekdbaaGreatV Go.Proofs.YtafiabekcekdbaaGreatG

theorem elm_grow {α:Type}{kd:Kd α}{W W':World}{A:Option Addr}{i:Nat}{u:α}{e:Addr}{cs:List Value}(h:Elm kd W A i u e cs) (g:Grow W W'):Elm kd W' A i u e cs:=⟨h.at_,kd.K_grow g h.K,fun j v hv=>g _ _ (h.cell j v hv)⟩
theorem kFunT_mk {W:World}{i k:Int}{s:ByteArray}{f:ApiFunc}{fc:List Value}{u:Hdr}(h:kApiFunc.K W f fc):kFunT.K W (i,k,s,f,u) (.int .i64 i :: .int .i64 k :: .string s :: (fc++[hV u])):=⟨_,_,rfl,rfl,_,_,rfl,rfl,_,_,rfl,rfl,_,_,rfl,h,rfl⟩
theorem kDatT_mk {W:World}{i k:Int}{s:ByteArray}{f:ApiData}{fc:List Value}{u:Hdr}(h:kApiData.K W f fc):kDatT.K W (i,k,s,f,u) (.int .i64 i :: .int .i64 k :: .string s :: (fc++[hV u])):=⟨_,_,rfl,rfl,_,_,rfl,rfl,_,_,rfl,rfl,_,_,rfl,h,rfl⟩
theorem symsF_take {f:ApiFunc}{j:Nat}(hj:j<f.fCode.length):(symsF f).take (j+1)=(symsF f).take j++[symF f (j:Int)]:=by
 have:(symsF f)[j]?=some (symF f (j:Int)):=rmap_at (e:=fun j:Nat=>symF f (j:Int)) hj
 rw [List.take_add_one,this];rfl
theorem symsF_all (f:ApiFunc):(symsF f).take f.fCode.length=symsF f:=by rw [← symsF_len f,List.take_length]
theorem sum_funs {l:List ApiObject}(h:FewO l) (n:Nat):(funsTo l n).length≤20 * n:=by rw [funsTo_len];exact sumO_le h n
theorem sum_dats {l:List ApiObject}(h:FewO l) (n:Nat):(datsTo l n).length≤20 * n:=by rw [datsTo_len];exact sumO_le h n
theorem ref24_program {B:Base}{w:World}(hS:St B [] w) (A:Option Addr) (cp:Nat) (l:List ApiObject) (W0:World) (hW:Grow W0 B.e) (hC0:kApiObject.C W0 A l) (hv:∀ o ∈ l,vApiObject o) (hok:OkL l) :
 CW 46 #[.slice A l.length cp] w (Ret B (fun z:PZ=>z.ok∧funsOf z.ft z.fr=funsTo l l.length∧datsOf z.dt z.dr=datsTo l l.length) (fun z=>.agg (z.cells 0).toArray) (fun z=>[row kFunT W0 59 (.slice z.Af z.ft.length z.cf) z.ft,bun (rws (Kd.int .i64) W0 3 (z.ft.map hdT) z.fr),row kDatT W0 64 (.slice z.Ad z.dt.length z.cd) z.dt,bun (rws (Kd.int .i64) W0 3 (z.dt.map hdT) z.dr)])):=by
 have hsm:=hok.few
 have hln:=hsm.len
 have hC:=Kd.C_grow hW hC0
 refine ZX Tryz.func46 hS ?_
 refine Zh (Zi (oAlloc J ZP (fun b2=>?_)))
 refine Zn (Za (Zh (Zi (oAlloc J ZP (fun b3=>?_)))))
 refine Zn (Za (Zh (Zh (Zi (Zp J (Zn (Za (Zk (wLoop (ι:=Nat×PZ) (fun x=>[(0,.slice A l.length cp),(2,.pointer (some ⟨b2,0,none⟩)),(3,.pointer (some ⟨b3,0,none⟩)),(4,.int .i64 (x.1:Int))]) (fun x=>[blk b2 43 [.slice none 0 0,.slice none 0 0,.int .i64 0],blk b3 43 (x.2.cells 0),row kFunT W0 59 (.slice x.2.Af x.2.ft.length x.2.cf) x.2.ft,bun (rws (Kd.int .i64) W0 3 (x.2.ft.map hdT) x.2.fr),row kDatT W0 64 (.slice x.2.Ad x.2.dt.length x.2.cd) x.2.dt,bun (rws (Kd.int .i64) W0 3 (x.2.dt.map hdT) x.2.dr)]) (fun x=>x.1≤l.length∧x.2.ok∧funsOf x.2.ft x.2.fr=funsTo l x.1∧datsOf x.2.dt x.2.dr=datsTo l x.1) (fun x=>l.length-x.1) (0,⟨none,0,[],[],none,0,[],[]⟩) ?_ cv (Leads.nilrow.trans (bun_nil.trans (Leads.nilrow.trans (bun_nil.trans Lh)))) ?_)))))))))
 exact ⟨Nat.zero_le _,⟨rfl,rfl⟩,rfl,rfl⟩
 rintro ⟨i,z⟩ ⟨hi,hz,hzf,hzd⟩
 dsimp only at hi hz hzf hzd
 try dsimp only
 refine Zh (Zh (Zi (Zo J (Zo J (Zv J J (Zx J J (Zn (Za (wC (fun h13=>?_) (fun h13=>?_))))))))))
 obtain ⟨o,ho⟩:∃ o,l[i]?=some o:=⟨_,List.getElem?_eq_getElem ZO⟩
 have hom:=List.mem_of_getElem? ho
 have hg:=hsm.one hv hom
 have hg0:=hg.syms
 have hg1:=hg.funcs
 have hg2:=hg.datas
 have hoz:=obj_zero (hok.objs o hom)
 have hoa:=objAt_eq ho
 have hil:i<l.length:=by omega
 obtain ⟨e1,cs1,hE⟩:=hC0.elm ho
 obtain ⟨B0,d0,B1,d1,B2,d2,rfl,m0,q0,m1,q1,m2,q2⟩:=kApiObject_open hE.K
 refine Zj (Za (Zh (Zk (Zh (Zi (Zo J (Zo J (oIdxE J J (elm_grow hE hW) ZO J J ?_))))))))
 have hc18:=(elm_grow hE hW).cell
 refine Zlx hc18 ?_
 refine oAlloc J ZP (fun b5=>?_)
 refine Zsa ?_
 refine Zn (Za (Zh (Zh (Zi (Zp J (Zn (Za (Zk (wLoop (ι:=Nat×PZ) (fun x=>[(0,.slice A l.length cp),(2,.pointer (some ⟨b2,0,none⟩)),(3,.pointer (some ⟨b3,0,none⟩)),(4,.int .i64 (i:Int)),(5,.pointer (some ⟨b5,0,none⟩)),(6,.int .i64 (x.1:Int))]) (fun x=>[blk b2 43 [.slice none 0 0,.slice none 0 0,.int .i64 0],blk b3 43 (x.2.cells 0),row kFunT W0 59 (.slice x.2.Af x.2.ft.length x.2.cf) x.2.ft,bun (rws (Kd.int .i64) W0 3 (x.2.ft.map hdT) x.2.fr),row kDatT W0 64 (.slice x.2.Ad x.2.dt.length x.2.cd) x.2.dt,bun (rws (Kd.int .i64) W0 3 (x.2.dt.map hdT) x.2.dr),blk b5 26 [.slice B0 o.fSymbols.length d0,.slice B1 o.fFuncs.length d1,.slice B2 o.fDatas.length d2]]) (fun x=>x.1≤o.fFuncs.length∧x.2.ok∧funsOf x.2.ft x.2.fr=funsTo l i++(List.range x.1).map (mkFun l i)∧datsOf x.2.dt x.2.dr=datsTo l i) (fun x=>o.fFuncs.length-x.1) (0,z) ?_ cv (Leads.has ZQ) ?_)))))))))
 exact ⟨Nat.zero_le _,hz,by show funsOf z.ft z.fr=_;rw [hzf];simp,hzd⟩
 rintro ⟨k,z⟩ ⟨hk,hz,hzf,hzd⟩
 dsimp only at hk hz hzf hzd
 have hzl:z.ft.length≤1000:=by have h1:=congrArg List.length hzf;unfold funsOf at h1;rw [zip_len hz.f,List.length_append,List.length_map,List.length_range] at h1;have:=sum_funs hsm i;omega
 try dsimp only
 refine Zh (Zh (Zi (Zo J (Zz (n:=1) (m:=1) J J J (Zld ?_)))))
 refine Zv J J (Zx J J (Zn (Za (wC (fun h24=>?_) (fun h24=>?_)))))
 obtain ⟨f,hf⟩:∃ f,o.fFuncs[k]?=some f:=⟨_,List.getElem?_eq_getElem ZO⟩
 have hfm:=List.mem_of_getElem? hf
 have hgf:=hg.fun_ f hfm
 have hfz:=item_fun (hoz.2.2 k ZO) hf
 have hfg:funAt l i k=f:=by unfold funAt;rw [hoa,List.getD_eq_getElem?_getD,hf];rfl
 have hmk:∀ u:Hdr,mkFun l i k=mkF ((i:Int),(k:Int),nameI o (k:Int),f,u) (boundL l i (symsF f)):=fun u=>by unfold mkFun;rw [hoa,hfg];rfl
 obtain ⟨e3,cs3,hE3⟩:=q1.elm hf
 obtain ⟨F0,f0,F1,f1,F2,f2,F3,f3,rfl,n0,r0,n1,r1,n2,r2,n3,r3⟩:=kApiFunc_open hE3.K
 have hsl:=symsF_len f
 have hkf:k<o.fFuncs.length:=by omega
 refine Zj (Za (Zh (Zk (Zh (Zi (Zp J (Zn (Za (Zh (Zh (Zi (Zp J (Zn (Za (Zk (wLoop (ι:=Nat×Option Addr×Nat) (fun x=>[(0,.slice A l.length cp),(2,.pointer (some ⟨b2,0,none⟩)),(3,.pointer (some ⟨b3,0,none⟩)),(4,.int .i64 (i:Int)),(5,.pointer (some ⟨b5,0,none⟩)),(6,.int .i64 (k:Int)),(7,.slice x.2.1 ((symsF f).take x.1).length x.2.2),(8,.int .i64 (x.1:Int))]) (fun x=>[blk b2 43 [.slice none 0 0,.slice none 0 0,.int .i64 0],blk b3 43 (z.cells 0),row kFunT W0 59 (.slice z.Af z.ft.length z.cf) z.ft,bun (rws (Kd.int .i64) W0 3 (z.ft.map hdT) z.fr),row kDatT W0 64 (.slice z.Ad z.dt.length z.cd) z.dt,bun (rws (Kd.int .i64) W0 3 (z.dt.map hdT) z.dr),blk b5 26 [.slice B0 o.fSymbols.length d0,.slice B1 o.fFuncs.length d1,.slice B2 o.fDatas.length d2],row (Kd.int .i64) W0 3 (.slice x.2.1 ((symsF f).take x.1).length x.2.2) ((symsF f).take x.1)]) (fun x=>x.1≤f.fCode.length) (fun x=>f.fCode.length-x.1) (0,none,0) ?_ cv (Leads.nilrow.trans Lh) ?_))))))))))))))))
 exact Nat.zero_le _
 rintro ⟨j,A7,c7⟩ hj
 dsimp only at hj
 have htl:((symsF f).take j).length≤1000:=by rw [List.length_take];omega
 try dsimp only
 refine Zh (Zh (Zi (Zo J (Zz (n:=1) (m:=1) J J J (Zld ?_)))))
 refine Zo J (oIdxE J J (elm_grow hE3 hW) ZO J J ?_)
 have hc31:=(elm_grow hE3 hW).cell
 refine ZF (ZT 7) (ZT 7) ?_
 refine Zlx hc31 ?_
 refine Zv J J (Zx J J (Zn (Za (wC (fun h35=>?_) (fun h35=>?_)))))
 refine Zj (Za (Zh (Zk (Zi (Zo J (Zz (n:=1) (m:=1) J J J (Zld ?_)))))))
 refine Zo J (oIdxE J J (elm_grow hE3 hW) ZO J J ?_)
 have hc42:=(elm_grow hE3 hW).cell
 refine Zlx hc42 ?_
 refine Zo J ?_
 (refine ZC0 rfl ZK (fun w hS=>frame hS ZQ (fun B' hB hS'=>ref17_Sym hS' f _ (kApiFunc_mk _ f n0 (Kd.C_grow (hW.trans hB) r0) n1 (Kd.C_grow (hW.trans hB) r1) n2 (Kd.C_grow (hW.trans hB) r2) n3 (Kd.C_grow (hW.trans hB) r3)) (j:Int))) ?_;rintro ⟨⟩ -)
 refine oBuildSlice1 J J J J J ZP J (fun b46=>?_)
 refine oApp1 (symF f (j:Int)) J J J J ZP ZP J ZO J (fun g47 cp47=>?_)
 rw [show ((symsF f).take j).length+1=((symsF f).take (j+1)).length by rw [symsF_take ZO,List.length_append];rfl,← symsF_take ZO]
 refine Zp J (Zn (Zze ?_))
 refine Zp J (Zn (Za ?_))
 exact ⟨rfl,(j+1,some ⟨g47,0,none⟩,cp47),by show j+1≤_;omega,by show f.fCode.length-(j+1)<f.fCode.length-j;omega,cv,Lh⟩
 obtain rfl:j=f.fCode.length:=by omega
 rw [symsF_all]
 refine Zm (Zb (Zb (Ze (Za (wDrawG J [0,1,2,3,4,5,7,8,9,10,11,12,13,14] [(6,[0,1,2,3,7,8,9,10,11,12,13,14],[]),(15,[0,1,2,3,7,8,9,10,11],[16]),(17,[0,1],[]),(18,[],[])] [19,20] 24 ZK J J (fun w0=>?_))))))
 refine Zz (n:=0) (m:=0) J J J (Zld ?_)
 refine Zo J (Zo J (Zla ?_))
 refine Zo J (Zz (n:=1) (m:=1) J J J (Zld ?_))
 refine Zo J (oIdxE J J (elm_grow hE3 hW) ZO J J ?_)
 have hc58:=(elm_grow hE3 hW).cell
 refine Zlx hc58 ?_
 refine Zo J (Zo J (Zo J (Z4 (Z5 J ?_))))
 (refine ZC0 rfl ZK (fun w hS=>frame hS ZQ (fun B' hB hS'=>ref24_name hS' o _ (kApiObject_mk _ o m0 (Kd.C_grow (hW.trans hB) q0) m1 (Kd.C_grow (hW.trans hB) q1) m2 (Kd.C_grow (hW.trans hB) q2)) hg (k:Int) hfz.1)) ?_;rintro ⟨⟩ -)
 refine ZG ?_ J (fun w0=>?_)
 refine Z8 J J J J (fun w0=>?_) ?_
 refine Zz (n:=0) (m:=0) J J J ?_
 exact Z9 rfl
 refine Z8 J J J J (fun w0=>?_) ?_
 refine Zld ?_
 exact Z9 rfl
 refine Z8 J J J J (fun w0=>?_) ?_
 refine Zo J ?_
 exact Z9 rfl
 refine Z8 J J J J (fun w0=>?_) ?_
 refine Zo J ?_
 exact Z9 rfl
 refine Z8 J J J J (fun w0=>?_) ?_
 refine Zz (n:=1) (m:=1) J J J ?_
 exact Z9 rfl
 refine Z8 J J J J (fun w0=>?_) ?_
 refine Zld ?_
 exact Z9 rfl
 refine Z8 J J J J (fun w0=>?_) ?_
 refine Zo J ?_
 exact Z9 rfl
 refine Z8 J J J J (fun w0=>?_) ?_
 refine oIdxE J J (elm_grow hE3 hW) ZO J J ?_
 have hc58:=(elm_grow hE3 hW).cell
 exact Z9 rfl
 refine Z8 J J J J (fun w0=>?_) ?_
 refine Zlx hc58 ?_
 exact Z9 rfl
 refine Z8 J J J J (fun w0=>?_) ?_
 refine Zo J ?_
 exact Z9 rfl
 refine Z8 J J J J (fun w0=>?_) ?_
 refine Zo J ?_
 exact Z9 rfl
 refine Z8 J J J J (fun w0=>?_) ?_
 refine Zo J ?_
 exact Z9 rfl
 exact AgainG.nil
 refine Z4 (Z5 J ?_)
 (refine ZD J (fun w B' hB hR hS'=>ref24_bound hS' A cp l (Kd.C_grow hB hC) hsm i A7 c7 (symsF f) (row_Cs (W:=W0) (e:=3) (n:=(symsF f).length) (cp:=c7) (hR _ _ ZP)) ZO (hok.syms ho (syms_in hfz.2.2.1)) W0) ?_;rintro ⟨A63,c63⟩ -)
 refine ZG ?_ J (fun w0=>?_)
 refine Z8 J J J J (fun w0=>?_) ?_
 refine Zz (n:=0) (m:=0) J J J ?_
 exact Z9 rfl
 refine Z8 J J J J (fun w0=>?_) ?_
 refine Zld ?_
 exact Z9 rfl
 refine Z8 J J J J (fun w0=>?_) ?_
 refine Zo J ?_
 exact Z9 rfl
 refine Z8 J J J J (fun w0=>?_) ?_
 refine Zo J ?_
 exact Z9 rfl
 refine Z8 J J J J (fun w0=>?_) ?_
 refine Zz (n:=1) (m:=1) J J J ?_
 exact Z9 rfl
 refine Z8 J J J J (fun w0=>?_) ?_
 refine Zld ?_
 exact Z9 rfl
 refine Z8 J J J J (fun w0=>?_) ?_
 refine Zo J ?_
 exact Z9 rfl
 refine Z8 J J J J (fun w0=>?_) ?_
 refine oIdxE J J (elm_grow hE3 hW) ZO J J ?_
 have hc58:=(elm_grow hE3 hW).cell
 exact Z9 rfl
 refine Z8 J J J J (fun w0=>?_) ?_
 refine Zlx hc58 ?_
 exact Z9 rfl
 exact AgainG.nil
 refine oBuild (Parts.cons J (Parts.cons J (Parts.cons J (Parts.cons J (Parts.cons J Parts.nil))))) J J (Built.cons (off:=0) (s:=1) J ZP J ZP (Built.cons (off:=1) (s:=1) J ZP J ZP (Built.cons (off:=2) (s:=1) J ZP J ZP (Built.cons (off:=3) (s:=9) J ZP J ZP (Built.cons (off:=12) (s:=1) J ZP J ZP Built.nil))))) ?_
 refine Z4 (Z5 J (oBuildSlice1 J J J J J ZP J (fun b65=>?_)))
 refine ZG ?_ J (fun w0=>?_)
 refine Z8 J J J J (fun w0=>?_) ?_
 refine Zz (n:=0) (m:=0) J J J ?_
 exact Z9 rfl
 refine Z8 J J J J (fun w0=>?_) ?_
 refine Zld ?_
 exact Z9 rfl
 exact AgainG.nil
 refine Z4 (Z5 J (oApp1 (kd:=kFunT) (W:=W0) (xs:=z.ft) ((i:Int),(k:Int),nameI o (k:Int),f,(A63,(boundL l i (symsF f)).length,c63)) J J J J ZP ZP (kFunT_mk (kApiFunc_mk _ f n0 r0 n1 r1 n2 r2 n3 r3)) ZO J (fun g66 cp66=>?_)))
 rw [show z.ft.length+1=(z.ft++[((i:Int),(k:Int),nameI o (k:Int),f,(A63,(boundL l i (symsF f)).length,c63))]).length by rw [List.length_append];rfl]
 refine oSnoc (kd:=Kd.int .i64) (W:=W0) (ei:=3) (u:=(A63,(boundL l i (symsF f)).length,c63)) (l:=boundL l i (symsF f)) (hs:=z.ft.map hdT) (xss:=z.fr) ZP ZP (by rw [List.length_map];exact hz.f) ?_
 rw [show z.ft.map hdT++[(A63,(boundL l i (symsF f)).length,c63)]=(z.ft++[((i:Int),(k:Int),nameI o (k:Int),f,(A63,(boundL l i (symsF f)).length,c63))]).map hdT by rw [List.map_append];rfl]
 refine ZG ?_ J (fun w0=>?_)
 exact AgainG.nil
 refine Z6 (Zz (n:=0) (m:=0) J J J (Zst ?_))
 refine Zn (Zze ?_)
 refine Zp J (Zn (Za ?_))
 exact ⟨rfl,(k+1,⟨some ⟨g66,0,none⟩,cp66,z.ft++[((i:Int),(k:Int),nameI o (k:Int),f,(A63,(boundL l i (symsF f)).length,c63))],z.fr++[boundL l i (symsF f)],z.Ad,z.cd,z.dt,z.dr⟩),⟨by show k+1≤_;omega,⟨by show (z.ft++[_]).length=(z.fr++[_]).length;rw [List.length_append,List.length_append,hz.f];rfl,hz.d⟩,by show funsOf (z.ft++[_]) (z.fr++[_])=_;unfold funsOf;rw [zip_snoc hz.f,← hmk (A63,(boundL l i (symsF f)).length,c63)];rw [show List.zipWith mkF z.ft z.fr=funsOf z.ft z.fr from rfl,hzf,List.append_assoc,List.range_succ,List.map_append];rfl,hzd⟩,by show o.fFuncs.length-(k+1)<o.fFuncs.length-k;omega,cv,Lh⟩
 obtain rfl:k=o.fFuncs.length:=by omega
 have hzf:funsOf z.ft z.fr=funsTo l (i+1):=by rw [hzf,funsTo_succ];unfold fileFuns;rw [hoa]
 refine Zm (Zb (Zb (Ze (Za (Zh (Zi (Zp J (Zn (Za (Zk (wLoop (ι:=Nat×PZ) (fun x=>[(0,.slice A l.length cp),(2,.pointer (some ⟨b2,0,none⟩)),(3,.pointer (some ⟨b3,0,none⟩)),(4,.int .i64 (i:Int)),(5,.pointer (some ⟨b5,0,none⟩)),(9,.int .i64 (x.1:Int))]) (fun x=>[blk b2 43 [.slice none 0 0,.slice none 0 0,.int .i64 0],blk b3 43 (x.2.cells 0),row kFunT W0 59 (.slice x.2.Af x.2.ft.length x.2.cf) x.2.ft,bun (rws (Kd.int .i64) W0 3 (x.2.ft.map hdT) x.2.fr),row kDatT W0 64 (.slice x.2.Ad x.2.dt.length x.2.cd) x.2.dt,bun (rws (Kd.int .i64) W0 3 (x.2.dt.map hdT) x.2.dr),blk b5 26 [.slice B0 o.fSymbols.length d0,.slice B1 o.fFuncs.length d1,.slice B2 o.fDatas.length d2]]) (fun x=>x.1≤o.fDatas.length∧x.2.ok∧funsOf x.2.ft x.2.fr=funsTo l (i+1)∧datsOf x.2.dt x.2.dr=datsTo l i++(List.range x.1).map (mkDat l i)) (fun x=>o.fDatas.length-x.1) (0,z) ?_ cv (Leads.has ZQ) ?_)))))))))))
 exact ⟨Nat.zero_le _,hz,hzf,by show datsOf z.dt z.dr=_;rw [hzd];simp⟩
 rintro ⟨k,z⟩ ⟨hk,hz,hzf,hzd⟩
 dsimp only at hk hz hzf hzd
 have hzl:z.dt.length≤1000:=by have h1:=congrArg List.length hzd;unfold datsOf at h1;rw [zip_len hz.d,List.length_append,List.length_map,List.length_range] at h1;have:=sum_dats hsm i;omega
 try dsimp only
 refine Zh (Zh (Zi (Zo J (Zz (n:=2) (m:=2) J J J (Zld ?_)))))
 refine Zv J J (Zx J J (Zn (Za (wC (fun h72=>?_) (fun h72=>?_)))))
 obtain ⟨d,hd⟩:∃ d,o.fDatas[k]?=some d:=⟨_,List.getElem?_eq_getElem ZO⟩
 have hdm:=List.mem_of_getElem? hd
 have hgd:=hg.data d hdm
 have hdz:=item_dat (hoz.2.2 (o.fFuncs.length+k) ZO) hd
 have hdg:datAt l i k=d:=by unfold datAt;rw [hoa,List.getD_eq_getElem?_getD,hd];rfl
 have hmk:∀ u:Hdr,mkDat l i k=mkD ((i:Int),((o.fFuncs.length+k:Nat):Int),nameI o ((o.fFuncs.length+k:Nat):Int),d,u) (boundL l i (refsD d)):=fun u=>by unfold mkDat;rw [hoa,hdg];rfl
 obtain ⟨e3,cs3,hE3⟩:=q2.elm hd
 obtain ⟨F0,f0,F1,f1,rfl,n0,r0,n1,r1⟩:=kApiData_open hE3.K
 have hrl:(refsD d).length=d.fWords.length:=(refsD_len d).trans (marksL_len _ _)
 have hkd:k<o.fDatas.length:=by omega
 refine Zj (Za (Zh (Zk (wDrawG J [0,1,2,3,4,5,6,7,8,9,10,11,12,13,15,16,17,18,19,20,21,22,23,24,25,26] [(14,[0,1,2,3,4,5,6,7,15,16,17,18,19,20,21,22,23,24,25,26],[]),(27,[0,1,2,3,4,5,6,7,15,16,17,18,19,20,21],[]),(28,[0,1,2,3,4,5,6,7,15,16,17,18,19],[29]),(30,[0,1],[]),(31,[],[])] [32,33] 24 ZK J J (fun w0=>?_)))))
 refine Zz (n:=1) (m:=1) J J J (Zld ?_)
 refine Zo J (Zz (n:=1) (m:=1) J J J (Zld ?_))
 refine Zv J J (Zo J (oAdd J J ZO ?_))
 refine ZS0 (t:=82) (v':=.int .i64 ((o.fFuncs.length+k:Nat):Int)) J (by congr 1) ?_
 refine Zla ?_
 refine Zz (n:=1) (m:=1) J J J (Zld ?_)
 refine Zv J J (Zo J (oAdd J J ZO ?_))
 refine ZS0 (t:=88) (v':=.int .i64 ((o.fFuncs.length+k:Nat):Int)) J (by congr 1) ?_
 refine Zz (n:=2) (m:=2) J J J (Zld ?_)
 refine Zo J (oIdxE J J (elm_grow hE3 hW) ZO J J ?_)
 have hc93:=(elm_grow hE3 hW).cell
 refine Zlx hc93 ?_
 refine Zo J (Zo J (Zz (n:=2) (m:=2) J J J (Zld ?_)))
 refine Zo J (oIdxE J J (elm_grow hE3 hW) ZO J J ?_)
 have hc100:=(elm_grow hE3 hW).cell
 refine Zlx hc100 ?_
 refine Z4 (Z5 J ?_)
 (refine ZC0 rfl ZK (fun w hS=>frame hS ZQ (fun B' hB hS'=>ref24_name hS' o _ (kApiObject_mk _ o m0 (Kd.C_grow (hW.trans hB) q0) m1 (Kd.C_grow (hW.trans hB) q1) m2 (Kd.C_grow (hW.trans hB) q2)) hg ((o.fFuncs.length+k:Nat):Int) hdz.1)) ?_;rintro ⟨⟩ -)
 refine ZG ?_ J (fun w0=>?_)
 refine Z8 J J J J (fun w0=>?_) ?_
 refine Zz (n:=1) (m:=1) J J J ?_
 exact Z9 rfl
 refine Z8 J J J J (fun w0=>?_) ?_
 refine Zld ?_
 exact Z9 rfl
 refine Z8 J J J J (fun w0=>?_) ?_
 refine Zo J ?_
 exact Z9 rfl
 refine Z8 J J J J (fun w0=>?_) ?_
 refine Zz (n:=1) (m:=1) J J J ?_
 exact Z9 rfl
 refine Z8 J J J J (fun w0=>?_) ?_
 refine Zld ?_
 exact Z9 rfl
 refine Z8 J J J J (fun w0=>?_) ?_
 refine Zv J J ?_
 exact Z9 rfl
 refine Z8 J J J J (fun w0=>?_) ?_
 refine Zo J ?_
 exact Z9 rfl
 refine Z8 J J J J (fun w0=>?_) ?_
 refine oAdd J J ZO ?_
 refine ZS0 (t:=82) (v':=.int .i64 ((o.fFuncs.length+k:Nat):Int)) J (by congr 1) ?_
 exact Z9 rfl
 refine Z8 J J J J (fun w0=>?_) ?_
 refine Zz (n:=2) (m:=2) J J J ?_
 exact Z9 rfl
 refine Z8 J J J J (fun w0=>?_) ?_
 refine Zld ?_
 exact Z9 rfl
 refine Z8 J J J J (fun w0=>?_) ?_
 refine Zo J ?_
 exact Z9 rfl
 refine Z8 J J J J (fun w0=>?_) ?_
 refine oIdxE J J (elm_grow hE3 hW) ZO J J ?_
 have hc93:=(elm_grow hE3 hW).cell
 exact Z9 rfl
 refine Z8 J J J J (fun w0=>?_) ?_
 refine Zlx hc93 ?_
 exact Z9 rfl
 refine Z8 J J J J (fun w0=>?_) ?_
 refine Zo J ?_
 exact Z9 rfl
 refine Z8 J J J J (fun w0=>?_) ?_
 refine Zo J ?_
 exact Z9 rfl
 refine Z8 J J J J (fun w0=>?_) ?_
 refine Zz (n:=2) (m:=2) J J J ?_
 exact Z9 rfl
 refine Z8 J J J J (fun w0=>?_) ?_
 refine Zld ?_
 exact Z9 rfl
 refine Z8 J J J J (fun w0=>?_) ?_
 refine Zo J ?_
 exact Z9 rfl
 refine Z8 J J J J (fun w0=>?_) ?_
 refine oIdxE J J (elm_grow hE3 hW) ZO J J ?_
 have hc100:=(elm_grow hE3 hW).cell
 exact Z9 rfl
 refine Z8 J J J J (fun w0=>?_) ?_
 refine Zlx hc100 ?_
 exact Z9 rfl
 exact AgainG.nil
 refine Z4 (Z5 J ?_)
 (refine ZC0 rfl ZK (fun w hS=>frame hS ZQ (fun B' hB hS'=>ref15_Refs hS' d _ (kApiData_mk _ d n0 (Kd.C_grow (hW.trans hB) r0) n1 (Kd.C_grow (hW.trans hB) r1)) ZO ZO W0)) ?_;rintro ⟨A102,c102⟩ -)
 refine ZS0 (t:=102) (v':=.slice A102 (refsD d).length c102) rfl (by rw [hrl]) ?_
 refine ZG ?_ J (fun w0=>?_)
 refine Z8 J J J J (fun w0=>?_) ?_
 refine Zz (n:=1) (m:=1) J J J ?_
 exact Z9 rfl
 refine Z8 J J J J (fun w0=>?_) ?_
 refine Zld ?_
 exact Z9 rfl
 refine Z8 J J J J (fun w0=>?_) ?_
 refine Zo J ?_
 exact Z9 rfl
 refine Z8 J J J J (fun w0=>?_) ?_
 refine Zz (n:=1) (m:=1) J J J ?_
 exact Z9 rfl
 refine Z8 J J J J (fun w0=>?_) ?_
 refine Zld ?_
 exact Z9 rfl
 refine Z8 J J J J (fun w0=>?_) ?_
 refine Zv J J ?_
 exact Z9 rfl
 refine Z8 J J J J (fun w0=>?_) ?_
 refine Zo J ?_
 exact Z9 rfl
 refine Z8 J J J J (fun w0=>?_) ?_
 refine oAdd J J ZO ?_
 refine ZS0 (t:=82) (v':=.int .i64 ((o.fFuncs.length+k:Nat):Int)) J (by congr 1) ?_
 exact Z9 rfl
 refine Z8 J J J J (fun w0=>?_) ?_
 refine Zz (n:=2) (m:=2) J J J ?_
 exact Z9 rfl
 refine Z8 J J J J (fun w0=>?_) ?_
 refine Zld ?_
 exact Z9 rfl
 refine Z8 J J J J (fun w0=>?_) ?_
 refine Zo J ?_
 exact Z9 rfl
 refine Z8 J J J J (fun w0=>?_) ?_
 refine oIdxE J J (elm_grow hE3 hW) ZO J J ?_
 have hc93:=(elm_grow hE3 hW).cell
 exact Z9 rfl
 refine Z8 J J J J (fun w0=>?_) ?_
 refine Zlx hc93 ?_
 exact Z9 rfl
 refine Z8 J J J J (fun w0=>?_) ?_
 refine Zo J ?_
 exact Z9 rfl
 refine Z8 J J J J (fun w0=>?_) ?_
 refine Zo J ?_
 exact Z9 rfl
 exact AgainG.nil
 refine Z4 (Z5 J ?_)
 (refine ZD J (fun w B' hB hR hS'=>ref24_bound hS' A cp l (Kd.C_grow hB hC) hsm i A102 c102 (refsD d) (row_Cs (W:=W0) (e:=3) (n:=d.fWords.length) (cp:=c102) (hR _ _ ZP)) ZO (hok.syms ho (refs_in hdz.2.2)) W0) ?_;rintro ⟨A103,c103⟩ -)
 refine ZG ?_ J (fun w0=>?_)
 refine Z8 J J J J (fun w0=>?_) ?_
 refine Zz (n:=1) (m:=1) J J J ?_
 exact Z9 rfl
 refine Z8 J J J J (fun w0=>?_) ?_
 refine Zld ?_
 exact Z9 rfl
 refine Z8 J J J J (fun w0=>?_) ?_
 refine Zo J ?_
 exact Z9 rfl
 refine Z8 J J J J (fun w0=>?_) ?_
 refine Zz (n:=1) (m:=1) J J J ?_
 exact Z9 rfl
 refine Z8 J J J J (fun w0=>?_) ?_
 refine Zld ?_
 exact Z9 rfl
 refine Z8 J J J J (fun w0=>?_) ?_
 refine Zv J J ?_
 exact Z9 rfl
 refine Z8 J J J J (fun w0=>?_) ?_
 refine Zo J ?_
 exact Z9 rfl
 refine Z8 J J J J (fun w0=>?_) ?_
 refine oAdd J J ZO ?_
 refine ZS0 (t:=82) (v':=.int .i64 ((o.fFuncs.length+k:Nat):Int)) J (by congr 1) ?_
 exact Z9 rfl
 refine Z8 J J J J (fun w0=>?_) ?_
 refine Zz (n:=2) (m:=2) J J J ?_
 exact Z9 rfl
 refine Z8 J J J J (fun w0=>?_) ?_
 refine Zld ?_
 exact Z9 rfl
 refine Z8 J J J J (fun w0=>?_) ?_
 refine Zo J ?_
 exact Z9 rfl
 refine Z8 J J J J (fun w0=>?_) ?_
 refine oIdxE J J (elm_grow hE3 hW) ZO J J ?_
 have hc93:=(elm_grow hE3 hW).cell
 exact Z9 rfl
 refine Z8 J J J J (fun w0=>?_) ?_
 refine Zlx hc93 ?_
 exact Z9 rfl
 exact AgainG.nil
 refine oBuild (Parts.cons J (Parts.cons J (Parts.cons J (Parts.cons J (Parts.cons J Parts.nil))))) J J (Built.cons (off:=0) (s:=1) J ZP J ZP (Built.cons (off:=1) (s:=1) J ZP J ZP (Built.cons (off:=2) (s:=1) J ZP J ZP (Built.cons (off:=3) (s:=3) J ZP J ZP (Built.cons (off:=6) (s:=1) J ZP J ZP Built.nil))))) ?_
 refine Z4 (Z5 J (oBuildSlice1 J J J J J ZP J (fun b105=>?_)))
 refine ZG ?_ J (fun w0=>?_)
 refine Z8 J J J J (fun w0=>?_) ?_
 refine Zz (n:=1) (m:=1) J J J ?_
 exact Z9 rfl
 refine Z8 J J J J (fun w0=>?_) ?_
 refine Zld ?_
 exact Z9 rfl
 exact AgainG.nil
 refine Z4 (Z5 J (oApp1 (kd:=kDatT) (W:=W0) (xs:=z.dt) ((i:Int),((o.fFuncs.length+k:Nat):Int),nameI o ((o.fFuncs.length+k:Nat):Int),d,(A103,(boundL l i (refsD d)).length,c103)) J J J J ZP ZP (kDatT_mk (kApiData_mk _ d n0 r0 n1 r1)) ZO J (fun g106 cp106=>?_)))
 rw [show z.dt.length+1=(z.dt++[((i:Int),((o.fFuncs.length+k:Nat):Int),nameI o ((o.fFuncs.length+k:Nat):Int),d,(A103,(boundL l i (refsD d)).length,c103))]).length by rw [List.length_append];rfl]
 refine oSnoc (kd:=Kd.int .i64) (W:=W0) (ei:=3) (u:=(A103,(boundL l i (refsD d)).length,c103)) (l:=boundL l i (refsD d)) (hs:=z.dt.map hdT) (xss:=z.dr) ZP ZP (by rw [List.length_map];exact hz.d) ?_
 rw [show z.dt.map hdT++[(A103,(boundL l i (refsD d)).length,c103)]=(z.dt++[((i:Int),((o.fFuncs.length+k:Nat):Int),nameI o ((o.fFuncs.length+k:Nat):Int),d,(A103,(boundL l i (refsD d)).length,c103))]).map hdT by rw [List.map_append];rfl]
 refine ZG ?_ J (fun w0=>?_)
 exact AgainG.nil
 refine Z6 (Zz (n:=1) (m:=1) J J J (Zst ?_))
 refine Zn (Zze ?_)
 refine Zp J (Zn (Za ?_))
 exact ⟨rfl,(k+1,⟨z.Af,z.cf,z.ft,z.fr,some ⟨g106,0,none⟩,cp106,z.dt++[((i:Int),((o.fFuncs.length+k:Nat):Int),nameI o ((o.fFuncs.length+k:Nat):Int),d,(A103,(boundL l i (refsD d)).length,c103))],z.dr++[boundL l i (refsD d)]⟩),⟨by show k+1≤_;omega,⟨hz.f,by show (z.dt++[_]).length=(z.dr++[_]).length;rw [List.length_append,List.length_append,hz.d];rfl⟩,hzf,by show datsOf (z.dt++[_]) (z.dr++[_])=_;unfold datsOf;rw [zip_snoc hz.d,← hmk (A103,(boundL l i (refsD d)).length,c103)];rw [show List.zipWith mkD z.dt z.dr=datsOf z.dt z.dr from rfl,hzd,List.append_assoc,List.range_succ,List.map_append];rfl⟩,by show o.fDatas.length-(k+1)<o.fDatas.length-k;omega,cv,Lh⟩
 obtain rfl:k=o.fDatas.length:=by omega
 refine Zm (Zb (Zb (Ze (Zze ?_))))
 refine Zp J (Zn (Za ?_))
 exact ⟨rfl,(i+1,z),⟨by show i+1≤_;omega,hz,hzf,by show datsOf z.dt z.dr=_;rw [hzd,datsTo_succ];unfold fileDats;rw [hoa]⟩,by show l.length-(i+1)<l.length-i;omega,cv,Lh⟩
 obtain rfl:i=l.length:=by omega
 refine Zm (Zb (Zb (Ze (Za (Zzt ?_)))))
 refine Zsa ?_
 refine Zn (Za (Zl (Zw (ZI ?_))))
 exact ⟨z,⟨hz,hzf,hzd⟩,rfl,Lh⟩
end Go.Proofs.YtafiabekcekdbaaGreatW
namespace Go.Proofs.YtafiabekcekdbaaGreatO
set_option maxRecDepth 100000
set_option maxHeartbeats 4000000
open Go.RowKit Go.Proofs.YtafiabekcekdbaaGreatK Go.Proofs.YtafiabekcekdbaaGreatT Go.Proofs.YtafiabekcekdbaaGreatL Go.Proofs.YtafiabekcekdbaaGreatV Go.Proofs.YtafiabekcekdbaaGreatG Go.Proofs.YtafiabekcekdbaaGreatW Go.Proofs.YtafiabekcekdbaaGreatU

theorem sym_sort {o:ApiObject}{i:Nat}{x:ApiSymbol}(h:symE o i=0) (hx:o.fSymbols[i]?=some x):x.fSort=1∨x.fSort=2:=by
 rw [symE_at hx] at h
 unfold symX at h
 split at h
 · next h1=>exact absurd h h1
 · split at h
   · exact absurd h (by decide)
   · next h1=>
     simp [kindB] at h1
     omega
theorem ok_bo {l:List ApiObject}(h:OkL l) {i:Nat}{o:ApiObject}(ho:l[i]?=some o) {syms:List Int}(hs:∀ s ∈ syms,0≤s→s<(o.fSymbols.length:Int)) (hn:∀ s ∈ syms,s<0→s = -1):∀ s ∈ syms,BoOk l i s:=by
 intro s hm
 by_cases h0:s<0
 · exact .inl ⟨h0,hn s hm h0⟩
 · right
   obtain ⟨k,rfl⟩:=Int.eq_ofNat_of_zero_le (Int.not_lt.1 h0)
   have hk:k<o.fSymbols.length:=by have:=hs _ hm ZO;omega
   obtain ⟨i2,k2,o2,y,e,ho2,hy,h1,h2⟩:=h.bnd ho hk
   exact ⟨k,i2,k2,o2,y,rfl,e,ho2,hy,sym_sort ((obj_zero (h.objs o2 (List.mem_of_getElem? ho2))).2.1 k2 (List.getElem?_eq_some_iff.1 hy).1) hy,h1,h2⟩
theorem syms_neg {f:ApiFunc}{l:List ApiSymbol}(h:chkE f l=0):∀ s ∈ symsF f,s<0→s = -1:=by
 intro s hs h0
 obtain ⟨j,hj,rfl⟩:=List.mem_map.1 hs
 have hr:=ref_zero h (List.mem_range.1 hj)
 unfold refE at hr
 split at hr
 · next h1=>unfold symF;rw [if_pos h1.2]
 · split at hr
   · exact absurd hr (by decide)
   · next h1=>exfalso;omega
theorem refs_neg {d:ApiData}{l:List ApiSymbol}(h:dataF d l=0):∀ s ∈ refsD d,s<0→s = -1:=by
 intro s hs h0
 obtain ⟨m,hm,rfl⟩:=List.mem_map.1 hs
 obtain ⟨i,hi,rfl⟩:=List.mem_map.1 hm
 unfold refD at h0 ⊢
 split at h0
 · next h1=>
   exfalso
   obtain ⟨k,x,hk,hx,hp⟩:=idxI_at h1
   rw [hk,Int.toNat_natCast,List.getD_eq_getElem?_getD,hx] at h0
   have hkl:=(List.getElem?_eq_some_iff.1 hx).1
   unfold dataF at h
   split at h
   · exact absurd h (by decide)
   · split at h
     · exact absurd h (by decide)
     · split at h
       · exact absurd h (by decide)
       · have hr:relE d l k=0:=fstE_zero.1 h _ (List.mem_map.2 ⟨k,List.mem_range.2 hkl,rfl⟩)
         rw [relE_at hx] at hr
         unfold dRelE at hr
         split at hr
         · exact absurd hr (by decide)
         · next h2=>
           have:x.fSym<0:=h0
           omega
 · next h1=>rw [if_neg h1]
theorem bun_take {B:Base}{Φ Φ' Φ'' Ψ Ψ':List Res}(hs:Split Φ Ψ' Φ') (hp:Pick Φ' (bun Ψ) Φ''):Leads B Φ (bun (Ψ++Ψ') :: Φ''):=fun w h=>by
 have h1:St B (bun Ψ :: (Ψ'++Φ'')) w:=h.perm (hs.perm.trans ((hp.perm.append_left Ψ').trans List.perm_middle))
 exact St.pack (by rw [List.append_assoc];exact h1.unpack)
theorem bun_left {Ψ Ψ':List Res}{w:World}(h:(bun (Ψ++Ψ')).q w):(bun Ψ).q w:=⟨fun r hr=>h.1 r (List.mem_append_left _ hr),(List.pairwise_append.1 h.2).1⟩
structure PR where
  Af:Option Addr
  cf:Nat
  rf:List (List Value)
  Ad:Option Addr
  cd:Nat
  rd:List (List Value)
  Ψ:List Res
def PR.ok (z:PR) (fs:List ApiFun) (ds:List ApiDat):Prop:=∀ w,(bun z.Ψ).q w→Raws kApiFun w fs z.rf∧Raws kApiDat w ds z.rd
abbrev PR.cells (z:PR) (e:Int):List Value:=[.slice z.Af z.rf.length z.cf,.slice z.Ad z.rd.length z.cd,.int .i64 e]
theorem PR.K {W W' w:World}{ef ed:TypeId}{z:PR}{fs:List ApiFun}{ds:List ApiDat}(hz:z.ok fs ds) (h1:(row (kRaw 13) W ef (.slice z.Af z.rf.length z.cf) z.rf).q w) (h2:(row (kRaw 7) W' ed (.slice z.Ad z.rd.length z.cd) z.rd).q w) (h3:(bun z.Ψ).q w) (e:Int):kApiProgram.K w ⟨fs,ds,e⟩ (z.cells e):=by
 obtain ⟨k1,k2⟩:=hz w h3
 have l1:=k1.length
 have l2:=k2.length
 unfold PR.cells
 rw [l1,l2]
 exact kApiProgram_mk w ⟨fs,ds,e⟩ (by rw [← l1];exact (row_len h1).2) (rawrow h1 rfl k1) (by rw [← l2];exact (row_len h2).2) (rawrow h2 rfl k2)
abbrev funT (i k:Int) (s:ByteArray) (f:ApiFunc) (z:(Option Addr×Nat)×(Option Addr×Nat)×(Option Addr×Nat)×(Option Addr×Nat)) (r:Hdr):List Value:=.int .i64 i :: .int .i64 k :: .string s :: (funC f z++[hV r])
abbrev datT (i k:Int) (s:ByteArray) (d:ApiData) (z:(Option Addr×Nat)×(Option Addr×Nat)) (r:Hdr):List Value:=.int .i64 i :: .int .i64 k :: .string s :: (datC d z++[hV r])
theorem funT_raw {W:World}{i k:Int}{s:ByteArray}{f:ApiFunc}{z}{r:Hdr} : (kRaw 13).K W (funT i k s f z r) (funT i k s f z r):=⟨rfl,rfl,fun u hu=>by
 simp only [funT,funC,List.cons_append,List.nil_append,List.mem_cons,List.not_mem_nil,or_false] at hu
 rcases hu with rfl | rfl | rfl | rfl | rfl | rfl | rfl | rfl | rfl | rfl | rfl | rfl | rfl <;> rfl⟩
theorem datT_raw {W:World}{i k:Int}{s:ByteArray}{d:ApiData}{z}{r:Hdr} : (kRaw 7).K W (datT i k s d z r) (datT i k s d z r):=⟨rfl,rfl,fun u hu=>by
 simp only [datT,datC,List.cons_append,List.nil_append,List.mem_cons,List.not_mem_nil,or_false] at hu
 rcases hu with rfl | rfl | rfl | rfl | rfl | rfl | rfl <;> rfl⟩
theorem refs_K {W0 w:World}{A:Option Addr}{n cp:Nat}{xs:List Int}{e:TypeId}(hn:xs.length=n) (h:(row (Kd.int .i64) W0 e (hV (A,n,cp)) xs).q w):(Kd.slice (Kd.int .i64)).K w xs [hV (A,n,cp)]:=by
 obtain ⟨a1,a2⟩:=row_own (W:=W0) (by exact fun _ _ h=>h) h
 subst hn
 exact ⟨A,cp,rfl,a1,a2⟩
theorem PR.addF {z:PR}{fs:List ApiFun}{ds:List ApiDat}(hz:z.ok fs ds) {W0:World}{i k:Int}{s:ByteArray}{f:ApiFunc}{y:(Option Addr×Nat)×(Option Addr×Nat)×(Option Addr×Nat)×(Option Addr×Nat)}{A:Option Addr}{cp:Nat}{r:List Int}{e:TypeId}{Af:Option Addr}{cf:Nat} : (⟨Af,cf,z.rf++[funT i k s f y (A,r.length,cp)],z.Ad,z.cd,z.rd,z.Ψ++(funR W0 f y++[row (Kd.int .i64) W0 e (hV (A,r.length,cp)) r])⟩:PR).ok (fs++[⟨i,k,s,f,r⟩]) ds:=by
 intro w hq
 obtain ⟨h1,h2⟩:=hz w (bun_left hq)
 refine ⟨h1.app (Raws.one ?_),h2⟩
 have hr:∀ q ∈ funR W0 f y,q.q w:=fun q hm=>hq.1 q (List.mem_append_right _ (List.mem_append_left _ hm))
 have hl:=hq.1 _ (List.mem_append_right _ (List.mem_append_right _ (List.mem_singleton.2 rfl)))
 exact ⟨_,_,rfl,rfl,⟨_,_,rfl,rfl,⟨_,_,rfl,rfl,⟨funC f y,_,rfl,fun_K hr,refs_K rfl hl⟩⟩⟩⟩
theorem PR.addD {z:PR}{fs:List ApiFun}{ds:List ApiDat}(hz:z.ok fs ds) {W0:World}{i k:Int}{s:ByteArray}{d:ApiData}{y:(Option Addr×Nat)×(Option Addr×Nat)}{A:Option Addr}{cp:Nat}{r:List Int}{e:TypeId}{Ad:Option Addr}{cd:Nat} : (⟨z.Af,z.cf,z.rf,Ad,cd,z.rd++[datT i k s d y (A,r.length,cp)],z.Ψ++(datR W0 d y++[row (Kd.int .i64) W0 e (hV (A,r.length,cp)) r])⟩:PR).ok fs (ds++[⟨i,k,s,d,r⟩]):=by
 intro w hq
 obtain ⟨h1,h2⟩:=hz w (bun_left hq)
 refine ⟨h1,h2.app (Raws.one ?_)⟩
 have hr:∀ q ∈ datR W0 d y,q.q w:=fun q hm=>hq.1 q (List.mem_append_right _ (List.mem_append_left _ hm))
 have hl:=hq.1 _ (List.mem_append_right _ (List.mem_append_right _ (List.mem_singleton.2 rfl)))
 exact ⟨_,_,rfl,rfl,⟨_,_,rfl,rfl,⟨_,_,rfl,rfl,⟨datC d y,_,rfl,dat_K hr,refs_K rfl hl⟩⟩⟩⟩
theorem PR.lens {z:PR}{fs:List ApiFun}{ds:List ApiDat}(hz:z.ok fs ds) {w:World}(h:(bun z.Ψ).q w):z.rf.length=fs.length∧z.rd.length=ds.length:=⟨(hz w h).1.length,(hz w h).2.length⟩
theorem wLens {c:Cx}{Q:Post}{x:Code}{E:Env}{D:List Deferred}{H H':List Res}{z:PR}{fs:List ApiFun}{ds:List ApiDat}(hz:z.ok fs ds) (hp:Pick H (bun z.Ψ) H') (h:z.rf.length=fs.length→z.rd.length=ds.length→Go.Proofs.YtafiabekcekdbaaGreatK.W c x Q E D H):Go.Proofs.YtafiabekcekdbaaGreatK.W c x Q E D H:=fun a w ha hw=>by
 obtain ⟨h1,h2⟩:=PR.lens hz (hw.get hp)
 exact h h1 h2 a w ha hw
theorem binder_file {B:Base}{w:World}(A:Option Addr) (cp:Nat) (l:List ApiObject) (b13 b11 bp:Nat) (z:PR) (W0:World) (hS:St B [blk b13 119 [.slice A l.length cp,.map (some b11)],kmap itemV (Value.int .i64) b11 (numM l l.length 0 0),blk bp 43 (z.cells 0),row (kRaw 13) W0 59 (.slice z.Af z.rf.length z.cf) z.rf,row (kRaw 7) W0 64 (.slice z.Ad z.rd.length z.cd) z.rd,bun z.Ψ] w) (hC:kApiObject.C B.e A l) (hv:∀ o ∈ l,vApiObject o) (hok:OkL l) (i:Nat) (o:ApiObject) (ho:l[i]?=some o) (hz:z.ok (funsTo l i) (datsTo l i)) :
 CW 42 #[.pointer (some ⟨b13,0,none⟩),.pointer (some ⟨bp,0,none⟩),.int .i64 (i:Int)] w (Ret B (fun z:PR=>z.ok (funsTo l (i+1)) (datsTo l (i+1))) (fun _=>.tuple #[]) (fun z=>[blk b13 119 [.slice A l.length cp,.map (some b11)],kmap itemV (Value.int .i64) b11 (numM l l.length 0 0),blk bp 43 (z.cells 0),row (kRaw 13) W0 59 (.slice z.Af z.rf.length z.cf) z.rf,row (kRaw 7) W0 64 (.slice z.Ad z.rd.length z.cd) z.rd,bun z.Ψ])):=by
 have hfew:=hok.few
 have hln:=hfew.len
 have hom:=List.mem_of_getElem? ho
 have hg:=hfew.one hv hom
 have hg0:=hg.syms
 have hg1:=hg.funcs
 have hg2:=hg.datas
 have hoz:=obj_zero (hok.objs o hom)
 have hoa:=objAt_eq ho
 have hil:=(List.getElem?_eq_some_iff.1 ho).1
 have hsm:Go.Proofs.YtafiabekcekdbaaGreatS.Small l:=⟨by omega,fun o ho=>by have:=(hfew.one hv ho).syms;omega⟩
 obtain ⟨e1,cs1,hE⟩:=hC.elm ho
 obtain ⟨B0,d0,B1,d1,B2,d2,rfl,m0,q0,m1,q1,m2,q2⟩:=kApiObject_open hE.K
 refine ZX Tryz.func42 hS ?_
 refine Zh (Zi (Zo J (Z3 J (Zz (n:=0) (m:=0) J J J (Zld ?_)))))
 refine Zo J (oIdxE J J (hE) ZO J J ?_)
 have hc19:=(hE).cell
 refine Zlx hc19 ?_
 refine oAlloc J ZP (fun b6=>?_)
 refine Zsa ?_
 refine Zn (Za (Zh (Zh (Zi (Zz (n:=1) (m:=1) J J J (Zld ?_))))))
 refine Zv J J (Zo J (Zn (Za (Zk (wLoop (ι:=Nat×PR) (fun x=>[(0,.pointer (some ⟨b13,0,none⟩)),(1,.pointer (some ⟨bp,0,none⟩)),(2,.int .i64 (i:Int)),(6,.pointer (some ⟨b6,0,none⟩)),(22,.slice B1 o.fFuncs.length d1),(23,.int .i64 (o.fFuncs.length:Int)),(24,.int .i64 (x.1:Int))]) (fun x=>[blk b13 119 [.slice A l.length cp,.map (some b11)],kmap itemV (Value.int .i64) b11 (numM l l.length 0 0),blk bp 43 (x.2.cells 0),row (kRaw 13) W0 59 (.slice x.2.Af x.2.rf.length x.2.cf) x.2.rf,row (kRaw 7) W0 64 (.slice x.2.Ad x.2.rd.length x.2.cd) x.2.rd,bun x.2.Ψ,blk b6 26 [.slice B0 o.fSymbols.length d0,.slice B1 o.fFuncs.length d1,.slice B2 o.fDatas.length d2]]) (fun x=>x.1≤o.fFuncs.length∧x.2.ok (funsTo l i++(List.range x.1).map (mkFun l i)) (datsTo l i)) (fun x=>o.fFuncs.length-x.1) (0,z) ?_ cv (Leads.has ZQ) ?_)))))
 exact ⟨Nat.zero_le _,by show z.ok (_++List.map _ (List.range 0)) _;simpa using hz⟩
 rintro ⟨k,z⟩ ⟨hk,hz⟩
 dsimp only at hk hz
 try dsimp only
 refine Zh (Zi (Zx J J (Zn (Za (Zh (wC (fun h25=>?_) (fun h25=>?_)))))))
 obtain ⟨f,hf⟩:∃ f,o.fFuncs[k]?=some f:=⟨_,List.getElem?_eq_getElem ZO⟩
 have hfm:=List.mem_of_getElem? hf
 have hgf:=hg.fun_ f hfm
 have hfz:=item_fun (hoz.2.2 k ZO) hf
 have hfg:funAt l i k=f:=by unfold funAt;rw [hoa,List.getD_eq_getElem?_getD,hf];rfl
 have hmk:mkFun l i k=⟨(i:Int),(k:Int),nameI o (k:Int),f,boundL l i (symsF f)⟩:=by unfold mkFun;rw [hoa,hfg]
 obtain ⟨e3,cs3,hE3⟩:=q1.elm hf
 obtain ⟨F0,f0,F1,f1,F2,f2,F3,f3,rfl,n0,r0,n1,r1,n2,r2,n3,r3⟩:=kApiFunc_open hE3.K
 have hsl:=symsF_len f
 have hkf:k<o.fFuncs.length:=by omega
 refine wLens hz ZP (fun hzl hzl2=>?_)
 rw [List.length_append,List.length_map,List.length_range] at hzl
 have hzl3:=sum_funs hfew i
 refine Zj (Za (Zh (Zk (Zh (Zi (Zo J (oIdxE J J (hE3) ZO J J ?_)))))))
 have hc27:=(hE3).cell
 refine Zlx hc27 ?_
 refine oAlloc J ZP (fun b8=>?_)
 refine Zp J (Zsa ?_)
 refine Zn (Za (Zh (Zi (Zp J (Zn (Za (Zh (Zh (Zi (Zz (n:=7) (m:=7) J J J (Zld ?_)))))))))))
 refine Zv J J (Zo J (Zn (Za (Zk (wLoop (ι:=Nat×Option Addr×Nat) (fun x=>[(0,.pointer (some ⟨b13,0,none⟩)),(1,.pointer (some ⟨bp,0,none⟩)),(2,.int .i64 (i:Int)),(6,.pointer (some ⟨b6,0,none⟩)),(22,.slice B1 o.fFuncs.length d1),(23,.int .i64 (o.fFuncs.length:Int)),(24,.int .i64 (k:Int)),(7,.int .i64 (k:Int)),(8,.pointer (some ⟨b8,0,none⟩)),(9,.slice x.2.1 ((symsF f).take x.1).length x.2.2),(31,.int .i64 (f.fCode.length:Int)),(32,.int .i64 (x.1:Int))]) (fun x=>[blk b13 119 [.slice A l.length cp,.map (some b11)],kmap itemV (Value.int .i64) b11 (numM l l.length 0 0),blk bp 43 (z.cells 0),row (kRaw 13) W0 59 (.slice z.Af z.rf.length z.cf) z.rf,row (kRaw 7) W0 64 (.slice z.Ad z.rd.length z.cd) z.rd,bun z.Ψ,blk b6 26 [.slice B0 o.fSymbols.length d0,.slice B1 o.fFuncs.length d1,.slice B2 o.fDatas.length d2],blk b8 57 [.int .i64 f.fClass,.slice F0 f.fKinds.length f0,.int .i64 f.fPad,.bool f.fNosplit,.int .i64 f.fFrom,.int .i64 f.fTo,.slice F1 f.fLines.length f1,.slice F2 f.fCode.length f2,.slice F3 f.fRelocs.length f3],row (Kd.int .i64) W0 3 (.slice x.2.1 ((symsF f).take x.1).length x.2.2) ((symsF f).take x.1)]) (fun x=>x.1≤f.fCode.length) (fun x=>f.fCode.length-x.1) (0,none,0) ?_ cv (Leads.nilrow.trans Lh) ?_)))))
 exact Nat.zero_le _
 rintro ⟨j,A9,c9⟩ hj
 dsimp only at hj
 have htl:((symsF f).take j).length≤1000:=by rw [List.length_take];omega
 try dsimp only
 refine Zh (Zi (Zx J J (Zn (Za (Zh (wC (fun h33=>?_) (fun h33=>?_)))))))
 refine Zj (Za (Zh (Zk (Zh (Zi (Zo J (Zp J (Zn (Za (Zi (Zo J (Zla ?_))))))))))))
 refine Zo J ?_
 (refine ZC0 rfl ZK (fun w hS=>frame hS ZQ (fun B' hB hS'=>verify_Sym hS' f _ (kApiFunc_mk _ f n0 (Kd.C_grow hB r0) n1 (Kd.C_grow hB r1) n2 (Kd.C_grow hB r2) n3 (Kd.C_grow hB r3)) (j:Int))) ?_;rintro ⟨⟩ -)
 refine oBuildSlice1 J J J J J ZP J (fun b39=>?_)
 refine oApp1 (symF f (j:Int)) J J J J ZP ZP J ZO J (fun g40 cp40=>?_)
 rw [show ((symsF f).take j).length+1=((symsF f).take (j+1)).length by rw [symsF_take ZO,List.length_append];rfl,← symsF_take ZO]
 refine Zp J (Zn (Zzi ?_))
 refine Zo J (Zn (Za ?_))
 exact ⟨rfl,(j+1,some ⟨g40,0,none⟩,cp40),by show j+1≤_;omega,by show f.fCode.length-(j+1)<f.fCode.length-j;omega,cv,Lh⟩
 obtain rfl:j=f.fCode.length:=by omega
 rw [symsF_all]
 refine Zm (Zb (Zb (Ze (Za (wDrawG J [0,1,2,3,4,5,6,7,8,10,12,13,14] [(9,[0,1,2,3,4,5,6,10,12,13,14],[]),(11,[0,1,2,3,4,5,6,12,13,14],[]),(15,[0,1,2,3,4,5,6],[16]),(17,[0,1,2,3,4],[]),(18,[0],[])] [19,20,21] 24 ZK J J (fun w0=>?_))))))
 refine Zo J (Zo J (Z3 J (Zz (n:=0) (m:=0) J J J (Zld ?_))))
 refine Zo J (Zo J (Zla ?_))
 refine Zo J (Zla ?_)
 refine Zo J (Zo J (Zo J (Z4 (Z5 J ?_))))
 (refine ZC0 rfl ZK (fun w hS=>frame hS ZQ (fun B' hB hS'=>bind_name hS' o _ (kApiObject_mk _ o m0 (Kd.C_grow hB q0) m1 (Kd.C_grow hB q1) m2 (Kd.C_grow hB q2)) hg (k:Int) hfz.1)) ?_;rintro ⟨⟩ -)
 refine ZG ?_ J (fun w0=>?_)
 refine Z8 J J J J (fun w0=>?_) ?_
 refine Zo J ?_
 exact Z9 rfl
 refine Z8 J J J J (fun w0=>?_) ?_
 refine Zo J ?_
 exact Z9 rfl
 refine Z8 J J J J (fun w0=>?_) ?_
 refine Z3 J ?_
 exact Z9 rfl
 refine Z8 J J J J (fun w0=>?_) ?_
 refine Zz (n:=0) (m:=0) J J J ?_
 exact Z9 rfl
 refine Z8 J J J J (fun w0=>?_) ?_
 refine Zld ?_
 exact Z9 rfl
 refine Z8 J J J J (fun w0=>?_) ?_
 refine Zo J ?_
 exact Z9 rfl
 refine Z8 J J J J (fun w0=>?_) ?_
 refine Zo J ?_
 exact Z9 rfl
 refine Z8 J J J J (fun w0=>?_) ?_
 refine Zla ?_
 exact Z9 rfl
 refine Z8 J J J J (fun w0=>?_) ?_
 refine Zo J ?_
 exact Z9 rfl
 refine Z8 J J J J (fun w0=>?_) ?_
 refine Zo J ?_
 exact Z9 rfl
 refine Z8 J J J J (fun w0=>?_) ?_
 refine Zo J ?_
 exact Z9 rfl
 exact AgainG.nil
 refine Z4 (Z5 J ?_)
 (refine ZC0 rfl ZK (fun w hS=>frame hS ZQ (fun B' hB hS'=>bind_fun hS' f _ (kApiFunc_mk _ f n0 (Kd.C_grow hB r0) n1 (Kd.C_grow hB r1) n2 (Kd.C_grow hB r2) n3 (Kd.C_grow hB r3)) ZO ZO ZO ZO W0)) ?_;rintro y53 -)
 refine ZG ?_ J (fun w0=>?_)
 refine Z8 J J J J (fun w0=>?_) ?_
 refine Zo J ?_
 exact Z9 rfl
 refine Z8 J J J J (fun w0=>?_) ?_
 refine Zo J ?_
 exact Z9 rfl
 refine Z8 J J J J (fun w0=>?_) ?_
 refine Z3 J ?_
 exact Z9 rfl
 refine Z8 J J J J (fun w0=>?_) ?_
 refine Zz (n:=0) (m:=0) J J J ?_
 exact Z9 rfl
 refine Z8 J J J J (fun w0=>?_) ?_
 refine Zld ?_
 exact Z9 rfl
 refine Z8 J J J J (fun w0=>?_) ?_
 refine Zo J ?_
 exact Z9 rfl
 refine Z8 J J J J (fun w0=>?_) ?_
 refine Zo J ?_
 exact Z9 rfl
 refine Z8 J J J J (fun w0=>?_) ?_
 refine Zo J ?_
 exact Z9 rfl
 refine Z8 J J J J (fun w0=>?_) ?_
 refine Zo J ?_
 exact Z9 rfl
 refine Z8 J J J J (fun w0=>?_) ?_
 refine Zo J ?_
 exact Z9 rfl
 exact AgainG.nil
 refine Z4 (Z5 J ?_)
 (refine ZC0 rfl ZK (fun w hS=>frame' hS ZQ (fun B' hB hR hS'=>binder_refs A cp l b13 b11 hS' (Kd.C_grow hB hC) hsm i (symsF f) A9 c9 (row_Cs (W:=W0) (e:=3) (n:=(symsF f).length) (cp:=c9) (hR _ _ ZP)) ZO (ok_bo hok ho (syms_in hfz.2.2.1) (syms_neg hfz.2.2.1)) W0)) ?_;rintro ⟨A57,c57⟩ -)
 dsimp only
 rw [show (Value.slice A57 (symsF f).length c57)=hV (A57,(boundL l i (symsF f)).length,c57) by rw [boundL_len]]
 refine ZG ?_ J (fun w0=>?_)
 refine Z8 J J J J (fun w0=>?_) ?_
 refine Zo J ?_
 exact Z9 rfl
 refine Z8 J J J J (fun w0=>?_) ?_
 refine Zo J ?_
 exact Z9 rfl
 refine Z8 J J J J (fun w0=>?_) ?_
 refine Z3 J ?_
 exact Z9 rfl
 refine Z8 J J J J (fun w0=>?_) ?_
 refine Zz (n:=0) (m:=0) J J J ?_
 exact Z9 rfl
 refine Z8 J J J J (fun w0=>?_) ?_
 refine Zld ?_
 exact Z9 rfl
 refine Z8 J J J J (fun w0=>?_) ?_
 refine Zo J ?_
 exact Z9 rfl
 refine Z8 J J J J (fun w0=>?_) ?_
 refine Zo J ?_
 exact Z9 rfl
 exact AgainG.nil
 refine oBuild (Parts.cons J (Parts.cons J (Parts.cons J (Parts.cons J (Parts.cons J Parts.nil))))) J J (Built.cons (off:=0) (s:=1) J ZP J ZP (Built.cons (off:=1) (s:=1) J ZP J ZP (Built.cons (off:=2) (s:=1) J ZP J ZP (Built.cons (off:=3) (s:=9) J ZP J ZP (Built.cons (off:=12) (s:=1) J ZP J ZP Built.nil))))) ?_
 refine Z4 (Z5 J (oBuildSlice1 J J J J J ZP J (fun b59=>?_)))
 refine ZG ?_ J (fun w0=>?_)
 refine Z8 J J J J (fun w0=>?_) ?_
 refine Zo J ?_
 exact Z9 rfl
 refine Z8 J J J J (fun w0=>?_) ?_
 refine Zo J ?_
 exact Z9 rfl
 refine Z8 J J J J (fun w0=>?_) ?_
 refine Z3 J ?_
 exact Z9 rfl
 refine Z8 J J J J (fun w0=>?_) ?_
 refine Zz (n:=0) (m:=0) J J J ?_
 exact Z9 rfl
 refine Z8 J J J J (fun w0=>?_) ?_
 refine Zld ?_
 exact Z9 rfl
 exact AgainG.nil
 refine Z4 (Z5 J (oApp1 (kd:=kRaw 13) (W:=W0) (xs:=z.rf) (funT (i:Int) (k:Int) (nameI o (k:Int)) f y53 (A57,(boundL l i (symsF f)).length,c57)) J J J J ZP ZP funT_raw ZO J (fun g60 cp60=>?_)))
 rw [show z.rf.length+1=(z.rf++[(funT (i:Int) (k:Int) (nameI o (k:Int)) f y53 (A57,(boundL l i (symsF f)).length,c57))]).length by rw [List.length_append];rfl]
 refine oConv (bun_take (Ψ:=z.Ψ) (Ψ':=(funR W0 f y53++[row (Kd.int .i64) W0 3 (hV (A57,(boundL l i (symsF f)).length,c57)) (boundL l i (symsF f))])) ZQ ZP) ?_
 refine ZG ?_ J (fun w0=>?_)
 refine Z8 J J J J (fun w0=>?_) ?_
 refine Zo J ?_
 exact Z9 rfl
 exact AgainG.nil
 refine Z6 (Z3 J (Zz (n:=0) (m:=0) J J J (Zst ?_)))
 refine Zn (Zzi ?_)
 refine Zo J (Zn (Za ?_))
 exact ⟨rfl,(k+1,⟨some ⟨g60,0,none⟩,cp60,z.rf++[(funT (i:Int) (k:Int) (nameI o (k:Int)) f y53 (A57,(boundL l i (symsF f)).length,c57))],z.Ad,z.cd,z.rd,z.Ψ++(funR W0 f y53++[row (Kd.int .i64) W0 3 (hV (A57,(boundL l i (symsF f)).length,c57)) (boundL l i (symsF f))])⟩),⟨by show k+1≤_;omega,by dsimp only;rw [List.range_succ,List.map_append,List.map_singleton,hmk,← List.append_assoc (funsTo l i) _ _];exact PR.addF hz⟩,by show o.fFuncs.length-(k+1)<o.fFuncs.length-k;omega,cv,Lh⟩
 obtain rfl:k=o.fFuncs.length:=by omega
 have hz:z.ok (funsTo l (i+1)) (datsTo l i):=by rw [funsTo_succ];unfold fileFuns;rw [hoa];exact hz
 refine Zm (Zb (Zb (Ze (Za (Zh (Zi (Zz (n:=2) (m:=2) J J J (Zld ?_))))))))
 refine Zv J J (Zo J (Zn (Za (Zk (wLoop (ι:=Nat×PR) (fun x=>[(0,.pointer (some ⟨b13,0,none⟩)),(1,.pointer (some ⟨bp,0,none⟩)),(2,.int .i64 (i:Int)),(6,.pointer (some ⟨b6,0,none⟩)),(65,.slice B2 o.fDatas.length d2),(66,.int .i64 (o.fDatas.length:Int)),(67,.int .i64 (x.1:Int))]) (fun x=>[blk b13 119 [.slice A l.length cp,.map (some b11)],kmap itemV (Value.int .i64) b11 (numM l l.length 0 0),blk bp 43 (x.2.cells 0),row (kRaw 13) W0 59 (.slice x.2.Af x.2.rf.length x.2.cf) x.2.rf,row (kRaw 7) W0 64 (.slice x.2.Ad x.2.rd.length x.2.cd) x.2.rd,bun x.2.Ψ,blk b6 26 [.slice B0 o.fSymbols.length d0,.slice B1 o.fFuncs.length d1,.slice B2 o.fDatas.length d2]]) (fun x=>x.1≤o.fDatas.length∧x.2.ok (funsTo l (i+1)) (datsTo l i++(List.range x.1).map (mkDat l i))) (fun x=>o.fDatas.length-x.1) (0,z) ?_ cv (Leads.has ZQ) ?_)))))
 exact ⟨Nat.zero_le _,by show z.ok _ (_++List.map _ (List.range 0));simpa using hz⟩
 rintro ⟨k,z⟩ ⟨hk,hz⟩
 dsimp only at hk hz
 try dsimp only
 refine Zh (Zi (Zx J J (Zn (Za (Zh (wC (fun h68=>?_) (fun h68=>?_)))))))
 obtain ⟨d,hd⟩:∃ d,o.fDatas[k]?=some d:=⟨_,List.getElem?_eq_getElem ZO⟩
 have hdm:=List.mem_of_getElem? hd
 have hgd:=hg.data d hdm
 have hdz:=item_dat (hoz.2.2 (o.fFuncs.length+k) ZO) hd
 have hdg:datAt l i k=d:=by unfold datAt;rw [hoa,List.getD_eq_getElem?_getD,hd];rfl
 have hmk:mkDat l i k=⟨(i:Int),((o.fFuncs.length+k:Nat):Int),nameI o ((o.fFuncs.length+k:Nat):Int),d,boundL l i (refsD d)⟩:=by unfold mkDat;rw [hoa,hdg]
 obtain ⟨e3,cs3,hE3⟩:=q2.elm hd
 obtain ⟨F0,f0,F1,f1,rfl,n0,r0,n1,r1⟩:=kApiData_open hE3.K
 have hrl:(refsD d).length=d.fWords.length:=(refsD_len d).trans (marksL_len _ _)
 have hkd:k<o.fDatas.length:=by omega
 refine wLens hz ZP (fun hzl hzl2=>?_)
 rw [List.length_append,List.length_map,List.length_range] at hzl2
 have hzl3:=sum_dats hfew i
 refine Zj (Za (Zh (Zk (Zh (Zi (Zo J (oIdxE J J (hE3) ZO J J ?_)))))))
 have hc70:=(hE3).cell
 refine Zlx hc70 ?_
 refine oAlloc J ZP (fun b12=>?_)
 refine Zp J (Zsa ?_)
 refine Zn (Za (Zh (Zi (Zz (n:=1) (m:=1) J J J (Zld ?_)))))
 refine Zv J J (Zo J (oAdd J J ZO ?_))
 refine ZS0 (t:=76) (v':=.int .i64 ((o.fFuncs.length+k:Nat):Int)) J (by congr 1) ?_
 refine Zp J (Zn (Za (wDrawG J [0,1,2,3,4,5,6,7,8,10,12,13,14] [(9,[0,1,2,3,4,5,6,10,12,13,14],[]),(11,[0,1,2,3,4,5,6,12,13,14],[]),(15,[0,1,2,3,4,5,6,12,13],[]),(16,[0,1,2,3,4,5,6],[17]),(18,[0,1,2,3,4],[]),(19,[0],[])] [20,21,22] 24 ZK J J (fun w0=>?_))))
 refine Zo J (Zo J (Z3 J (Zz (n:=1) (m:=1) J J J (Zld ?_))))
 refine Zo J (Zo J (Zla ?_))
 refine Zo J (Zla ?_)
 refine Zo J (Zo J (Zla ?_))
 refine Z4 (Z5 J ?_)
 (refine ZC0 rfl ZK (fun w hS=>frame hS ZQ (fun B' hB hS'=>bind_name hS' o _ (kApiObject_mk _ o m0 (Kd.C_grow hB q0) m1 (Kd.C_grow hB q1) m2 (Kd.C_grow hB q2)) hg ((o.fFuncs.length+k:Nat):Int) hdz.1)) ?_;rintro ⟨⟩ -)
 refine ZG ?_ J (fun w0=>?_)
 refine Z8 J J J J (fun w0=>?_) ?_
 refine Zo J ?_
 exact Z9 rfl
 refine Z8 J J J J (fun w0=>?_) ?_
 refine Zo J ?_
 exact Z9 rfl
 refine Z8 J J J J (fun w0=>?_) ?_
 refine Z3 J ?_
 exact Z9 rfl
 refine Z8 J J J J (fun w0=>?_) ?_
 refine Zz (n:=1) (m:=1) J J J ?_
 exact Z9 rfl
 refine Z8 J J J J (fun w0=>?_) ?_
 refine Zld ?_
 exact Z9 rfl
 refine Z8 J J J J (fun w0=>?_) ?_
 refine Zo J ?_
 exact Z9 rfl
 refine Z8 J J J J (fun w0=>?_) ?_
 refine Zo J ?_
 exact Z9 rfl
 refine Z8 J J J J (fun w0=>?_) ?_
 refine Zla ?_
 exact Z9 rfl
 refine Z8 J J J J (fun w0=>?_) ?_
 refine Zo J ?_
 exact Z9 rfl
 refine Z8 J J J J (fun w0=>?_) ?_
 refine Zo J ?_
 exact Z9 rfl
 refine Z8 J J J J (fun w0=>?_) ?_
 refine Zla ?_
 exact Z9 rfl
 exact AgainG.nil
 refine Z4 (Z5 J ?_)
 (refine ZC0 rfl ZK (fun w hS=>frame hS ZQ (fun B' hB hS'=>bind_dat hS' d _ (kApiData_mk _ d n0 (Kd.C_grow hB r0) n1 (Kd.C_grow hB r1)) ZO ZO W0)) ?_;rintro y88 -)
 refine ZG ?_ J (fun w0=>?_)
 refine Z8 J J J J (fun w0=>?_) ?_
 refine Zo J ?_
 exact Z9 rfl
 refine Z8 J J J J (fun w0=>?_) ?_
 refine Zo J ?_
 exact Z9 rfl
 refine Z8 J J J J (fun w0=>?_) ?_
 refine Z3 J ?_
 exact Z9 rfl
 refine Z8 J J J J (fun w0=>?_) ?_
 refine Zz (n:=1) (m:=1) J J J ?_
 exact Z9 rfl
 refine Z8 J J J J (fun w0=>?_) ?_
 refine Zld ?_
 exact Z9 rfl
 refine Z8 J J J J (fun w0=>?_) ?_
 refine Zo J ?_
 exact Z9 rfl
 refine Z8 J J J J (fun w0=>?_) ?_
 refine Zo J ?_
 exact Z9 rfl
 refine Z8 J J J J (fun w0=>?_) ?_
 refine Zo J ?_
 exact Z9 rfl
 refine Z8 J J J J (fun w0=>?_) ?_
 refine Zo J ?_
 exact Z9 rfl
 refine Z8 J J J J (fun w0=>?_) ?_
 refine Zla ?_
 exact Z9 rfl
 exact AgainG.nil
 refine Z4 (Z5 J ?_)
 (refine ZC0 rfl ZK (fun w hS=>frame hS ZQ (fun B' hB hS'=>data_Refs hS' d _ (kApiData_mk _ d n0 (Kd.C_grow hB r0) n1 (Kd.C_grow hB r1)) ZO ZO W0)) ?_;rintro ⟨A92,c92⟩ -)
 refine ZS0 (t:=92) (v':=.slice A92 (refsD d).length c92) rfl (by rw [hrl]) ?_
 refine ZG ?_ J (fun w0=>?_)
 refine Z8 J J J J (fun w0=>?_) ?_
 refine Zo J ?_
 exact Z9 rfl
 refine Z8 J J J J (fun w0=>?_) ?_
 refine Zo J ?_
 exact Z9 rfl
 refine Z8 J J J J (fun w0=>?_) ?_
 refine Z3 J ?_
 exact Z9 rfl
 refine Z8 J J J J (fun w0=>?_) ?_
 refine Zz (n:=1) (m:=1) J J J ?_
 exact Z9 rfl
 refine Z8 J J J J (fun w0=>?_) ?_
 refine Zld ?_
 exact Z9 rfl
 refine Z8 J J J J (fun w0=>?_) ?_
 refine Zo J ?_
 exact Z9 rfl
 refine Z8 J J J J (fun w0=>?_) ?_
 refine Zo J ?_
 exact Z9 rfl
 refine Z8 J J J J (fun w0=>?_) ?_
 refine Zo J ?_
 exact Z9 rfl
 refine Z8 J J J J (fun w0=>?_) ?_
 refine Zo J ?_
 exact Z9 rfl
 exact AgainG.nil
 refine Z4 (Z5 J ?_)
 (refine ZC0 rfl ZK (fun w hS=>frame' hS ZQ (fun B' hB hR hS'=>binder_refs A cp l b13 b11 hS' (Kd.C_grow hB hC) hsm i (refsD d) A92 c92 (row_Cs (W:=W0) (e:=3) (n:=d.fWords.length) (cp:=c92) (hR _ _ ZP)) ZO (ok_bo hok ho (refs_in hdz.2.2) (refs_neg hdz.2.2)) W0)) ?_;rintro ⟨A93,c93⟩ -)
 dsimp only
 rw [show (Value.slice A93 (refsD d).length c93)=hV (A93,(boundL l i (refsD d)).length,c93) by rw [boundL_len]]
 refine ZG ?_ J (fun w0=>?_)
 refine Z8 J J J J (fun w0=>?_) ?_
 refine Zo J ?_
 exact Z9 rfl
 refine Z8 J J J J (fun w0=>?_) ?_
 refine Zo J ?_
 exact Z9 rfl
 refine Z8 J J J J (fun w0=>?_) ?_
 refine Z3 J ?_
 exact Z9 rfl
 refine Z8 J J J J (fun w0=>?_) ?_
 refine Zz (n:=1) (m:=1) J J J ?_
 exact Z9 rfl
 refine Z8 J J J J (fun w0=>?_) ?_
 refine Zld ?_
 exact Z9 rfl
 refine Z8 J J J J (fun w0=>?_) ?_
 refine Zo J ?_
 exact Z9 rfl
 refine Z8 J J J J (fun w0=>?_) ?_
 refine Zo J ?_
 exact Z9 rfl
 exact AgainG.nil
 refine oBuild (Parts.cons J (Parts.cons J (Parts.cons J (Parts.cons J (Parts.cons J Parts.nil))))) J J (Built.cons (off:=0) (s:=1) J ZP J ZP (Built.cons (off:=1) (s:=1) J ZP J ZP (Built.cons (off:=2) (s:=1) J ZP J ZP (Built.cons (off:=3) (s:=3) J ZP J ZP (Built.cons (off:=6) (s:=1) J ZP J ZP Built.nil))))) ?_
 refine Z4 (Z5 J (oBuildSlice1 J J J J J ZP J (fun b95=>?_)))
 refine ZG ?_ J (fun w0=>?_)
 refine Z8 J J J J (fun w0=>?_) ?_
 refine Zo J ?_
 exact Z9 rfl
 refine Z8 J J J J (fun w0=>?_) ?_
 refine Zo J ?_
 exact Z9 rfl
 refine Z8 J J J J (fun w0=>?_) ?_
 refine Z3 J ?_
 exact Z9 rfl
 refine Z8 J J J J (fun w0=>?_) ?_
 refine Zz (n:=1) (m:=1) J J J ?_
 exact Z9 rfl
 refine Z8 J J J J (fun w0=>?_) ?_
 refine Zld ?_
 exact Z9 rfl
 exact AgainG.nil
 refine Z4 (Z5 J (oApp1 (kd:=kRaw 7) (W:=W0) (xs:=z.rd) (datT (i:Int) ((o.fFuncs.length+k:Nat):Int) (nameI o ((o.fFuncs.length+k:Nat):Int)) d y88 (A93,(boundL l i (refsD d)).length,c93)) J J J J ZP ZP datT_raw ZO J (fun g96 cp96=>?_)))
 rw [show z.rd.length+1=(z.rd++[(datT (i:Int) ((o.fFuncs.length+k:Nat):Int) (nameI o ((o.fFuncs.length+k:Nat):Int)) d y88 (A93,(boundL l i (refsD d)).length,c93))]).length by rw [List.length_append];rfl]
 refine oConv (bun_take (Ψ:=z.Ψ) (Ψ':=(datR W0 d y88++[row (Kd.int .i64) W0 3 (hV (A93,(boundL l i (refsD d)).length,c93)) (boundL l i (refsD d))])) ZQ ZP) ?_
 refine ZG ?_ J (fun w0=>?_)
 refine Z8 J J J J (fun w0=>?_) ?_
 refine Zo J ?_
 exact Z9 rfl
 exact AgainG.nil
 refine Z6 (Z3 J (Zz (n:=1) (m:=1) J J J (Zst ?_)))
 refine Zn (Zzi ?_)
 refine Zo J (Zn (Za ?_))
 exact ⟨rfl,(k+1,⟨z.Af,z.cf,z.rf,some ⟨g96,0,none⟩,cp96,z.rd++[(datT (i:Int) ((o.fFuncs.length+k:Nat):Int) (nameI o ((o.fFuncs.length+k:Nat):Int)) d y88 (A93,(boundL l i (refsD d)).length,c93))],z.Ψ++(datR W0 d y88++[row (Kd.int .i64) W0 3 (hV (A93,(boundL l i (refsD d)).length,c93)) (boundL l i (refsD d))])⟩),⟨by show k+1≤_;omega,by dsimp only;rw [List.range_succ,List.map_append,List.map_singleton,hmk,← List.append_assoc (datsTo l i) _ _];exact PR.addD hz⟩,by show o.fDatas.length-(k+1)<o.fDatas.length-k;omega,cv,Lh⟩
 obtain rfl:k=o.fDatas.length:=by omega
 have hz:z.ok (funsTo l (i+1)) (datsTo l (i+1)):=by rw [datsTo_succ];unfold fileDats;rw [hoa];exact hz
 refine Zm (Zb (Zb (Ze (fin_n ?_))))
 refine ⟨rfl,_,ResL.nil,?_⟩
 exact ⟨z,hz,rfl,Lh⟩
theorem bind_wr (l:List ApiObject) (s:ByteArray):bindR l s=if (wrongR l).1≠0 then wrongR l else if (fnd l s).2.2=false∨(symOf l (fnd l s).1 (fnd l s).2.1).fSort≠1∨1<(symOf l (fnd l s).1 (fnd l s).2.1).fKind then (15,-1,-1) else (0,0,0):=by
 unfold bindR wrongR
 split
 · rw [if_pos (by decide)]
 · split
   · next h1=>
     obtain ⟨i,o,hi,ho,hb⟩:=idxI_at h1
     rw [if_pos]
     rw [hi,Int.toNat_natCast,objAt_eq ho]
     exact of_decide_eq_true hb
   · rfl
theorem wrong_ok {l:List ApiObject}(hf:FewO l) (h:(wrongR l).1=0):OkL l:=by
 unfold wrongR at h
 split at h
 · exact absurd h (by decide)
 · split at h
   · next h1=>
     obtain ⟨i,o,hi,ho,hb⟩:=idxI_at h1
     rw [hi,Int.toNat_natCast,objAt_eq ho] at h
     exact absurd h (of_decide_eq_true hb)
   · next h1=>
     refine ⟨hf,fun o ho=>?_,h⟩
     have hn:¬ l.any badB=true:=fun h2=>h1 (idxI_iff.2 h2)
     have h3:badB o=false:=by
      cases hb:badB o with
      | false=>rfl
      | true=>exact absurd (List.any_eq_true.2 ⟨o,ho,hb⟩) hn
     exact Classical.not_not.1 (of_decide_eq_false h3)
theorem bind_Bind {B:Base}{w:World}(hS:St B [] w) (A:Option Addr) (cp:Nat) (l:List ApiObject) (hC:kApiObject.C B.e A l) (hv:∀ o ∈ l,vApiObject o) (hfew:FewO l) (s:ByteArray) (W0:World) :
 CW 18 #[.slice A l.length cp,.string s] w (Ret B (fun z:PR=>z.ok (bindP l s).fFuns (bindP l s).fDats) (fun z=>.tuple #[.agg (z.cells (bindP l s).fEntry).toArray,.agg (rejL (bindR l s)).toArray]) (fun z=>[row (kRaw 13) W0 59 (.slice z.Af z.rf.length z.cf) z.rf,row (kRaw 7) W0 64 (.slice z.Ad z.rd.length z.cd) z.rd,bun z.Ψ])):=by
 have hln:=hfew.len
 have hsm:Go.Proofs.YtafiabekcekdbaaGreatS.Small l:=⟨by omega,fun o ho=>by have:=(hfew.one hv ho).syms;omega⟩
 have hbw:=bind_wr l s
 refine ZX Tryz.func18 hS ?_
 refine Zh (Zi (oAlloc J ZP (fun b4=>?_)))
 refine oAlloc J ZP (fun b5=>?_)
 refine Zn (Za (Zh (Zh (Zi (Zo J ?_)))))
 (refine ZC0 rfl ZK (fun w hS=>frame hS ZQ (fun B' hB hS'=>bind_wrong hS' A cp l (Kd.C_grow hB hC) (fun o ho=>hfew.one hv ho) ZO)) ?_;rintro ⟨⟩ -)
 refine oAlloc J ZP (fun b6=>?_)
 refine Zsa ?_
 refine Zn (Za (Zh (Zi (Zz (n:=0) (m:=0) J J J (Zld ?_)))))
 refine Z0 J J (Zn (Za (wC (fun h17=>?_) (fun h17=>?_))))
 refine Zh (wDrawN J J (ZM (i:=0) (rs:=[1]) ZK ?_))
 refine ZA J ?_ ?_
 refine oBuild Parts.nil J J Built.nil (Z7 (ZM (i:=1) (rs:=[2]) ZK ?_))
 refine ZA J ?_ ?_
 refine Zla ?_
 refine Z7 (ZM (i:=2) (rs:=[]) ZK ?_)
 refine ZA J ?_ ?_
 refine Zsa ?_
 refine Z7 (ZM (i:=3) (rs:=[]) ZK ?_)
 refine ZA J ?_ ?_
 refine Zsa ?_
 refine Z7 (anNil ZK ?_)
 refine Za (Zl (Zc (Zw ?_)))
 refine ⟨rfl,_,(ResL.cons (by first | exact ResR.cell rfl ZP rfl | exact ResR.agg rfl ZP rfl rfl) (ResL.cons (by first | exact ResR.cell rfl ZP rfl | exact ResR.agg rfl ZP rfl rfl) ResL.nil)),?_⟩
 have hR:bindR l s=wrongR l:=by rw [hbw,if_pos h17]
 have hP:bindP l s=⟨[],[],0⟩:=by unfold bindP;rw [hR,if_neg (by first | decide | exact h17)]
 exact ⟨⟨none,0,[],none,0,[],[]⟩,by rw [hP];exact fun w _=>⟨rfl,rfl⟩,by rw [hR,hP];rfl,(Leads.nilrow.trans (bun_nil.trans (Leads.nilrow.trans Lh)))⟩
 exact ZB
 exact ZB
 refine ZA J ?_ ?_
 refine Zsa ?_
 refine Z7 (ZM (i:=1) (rs:=[]) ZK ?_)
 refine ZA J ?_ ?_
 refine Zla ?_
 refine Z7 (ZM (i:=3) (rs:=[]) ZK ?_)
 refine ZA J ?_ ?_
 refine Zsa ?_
 refine Z7 (anNil ZK ?_)
 refine Za (Zl (Zc (Zw ?_)))
 refine ⟨rfl,_,(ResL.cons (by first | exact ResR.cell rfl ZP rfl | exact ResR.agg rfl ZP rfl rfl) (ResL.cons (by first | exact ResR.cell rfl ZP rfl | exact ResR.agg rfl ZP rfl rfl) ResL.nil)),?_⟩
 have hR:bindR l s=wrongR l:=by rw [hbw,if_pos h17]
 have hP:bindP l s=⟨[],[],0⟩:=by unfold bindP;rw [hR,if_neg (by first | decide | exact h17)]
 exact ⟨⟨none,0,[],none,0,[],[]⟩,by rw [hP];exact fun w _=>⟨rfl,rfl⟩,by rw [hR,hP];rfl,(Leads.nilrow.trans (bun_nil.trans (Leads.nilrow.trans Lh)))⟩
 exact ZB
 exact ZB
 exact ZB
 refine ZA J ?_ ?_
 refine Zla ?_
 refine Z7 (ZM (i:=0) (rs:=[]) ZK ?_)
 refine ZA J ?_ ?_
 refine oBuild Parts.nil J J Built.nil (Z7 (ZM (i:=2) (rs:=[]) ZK ?_))
 refine ZA J ?_ ?_
 refine Zsa ?_
 refine Z7 (ZM (i:=3) (rs:=[]) ZK ?_)
 refine ZA J ?_ ?_
 refine Zsa ?_
 refine Z7 (anNil ZK ?_)
 refine Za (Zl (Zc (Zw ?_)))
 refine ⟨rfl,_,(ResL.cons (by first | exact ResR.cell rfl ZP rfl | exact ResR.agg rfl ZP rfl rfl) (ResL.cons (by first | exact ResR.cell rfl ZP rfl | exact ResR.agg rfl ZP rfl rfl) ResL.nil)),?_⟩
 have hR:bindR l s=wrongR l:=by rw [hbw,if_pos h17]
 have hP:bindP l s=⟨[],[],0⟩:=by unfold bindP;rw [hR,if_neg (by first | decide | exact h17)]
 exact ⟨⟨none,0,[],none,0,[],[]⟩,by rw [hP];exact fun w _=>⟨rfl,rfl⟩,by rw [hR,hP];rfl,(Leads.nilrow.trans (bun_nil.trans (Leads.nilrow.trans Lh)))⟩
 exact ZB
 exact ZB
 exact ZB
 exact ZB
 have hok:OkL l:=wrong_ok hfew (Classical.not_not.1 h17)
 rw [if_neg h17] at hbw
 refine Zj (Za (Zh (Zzx ?_)))
 (refine ZC0 rfl ZK (fun w hS=>frame hS ZQ (fun B' hB hS'=>Go.Proofs.YtafiabekcekdbaaGreatS.find_any hS' A cp l s (Kd.C_grow hB hC) hsm)) ?_;rintro ⟨⟩ -)
 rw [show ((((Go.Proofs.YtafiabekcekdbaaGreatS.firstOf l s).getD (0,0)).1:Nat):Int)=(fnd l s).1 by rw [fnd_eq];cases Go.Proofs.YtafiabekcekdbaaGreatS.firstOf l s <;> rfl,show ((((Go.Proofs.YtafiabekcekdbaaGreatS.firstOf l s).getD (0,0)).2:Nat):Int)=(fnd l s).2.1 by rw [fnd_eq];cases Go.Proofs.YtafiabekcekdbaaGreatS.firstOf l s <;> rfl,show (Go.Proofs.YtafiabekcekdbaaGreatS.firstOf l s).isSome=(fnd l s).2.2 by rw [fnd_eq];cases Go.Proofs.YtafiabekcekdbaaGreatS.firstOf l s <;> rfl]
 refine Zo J (oExt J ZP ?_)
 refine oExt J ZP ?_
 refine oExt J ZP ?_
 refine Zp J (Zp J (Zp J (Zn (Za (Zh (Zh (Zi (Zo J (Zno ?_)))))))))
 refine Zo J (ZS (ZT 29) (fun h29=>?_) (fun h29=>?_))
 refine Zr J J J J (Zr J J J J (Zr J J J J (Zr J J J J (Zr J J J J (Zr J J J J (Zr J J J J (Zr J J J J (Zr J J J J (Zr J J J J (Zt J J (Zo J (Zr J J J J (Zr J J J J (Zr J J J J (Zr J J J J (Zr J J J J (Zr J J J J (Zr J J J J (Zr J J J J (Zr J J J J (Zr J J J J (Zt J J (Zn (Za (wCondT J (Zh (Zi (oBuild Parts.nil J J Built.nil (oBuild (Parts.cons J (Parts.cons J (Parts.cons J Parts.nil))) J J (Built.cons (off:=0) (s:=1) J ZP J ZP (Built.cons (off:=1) (s:=1) J ZP J ZP (Built.cons (off:=2) (s:=1) J ZP J ZP Built.nil))) ?_)))))))))))))))))))))))))))))
 refine Zsa ?_
 refine Zsa ?_
 refine Zn (Za (Zl (Zc (Zw ?_))))
 refine ⟨rfl,_,(ResL.cons (by first | exact ResR.cell rfl ZP rfl | exact ResR.agg rfl ZP rfl rfl) (ResL.cons (by first | exact ResR.cell rfl ZP rfl | exact ResR.agg rfl ZP rfl rfl) ResL.nil)),?_⟩
 have hR:bindR l s=(15,-1,-1):=by rw [hbw,if_pos (.inl (by simpa using h29))]
 have hP:bindP l s=⟨[],[],0⟩:=by unfold bindP;rw [hR,if_neg (by first | decide | exact absurd rfl)]
 exact ⟨⟨none,0,[],none,0,[],[]⟩,by rw [hP];exact fun w _=>⟨rfl,rfl⟩,by rw [hR,hP];rfl,(Leads.nilrow.trans (bun_nil.trans (Leads.nilrow.trans Lh)))⟩
 obtain ⟨i,k,o,x,hfe,ho,hx,hgx⟩:=fnd_some (show (fnd l s).2.2=true by simpa using h29)
 have hso:=symOf_eq ho hx
 have hil:=(List.getElem?_eq_some_iff.1 ho).1
 have hkl:=(List.getElem?_eq_some_iff.1 hx).1
 obtain ⟨e3,cs3,hE3⟩:=hC.elm ho
 obtain ⟨C0,f0,C1,f1,C2,f2,rfl,n0,r0,n1,r1,n2,r2⟩:=kApiObject_open hE3.K
 obtain ⟨e4,cs4,hE4⟩:=r0.elm hx
 obtain rfl:=kApiSymbol_open hE4.K
 rw [hfe] at hbw ⊢
 dsimp only at hbw ⊢
 rw [hso] at hbw
 refine Zq J J (Zo J (Zq J J (Zo J (Zq J J (oIdxE J J (hE3) ZO J J ?_)))))
 have hc32:=(hE3).cell
 refine Zq J J (ZF (ZT 0) (ZT 0) ?_)
 refine Zq J J (Zlx hc32 ?_)
 refine Zq J J (Zo J (Zq J J (oIdxE J J (hE4) ZO J J ?_)))
 have hc36:=(hE4).cell
 refine Zq J J (ZF (ZT 2) (ZT 2) ?_)
 refine Zq J J (Zlx hc36 ?_)
 refine Zq J J (Z0 J J (Zu J J (Zo J (ZS (ZT 41) (fun h41=>?_) (fun h41=>?_)))))
 refine Zr J J J J (Zr J J J J (Zr J J J J (Zr J J J J (Zr J J J J (Zr J J J J (Zr J J J J (Zr J J J J (Zr J J J J (Zr J J J J (Zt J J (Zn (Za (wCondT J (Zh (Zi (oBuild Parts.nil J J Built.nil (oBuild (Parts.cons J (Parts.cons J (Parts.cons J Parts.nil))) J J (Built.cons (off:=0) (s:=1) J ZP J ZP (Built.cons (off:=1) (s:=1) J ZP J ZP (Built.cons (off:=2) (s:=1) J ZP J ZP Built.nil))) ?_)))))))))))))))))
 refine Zsa ?_
 refine Zsa ?_
 refine Zn (Za (Zl (Zc (Zw ?_))))
 refine ⟨rfl,_,(ResL.cons (by first | exact ResR.cell rfl ZP rfl | exact ResR.agg rfl ZP rfl rfl) (ResL.cons (by first | exact ResR.cell rfl ZP rfl | exact ResR.agg rfl ZP rfl rfl) ResL.nil)),?_⟩
 have hR:bindR l s=(15,-1,-1):=by rw [hbw,if_pos ZO]
 have hP:bindP l s=⟨[],[],0⟩:=by unfold bindP;rw [hR,if_neg (by first | decide | exact absurd rfl)]
 exact ⟨⟨none,0,[],none,0,[],[]⟩,by rw [hP];exact fun w _=>⟨rfl,rfl⟩,by rw [hR,hP];rfl,(Leads.nilrow.trans (bun_nil.trans (Leads.nilrow.trans Lh)))⟩
 refine Zq J J (Zo J (Zq J J (Zo J (Zq J J (oIdxE J J (hE3) ZO J J ?_)))))
 have hc44:=(hE3).cell
 refine Zq J J (ZF (ZT 0) (ZT 0) ?_)
 refine Zq J J (Zlx hc44 ?_)
 refine Zq J J (Zo J (Zq J J (oIdxE J J (hE4) ZO J J ?_)))
 have hc48:=(hE4).cell
 refine Zq J J (ZF (ZT 3) (ZT 3) ?_)
 refine Zq J J (Zlx hc48 ?_)
 refine Zq J J (Z1 J J (Zu J J (Zn (Za (wC (fun h52=>?_) (fun h52=>?_))))))
 refine Zh (Zi (oBuild Parts.nil J J Built.nil (oBuild (Parts.cons J (Parts.cons J (Parts.cons J Parts.nil))) J J (Built.cons (off:=0) (s:=1) J ZP J ZP (Built.cons (off:=1) (s:=1) J ZP J ZP (Built.cons (off:=2) (s:=1) J ZP J ZP Built.nil))) ?_)))
 refine Zsa ?_
 refine Zsa ?_
 refine Zn (Za (Zl (Zc (Zw ?_))))
 refine ⟨rfl,_,(ResL.cons (by first | exact ResR.cell rfl ZP rfl | exact ResR.agg rfl ZP rfl rfl) (ResL.cons (by first | exact ResR.cell rfl ZP rfl | exact ResR.agg rfl ZP rfl rfl) ResL.nil)),?_⟩
 have hR:bindR l s=(15,-1,-1):=by rw [hbw,if_pos ZO]
 have hP:bindP l s=⟨[],[],0⟩:=by unfold bindP;rw [hR,if_neg (by first | decide | exact absurd rfl)]
 exact ⟨⟨none,0,[],none,0,[],[]⟩,by rw [hP];exact fun w _=>⟨rfl,rfl⟩,by rw [hR,hP];rfl,(Leads.nilrow.trans (bun_nil.trans (Leads.nilrow.trans Lh)))⟩
 have hR:bindR l s=(0,0,0):=by rw [hbw,if_neg (by simp;omega)]
 refine Zj (Za (Zh (Zi (oAlloc J ZP (fun b10=>?_)))))
 refine Zn (Zzn ?_)
 (refine ZC0 rfl ZK (fun w hS=>frame hS ZQ (fun B' hB hS'=>bind_number hS' A cp l (Kd.C_grow hB hC) hfew)) ?_;rintro ⟨b13,b11⟩ -)
 refine Zp J (Zn (Za (Zh (Zh (Zi (Zo J (Zv J J (Zo J (Zn (Za (Zk (wLoop (ι:=Nat×PR) (fun x=>[(0,.slice A l.length cp),(1,.string s),(4,.pointer (some ⟨b4,0,none⟩)),(5,.pointer (some ⟨b5,0,none⟩)),(7,.int .i64 (i:Int)),(8,.int .i64 (k:Int)),(10,.pointer (some ⟨b10,0,none⟩)),(11,.pointer (some ⟨b13,0,none⟩)),(58,.int .i64 (l.length:Int)),(59,.int .i64 (x.1:Int))]) (fun x=>[blk b4 43 [.slice none 0 0,.slice none 0 0,.int .i64 0],blk b5 45 [.int .i64 0,.int .i64 0,.int .i64 0],blk b13 119 [.slice A l.length cp,.map (some b11)],kmap itemV (Value.int .i64) b11 (numM l l.length 0 0),blk b10 43 (x.2.cells 0),row (kRaw 13) W0 59 (.slice x.2.Af x.2.rf.length x.2.cf) x.2.rf,row (kRaw 7) W0 64 (.slice x.2.Ad x.2.rd.length x.2.cd) x.2.rd,bun x.2.Ψ]) (fun x=>x.1≤l.length∧x.2.ok (funsTo l x.1) (datsTo l x.1)) (fun x=>l.length-x.1) (0,⟨none,0,[],none,0,[],[]⟩) ?_ cv (Leads.nilrow.trans (bun_nil.trans (Leads.nilrow.trans Lh))) ?_))))))))))))
 exact ⟨Nat.zero_le _,fun w _=>⟨rfl,rfl⟩⟩
 rintro ⟨j,z⟩ ⟨hj,hz⟩
 dsimp only at hj hz
 try dsimp only
 refine Zh (Zi (Zx J J (Zn (Za (Zh (wC (fun h60=>?_) (fun h60=>?_)))))))
 obtain ⟨o2,ho2⟩:∃ o,l[j]?=some o:=⟨_,List.getElem?_eq_getElem ZO⟩
 refine Zj (Za (Zh (Zk (Zh (Zi (Zo J (Zp J (Zn (Za (Zzx ?_))))))))))
 (refine ZC0 rfl ZK (fun w hS=>frame hS ZQ (fun B' hB hS'=>binder_file A cp l b13 b11 b10 z W0 hS' (Kd.C_grow hB hC) hv hok j o2 ho2 hz)) ?_;rintro z' hz')
 refine Zn (Zzi ?_)
 refine Zo J (Zn (Za ?_))
 exact ⟨rfl,(j+1,z'),⟨by show j+1≤_;omega,hz'⟩,by show l.length-(j+1)<l.length-j;omega,cv,Lh⟩
 obtain rfl:j=l.length:=by omega
 obtain ⟨i2,k2,o2,y,hb,ho2,hy,h1,h2⟩:=hok.bnd ho hkl
 refine Zm (Zb (Zb (Ze (Za (Zh (Zi (Zo J (Zo J (Zo J ?_)))))))))
 (refine ZC0 rfl ZK (fun w hS=>frame hS ZQ (fun B' hB hS'=>binder_of A cp l b13 b11 hS' (Kd.C_grow hB hC) hsm i k i2 k2 o2 y hb ho2 hy (sym_sort ((obj_zero (hok.objs o2 (List.mem_of_getElem? ho2))).2.1 k2 (List.getElem?_eq_some_iff.1 hy).1) hy) h1 h2)) ?_;rintro ⟨⟩ -)
 refine Zz (n:=2) (m:=2) J J J (Zst ?_)
 refine Zn (Za (Zzt ?_))
 refine oBuild Parts.nil J J Built.nil (Zsa ?_)
 refine Zsa ?_
 refine Zn (Za (Zl (Zw ?_)))
 refine ⟨rfl,_,(ResL.cons (by first | exact ResR.cell rfl ZP rfl | exact ResR.agg rfl ZP rfl rfl) (ResL.cons (by first | exact ResR.cell rfl ZP rfl | exact ResR.agg rfl ZP rfl rfl) ResL.nil)),?_⟩
 have hP:bindP l s=⟨funsTo l l.length,datsTo l l.length,numberF l i k⟩:=by unfold bindP;rw [hR,if_pos rfl,hfe]
 exact ⟨z,by rw [hP];exact hz,by rw [hR,hP];rfl,Lh⟩
def isF (file item:Int) (f:ApiFun):Bool:=decide (f.fFile=file) && decide (f.fItem=item)
def funN (p:ApiProgram) (file item:Int):Int:=idxI (isF file item) p.fFuns
def ovr (l most:List Int) (i:Nat):Bool:=decide (0≤most.getD i 0) && decide (most.getD i 0≤l.getD i 0)
def refsE (l most:List Int):Int:=if l.length≠most.length∨l.any (fun n=>decide (n < -1))=true then 2 else if (List.range l.length).any (ovr l most)=true then 9 else 0
def mostI (p:ApiProgram) (o:Int):Int:=if needF o=0 then -1 else if needF o=3∨needF o=4 then (p.fDats.length:Int) else (p.fFuns.length:Int)
def mostF (p:ApiProgram) (f:ApiFun):List Int:=f.fF.fCode.map fun x=>mostI p x.fOp
def mostD (p:ApiProgram) (d:ApiDat):List Int:=d.fD.fWords.map fun _=>(p.fFuns.length:Int)
def funsE (p:ApiProgram):List Int:=p.fFuns.map fun f=>refsE f.fRefs (mostF p f)
def datsE (p:ApiProgram):List Int:=p.fDats.map fun d=>refsE d.fRefs (mostD p d)
def progE (p:ApiProgram):Int:=if p.fEntry<0∨(p.fFuns.length:Int)≤p.fEntry then 2 else if fstE (funsE p)≠0 then fstE (funsE p) else fstE (datsE p)
theorem mapG {α:Type}{e:α→Int}{l:List α}{i:Nat}{x:α}(h:l[i]?=some x):(l.map e).getD i 0=e x:=by rw [List.getD_eq_getElem?_getD,List.getElem?_map,h];rfl
theorem mapA {α β:Type}{e:α→β}{l:List α}{i:Nat}{x:α}(h:l[i]?=some x):(l.map e)[i]?=some (e x):=by rw [List.getElem?_map,h];rfl
theorem mapT {α β:Type}{e:α→β}{l:List α}{i:Nat}{x:α}(h:l[i]?=some x):(l.map e).take (i+1)=(l.map e).take i++[e x]:=by rw [List.take_add_one,mapA h];rfl
theorem getG {l:List Int}{i:Nat}{x:Int}(h:l[i]?=some x):l.getD i 0=x:=by rw [List.getD_eq_getElem?_getD,h];rfl
theorem indexFunc_fun {B:Base}{w:World}{R1 R2:Res}(hS:St B [R1,R2] w) (l:List ApiFun) (A:Option Addr) (cp:Nat) (hC:kApiFun.C B.e A l) (gf:Nat) (lb:Array Value) (p:ApiFun→Bool) (hg:goodF Tryz.prog gf=true)
 (hh:∀ B' w (x:ApiFun) (xc:List Value),Grow B.e B'.e→kApiFun.K B'.e x xc→St B' [R1,R2] w→CW gf (#[]++[Value.agg xc.toArray].toArray++lb) w (Ret B' (fun _:Unit=>True) (fun _=>.bool (p x)) (fun _=>[R1,R2]))) :
 CW 51 #[.slice A l.length cp,.func (.func gf) #[] lb] w (Ret B (fun _:Unit=>True) (fun _=>.int .i64 (idxI p l)) (fun _=>[R1,R2])):=by
 have hl:=hC.1
 refine ZX Tryz.func51 hS ?_
 refine Zh (Zi (Zp J (Zn (Za (Zh (Zh (Zi (Zo J (Zv J J (Zo J (Zn (Za (Zk (wLoop (ι:=Nat) (fun i=>[(0,.slice A l.length cp),(1,.func (.func gf) #[] lb),(7,.int .i64 (l.length:Int)),(8,.int .i64 (i:Int))]) (fun i=>[R1,R2]) (fun i=>i≤l.length∧∀ y ∈ l.take i,p y=false) (fun i=>l.length-i) 0 ?_ cv (Leads.has ZQ) ?_))))))))))))))
 exact ⟨Nat.zero_le _,by simp⟩
 rintro i ⟨hi,hs⟩
 try dsimp only
 refine Zh (Zi (Zx J J (Zn (Za (Zh (wC (fun h9=>?_) (fun h9=>?_)))))))
 obtain ⟨f,hx⟩:∃ x,l[i]?=some x:=⟨_,List.getElem?_eq_getElem ZO⟩
 obtain ⟨e1,cs1,hE⟩:=hC.elm hx
 have hfK:=hE.K
 obtain ⟨F0,f0,F1,f1,F2,f2,F3,f3,F4,f4,rfl,n0,r0,n1,r1,n2,r2,n3,r3,n4,r4⟩:=kApiFun_open hE.K
 refine Zj (Za (Zh (Zk (Zh (Zi (Zo J (Zp J (Zn (Za (Zh (Zi (Zo J (Zo J (Zo J (oIdxE J J (hE) ZO J J ?_)))))))))))))))
 have hc14:=(hE).cell
 refine Zlx hc14 ?_
 (refine oCallV rfl rfl rfl hg (fun w hS=>frame hS ZQ (fun B' hB hS'=>hh B' w f _ hB (kApiFun.K_grow hB hfK) hS')) ?_;rintro ⟨⟩ -)
 refine Zn (Za (wC (fun h16=>?_) (fun h16=>?_)))
 refine Zh (Zi (Zo J (Zzb ?_)))
 exact ⟨(),trivial,by rw [idxI_stop hs hx (by simpa using h16)];rfl,Lh⟩
 refine Zj (Zzi ?_)
 refine Zo J (Zn (Za ?_))
 exact ⟨rfl,i+1,⟨by omega,take_not hs hx (by simpa using h16)⟩,by omega,cv,Lh⟩
 refine Zm (Zzh ?_)
 obtain rfl:i=l.length:=by omega
 rw [List.take_length] at hs
 exact ⟨(),trivial,by rw [idxI_none hs];rfl,Lh⟩
theorem bind_Fun1 {B:Base}{w:World}{b4 b5:Nat}{file item:Int}(hS:St B [blk b4 3 [.int .i64 file],blk b5 3 [.int .i64 item]] w) (f:ApiFun) (fc:List Value) (hf:kApiFun.K B.e f fc) :
 CW 52 #[.agg fc.toArray,.pointer (some ⟨b4,0,none⟩),.pointer (some ⟨b5,0,none⟩)] w (Ret B (fun _:Unit=>True) (fun _=>.bool (isF file item f)) (fun _=>[blk b4 3 [.int .i64 file],blk b5 3 [.int .i64 item]])):=by
 obtain ⟨F0,f0,F1,f1,F2,f2,F3,f3,F4,f4,rfl,n0,r0,n1,r1,n2,r2,n3,r3,n4,r4⟩:=kApiFun_open hf
 refine ZX Tryz.func52 hS ?_
 refine Zh (Zi (oBox J ZP (fun b3=>?_)))
 refine Zp J (Zn (Za (Zh (Zi (Zz (n:=0) (m:=0) J J J (Zld ?_))))))
 refine Zld ?_
 refine Zy J J (Zo J (ZS (ZT 9) (fun h9=>?_) (fun h9=>?_)))
 refine Zq J J (Zz (n:=1) (m:=1) J J J (Zzf ?_))
 refine Zq J J (Zld ?_)
 refine Zq J J (Zy J J (Zt J J (Zza ?_)))
 exact ⟨(),trivial,by unfold isF;simp [resVal,show f.fFile=file from h9],Lh⟩
 refine Zr J J J J (Zr J J J J (Zzq ?_))
 exact ⟨(),trivial,by unfold isF;simp [resVal,show ¬ f.fFile=file from h9],Lh⟩
theorem bind_Fun {B:Base}{w:World}(hS:St B [] w) (p:ApiProgram) (pc:List Value) (hp:kApiProgram.K B.e p pc) (file item:Int) :
 CW 21 #[.agg pc.toArray,.int .i64 file,.int .i64 item] w (Ret B (fun _:Unit=>True) (fun _=>.int .i64 (funN p file item)) (fun _=>[])):=by
 obtain ⟨A0,c0,A1,c1,rfl,m0,q0,m1,q1⟩:=kApiProgram_open hp
 refine ZX Tryz.func21 hS ?_
 refine Zh (Zi (oBox J ZP (fun b3=>?_)))
 refine oBox J ZP (fun b4=>?_)
 refine oBox J ZP (fun b5=>?_)
 refine Zp J (Zn (Za (Zh (Zi (Zz (n:=0) (m:=0) J J J (Zld ?_))))))
 refine oMakeFunc J ?_
 (refine ZC0 rfl ZK (fun w hS=>frame hS ZQ (fun B' hB hS'=>indexFunc_fun hS' p.fFuns A0 c0 (Kd.C_grow hB q0) 52 #[.pointer (some ⟨b4,0,none⟩),.pointer (some ⟨b5,0,none⟩)] (isF file item) ZK (fun B2 w2 x xc hB2 hxK hS2=>bind_Fun1 hS2 x xc hxK))) ?_;rintro ⟨⟩ -)
 refine Zp J (Zzk ?_)
 exact ⟨(),trivial,rfl,Lh⟩
theorem bind_neg {B:Base}{w:World}{R:Res}(hS:St B [R] w) (x:Int) :
 CW 93 #[.int .i64 x] w (Ret B (fun _:Unit=>True) (fun _=>.bool (decide (x < -1))) (fun _=>[R])):=by
 refine ZX Tryz.func93 hS ?_
 refine Zh (Zi (Zp J (Zn (Za (Zh (Zi (Zo J (Zx J J (Zza ?_)))))))))
 exact ⟨(),trivial,rfl,Lh⟩
theorem bind_refs {B:Base}{w:World}{R:Res}(hS:St B [R] w) (l:List Int) (A:Option Addr) (cp:Nat) (hC:(Kd.int .i64).C B.e A l) (most:List Int) (n:Int) (hn:n=(most.length:Int)) (gf:Nat) (lb:Array Value) (hg:goodF Tryz.prog gf=true)
 (hh:∀ B' w (i:Nat),Grow B.e B'.e→i<most.length→St B' [R] w→CW gf (#[]++[Value.int .i64 (i:Int)].toArray++lb) w (Ret B' (fun _:Unit=>True) (fun _=>.int .i64 (most.getD i 0)) (fun _=>[R]))) :
 CW 53 #[.slice A l.length cp,.int .i64 n,.func (.func gf) #[] lb] w (Ret B (fun _:Unit=>True) (fun _=>.int .i64 (refsE l most)) (fun _=>[R])):=by
 subst hn
 have hl:=hC.1
 refine ZX Tryz.func53 hS ?_
 refine Zh (Zi (Zp J (Zn (Za (Zh (Zh (Zi (Zo J (Zv J J (Zo J (Z0 J J (Zo J (ZS (ZT 14) (fun h14=>?_) (fun h14=>?_))))))))))))))
 refine Zr J J J J (Zr J J J J (Zt J J (Zn (Za (wCondT J (Zh (Zi (Zzc ?_))))))))
 exact ⟨(),trivial,by unfold refsE;rw [if_pos (.inl ZO)];rfl,Lh⟩
 refine Zq J J (Zo J (Zq J J ?_))
 (refine ZC0 rfl ZK (fun w hS=>frame hS ZQ (fun B' hB hS'=>Go.Proofs.YtafiabekcekdbaaGreatV.containsFunc_int hS' l A cp (Kd.C_grow hB hC) 93 #[] (fun n=>decide (n < -1)) ZK (fun B2 w2 x hB2 hx hS2=>bind_neg hS2 x))) ?_;rintro ⟨⟩ -)
 refine Zu J J (Zn (Za (wC (fun h17=>?_) (fun h17=>?_))))
 refine Zh (Zi (Zzc ?_))
 exact ⟨(),trivial,by unfold refsE;rw [if_pos (.inr h17)];rfl,Lh⟩
 have hn2:¬ (l.length≠most.length∨l.any (fun n=>decide (n < -1))=true):=by rintro (a | a);exact a ZO;rw [h17] at a;cases a
 refine Zj (Za (Zh (Zh (Zi (Zo J (Zv J J (Zo J (Zn (Za (Zk (wLoop (ι:=Nat) (fun i=>[(2,.func (.func gf) #[] lb),(18,.slice A l.length cp),(19,.int .i64 (l.length:Int)),(20,.int .i64 (i:Int))]) (fun i=>[R]) (fun i=>i≤l.length∧∀ j,j<i→ovr l most j=false) (fun i=>l.length-i) 0 ?_ cv (Leads.has ZQ) ?_)))))))))))
 exact ⟨Nat.zero_le _,fun j hj=>by omega⟩
 rintro i ⟨hi,hs⟩
 try dsimp only
 refine Zh (Zi (Zx J J (Zn (Za (Zh (wC (fun h21=>?_) (fun h21=>?_)))))))
 obtain ⟨x,hx⟩:∃ x,l[i]?=some x:=⟨_,List.getElem?_eq_getElem ZO⟩
 obtain ⟨e1,cs1,hE⟩:=hC.elm hx
 obtain rfl:=(show cs1=[Value.int .i64 x] from hE.K)
 have hov:ovr l most i=(decide (0≤most.getD i 0) && decide (most.getD i 0≤x)):=by unfold ovr;rw [getG hx]
 refine Zj (Za (Zh (Zk (Zh (Zi (Zo J (oIdxE J J (hE) ZO J J ?_)))))))
 have hc23:=(hE).cell
 refine Zlx hc23 ?_
 refine Zp J (Zp J (Zn (Za (Zh (Zzx ?_)))))
 (refine oCallV rfl rfl rfl hg (fun w hS=>frame hS ZQ (fun B' hB hS'=>hh B' w i hB ZO hS')) ?_;rintro ⟨⟩ -)
 refine Zp J (Zn (Za (Zh (Zi (Zo J (Z2 J J (Zo J (ZS (ZT 30) (fun h30=>?_) (fun h30=>?_)))))))))
 refine Zq J J (Zo J (Zq J J (Zo J (Zq J J (Z2 J J (Zt J J (Zn (Za (wC (fun h34=>?_) (fun h34=>?_))))))))))
 refine Zh (Zi (Zzb ?_))
 exact ⟨(),trivial,by unfold refsE;rw [if_neg hn2,if_pos (List.any_eq_true.2 ⟨i,List.mem_range.2 ZO,by rw [hov,Bool.and_eq_true,decide_eq_true_eq,decide_eq_true_eq];omega⟩)];rfl,Lh⟩
 refine Zj (Zzi ?_)
 refine Zo J (Zn (Za ?_))
 exact ⟨rfl,i+1,⟨by omega,fun j hj=>by
 by_cases e:j=i
 · subst e;rw [hov,Bool.and_eq_false_iff,decide_eq_false_iff_not,decide_eq_false_iff_not];omega
 · exact hs j ZO⟩,by omega,cv,Lh⟩
 refine Zr J J J J (Zr J J J J (Zr J J J J (Zu J J (Zn (Za (wCondF J (Zj (Zzi ?_))))))))
 refine Zo J (Zn (Za ?_))
 exact ⟨rfl,i+1,⟨by omega,fun j hj=>by
 by_cases e:j=i
 · subst e;rw [hov,Bool.and_eq_false_iff,decide_eq_false_iff_not,decide_eq_false_iff_not];omega
 · exact hs j ZO⟩,by omega,cv,Lh⟩
 refine Zm (Zzh ?_)
 obtain rfl:i=l.length:=by omega
 exact ⟨(),trivial,by unfold refsE;rw [if_neg hn2,if_neg (by intro h;obtain ⟨j,hj,hh⟩:=List.any_eq_true.1 h;rw [hs j (List.mem_range.1 hj)] at hh;cases hh)];rfl,Lh⟩
theorem bind_refs2 {B:Base}{w:World}{R1 R2:Res}(hS:St B [R1,R2] w) (l:List Int) (A:Option Addr) (cp:Nat) (hC:(Kd.int .i64).C B.e A l) (most:List Int) (n:Int) (hn:n=(most.length:Int)) (gf:Nat) (lb:Array Value) (hg:goodF Tryz.prog gf=true)
 (hh:∀ B' w (i:Nat),Grow B.e B'.e→i<most.length→St B' [R1,R2] w→CW gf (#[]++[Value.int .i64 (i:Int)].toArray++lb) w (Ret B' (fun _:Unit=>True) (fun _=>.int .i64 (most.getD i 0)) (fun _=>[R1,R2]))) :
 CW 53 #[.slice A l.length cp,.int .i64 n,.func (.func gf) #[] lb] w (Ret B (fun _:Unit=>True) (fun _=>.int .i64 (refsE l most)) (fun _=>[R1,R2])):=by
 refine (bind_refs (R:=bun [R1,R2]) (St.pack (Ψ:=[R1,R2]) hS) l A cp hC most n hn gf lb hg (fun B' w' i hB hi hS'=>(hh B' w' i hB hi hS'.unpack).mono ?_)).mono ?_
 · rintro e w2 ⟨i,hi,he,hw⟩
   exact ⟨i,hi,he,St.pack (Ψ:=[R1,R2]) hw⟩
 · rintro e w2 ⟨i,hi,he,hw⟩
   exact ⟨i,hi,he,hw.unpack⟩
theorem ref24_refs {B:Base}{w:World}(hS:St B [] w) (l:List Int) (A:Option Addr) (cp:Nat) (hC:(Kd.int .i64).C B.e A l) (most:List Int) (A1:Option Addr) (cp1:Nat) (hC1:(Kd.int .i64).C B.e A1 most) :
 CW 58 #[.slice A l.length cp,.slice A1 most.length cp1] w (Ret B (fun _:Unit=>True) (fun _=>.int .i64 (refsE l most)) (fun _=>[])):=by
 have hl:=hC.1
 refine ZX Tryz.func58 hS ?_
 refine Zh (Zi (Zp J (Zn (Za (Zh (Zh (Zi (Zo J (Zv J J (Zo J (Zv J J (Z0 J J (Zn (Za (wC (fun h11=>?_) (fun h11=>?_))))))))))))))))
 refine Zh (Zi (Zzc ?_))
 exact ⟨(),trivial,by unfold refsE;rw [if_pos (.inl ZO)];rfl,Lh⟩
 refine Zj (Za (Zh (Zh (Zi (Zp J (Zn (Za (Zk (wLoop (ι:=Nat) (fun i=>[(0,.slice A l.length cp),(1,.slice A1 most.length cp1),(5,.int .i64 (i:Int))]) (fun i=>[]) (fun i=>i≤l.length∧∀ y ∈ l.take i,decide (y < -1)=false) (fun i=>l.length-i) 0 ?_ cv (Leads.has ZQ) ?_)))))))))
 exact ⟨Nat.zero_le _,by simp⟩
 rintro i ⟨hi,hs⟩
 try dsimp only
 refine Zh (Zh (Zi (Zo J (Zo J (Zv J J (Zx J J (Zn (Za (wC (fun h15=>?_) (fun h15=>?_))))))))))
 obtain ⟨x,hx⟩:∃ x,l[i]?=some x:=⟨_,List.getElem?_eq_getElem ZO⟩
 obtain ⟨e1,cs1,hE⟩:=hC.elm hx
 obtain rfl:=(show cs1=[Value.int .i64 x] from hE.K)
 refine Zj (Za (Zh (Zk (Zh (Zi (Zo J (Zo J (oIdxE J J (hE) ZO J J ?_))))))))
 have hc20:=(hE).cell
 refine Zlx hc20 ?_
 refine Zx J J (Zn (Za (wC (fun h22=>?_) (fun h22=>?_))))
 refine Zh (Zi (Zzb ?_))
 exact ⟨(),trivial,by unfold refsE;rw [if_pos (.inr (List.any_eq_true.2 ⟨x,List.mem_of_getElem? hx,by simpa using h22⟩))];rfl,Lh⟩
 refine Zj (Zze ?_)
 refine Zp J (Zn (Za ?_))
 exact ⟨rfl,i+1,⟨by omega,take_not (p:=fun y=>decide (y < -1)) hs hx (by simpa using h22)⟩,by omega,cv,Lh⟩
 obtain rfl:i=l.length:=by omega
 rw [List.take_length] at hs
 have hn2:¬ (l.length≠most.length∨l.any (fun n=>decide (n < -1))=true):=by rintro (a | a);exact a ZO;obtain ⟨y,hy,hq⟩:=List.any_eq_true.1 a;rw [hs y hy] at hq;cases hq
 refine Zm (Zb (Zb (Ze (Za (Zh (Zh (Zi (Zp J (Zn (Za (Zk (wLoop (ι:=Nat) (fun i=>[(0,.slice A l.length cp),(1,.slice A1 most.length cp1),(6,.int .i64 (i:Int))]) (fun i=>[]) (fun i=>i≤l.length∧∀ j,j<i→ovr l most j=false) (fun i=>l.length-i) 0 ?_ cv (Leads.has ZQ) ?_))))))))))))
 exact ⟨Nat.zero_le _,fun j hj=>by omega⟩
 rintro i ⟨hi,hs⟩
 try dsimp only
 refine Zh (Zh (Zi (Zo J (Zo J (Zv J J (Zx J J (Zn (Za (wC (fun h26=>?_) (fun h26=>?_))))))))))
 obtain ⟨x,hx⟩:∃ x,l[i]?=some x:=⟨_,List.getElem?_eq_getElem ZO⟩
 obtain ⟨e1,cs1,hE⟩:=hC.elm hx
 obtain rfl:=(show cs1=[Value.int .i64 x] from hE.K)
 obtain ⟨m,hm⟩:∃ x,most[i]?=some x:=⟨_,List.getElem?_eq_getElem ZO⟩
 obtain ⟨e2,cs2,hE2⟩:=hC1.elm hm
 obtain rfl:=(show cs2=[Value.int .i64 m] from hE2.K)
 have hov:ovr l most i=(decide (0≤m) && decide (m≤x)):=by unfold ovr;rw [getG hx,getG hm]
 have hil:i<l.length:=by omega
 have him:i<most.length:=by omega
 refine Zj (Za (Zh (Zk (Zh (wDrawG J [0,1,2,3,4,5,6,7,8,9,10,11,12,13,14,15] [] [] 24 ZK J J (fun w0=>?_))))))
 refine Zo J (Zo J (oIdxE J J (hE2) ZO J J ?_))
 have hc31:=(hE2).cell
 refine Zlx hc31 ?_
 refine Z2 J J (Zo J (ZS (ZT 34) (fun h34=>?_) (fun h34=>?_)))
 refine Zq J J (Zo J (Zq J J (Zo J (Zq J J (oIdxE J J (hE) ZO J J ?_)))))
 have hc37:=(hE).cell
 refine Zq J J (Zlx hc37 ?_)
 refine Zq J J (Zo J (Zq J J (Zo J (Zq J J (oIdxE J J (hE2) ZO J J ?_)))))
 have hc41:=(hE2).cell
 refine Zq J J (Zlx hc41 ?_)
 refine Zq J J (Z2 J J (Zt J J (Z6 (Zn (Za (wC (fun h44=>?_) (fun h44=>?_)))))))
 refine Zh (Zi (Zzb ?_))
 exact ⟨(),trivial,by unfold refsE;rw [if_neg hn2,if_pos (List.any_eq_true.2 ⟨i,List.mem_range.2 ZO,by rw [hov,Bool.and_eq_true,decide_eq_true_eq,decide_eq_true_eq];omega⟩)];rfl,Lh⟩
 refine Zj (Zze ?_)
 refine Zp J (Zn (Za ?_))
 exact ⟨rfl,i+1,⟨by omega,fun j hj=>by
 by_cases e:j=i
 · subst e;rw [hov,Bool.and_eq_false_iff,decide_eq_false_iff_not,decide_eq_false_iff_not];omega
 · exact hs j ZO⟩,by omega,cv,Lh⟩
 refine Zr J J J J (Zr J J J J (Zr J J J J (Zr J J J J (Zr J J J J (Zr J J J J (Zr J J J J (Zr J J J J (Zr J J J J (Zu J J (Z6 (Zn (Za (wCondF J (Zj (Zze ?_)))))))))))))))
 refine Zp J (Zn (Za ?_))
 exact ⟨rfl,i+1,⟨by omega,fun j hj=>by
 by_cases e:j=i
 · subst e;rw [hov,Bool.and_eq_false_iff,decide_eq_false_iff_not,decide_eq_false_iff_not];omega
 · exact hs j ZO⟩,by omega,cv,Lh⟩
 refine Zm (Zzh ?_)
 obtain rfl:i=l.length:=by omega
 exact ⟨(),trivial,by unfold refsE;rw [if_neg hn2,if_neg (by intro h;obtain ⟨j,hj,hh⟩:=List.any_eq_true.1 h;rw [hs j (List.mem_range.1 hj)] at hh;cases hh)];rfl,Lh⟩
theorem bind_mostF {B:Base}{w:World}(p:ApiProgram) (A0 A1:Option Addr) (c0 c1 b1 b4:Nat) (f:ApiFun) (F0 F1 F2 F3 F4:Option Addr) (f0 f1 f2 f3 f4:Nat) (hS:St B [blk b4 59 [.int .i64 f.fFile,.int .i64 f.fItem,.string f.fName,.int .i64 f.fF.fClass,.slice F0 f.fF.fKinds.length f0,.int .i64 f.fF.fPad,.bool f.fF.fNosplit,.int .i64 f.fF.fFrom,.int .i64 f.fF.fTo,.slice F1 f.fF.fLines.length f1,.slice F2 f.fF.fCode.length f2,.slice F3 f.fF.fRelocs.length f3,.slice F4 f.fRefs.length f4],blk b1 43 (pcL p A0 c0 A1 c1)] w) (r2:kApiInstr.C B.e F2 f.fF.fCode) (i:Nat) (hi:i<(mostF p f).length) :
 CW 54 #[.int .i64 (i:Int),.pointer (some ⟨b4,0,none⟩),.pointer (some ⟨b1,0,none⟩)] w (Ret B (fun _:Unit=>True) (fun _=>.int .i64 ((mostF p f).getD i 0)) (fun _=>[blk b4 59 [.int .i64 f.fFile,.int .i64 f.fItem,.string f.fName,.int .i64 f.fF.fClass,.slice F0 f.fF.fKinds.length f0,.int .i64 f.fF.fPad,.bool f.fF.fNosplit,.int .i64 f.fF.fFrom,.int .i64 f.fF.fTo,.slice F1 f.fF.fLines.length f1,.slice F2 f.fF.fCode.length f2,.slice F3 f.fF.fRelocs.length f3,.slice F4 f.fRefs.length f4],blk b1 43 (pcL p A0 c0 A1 c1)])):=by
 unfold mostF at hi ⊢
 rw [List.length_map] at hi
 obtain ⟨x,hx⟩:∃ x,f.fF.fCode[i]?=some x:=⟨_,List.getElem?_eq_getElem hi⟩
 rw [mapG hx]
 obtain ⟨e1,cs1,hE⟩:=r2.elm hx
 obtain rfl:=kApiInstr_open hE.K
 refine ZX Tryz.func54 hS ?_
 refine Zh (Zi (Zp J (Zn (Za (Zh (Zh (Zi (Zz (n:=3) (m:=3) J J J (Zz (n:=7) (m:=10) J J J (Zld ?_))))))))))
 refine Zo J (oIdxE J J (hE) ZO J J ?_)
 have hc9:=(hE).cell
 refine ZF (ZT 0) (ZT 0) ?_
 refine Zlx hc9 ?_
 (refine ZC0 rfl ZK (fun w hS=>frame hS ZQ (fun B' hB hS'=>op_Need hS' x.fOp)) ?_;rintro ⟨⟩ -)
 refine Zn (Za (Zk (Zh (Zi (Zy J J (Zp J (Zn (Za (wC (fun h13=>?_) (fun h13=>?_))))))))))
 refine Zh (Zi (Zzg ?_))
 exact ⟨(),trivial,by unfold mostI;rw [if_pos h13];rfl,Lh⟩
 refine Zh (Zh (Zi (Zy J J (Zp J (Zn (Za (wC (fun h15=>?_) (fun h15=>?_))))))))
 refine Zj (Za (ZY h15 ?_))
 refine Zh (Zi (Zz (n:=1) (m:=1) J J J (Zld ?_)))
 refine Zv J J (Zzg ?_)
 exact ⟨(),trivial,by unfold mostI;rw [if_neg h13,if_pos (by first | exact .inl h15 | exact .inr h15)];rfl,Lh⟩
 refine Zi (Zy J J (Zp J (Zn (Za (wC (fun h15=>?_) (fun h15=>?_))))))
 refine Zh (Zi (Zz (n:=1) (m:=1) J J J (Zld ?_)))
 refine Zv J J (Zzg ?_)
 exact ⟨(),trivial,by unfold mostI;rw [if_neg h13,if_pos (by first | exact .inl h15 | exact .inr h15)];rfl,Lh⟩
 refine Zj (Zd (Za (Zh (Zi (Zz (n:=0) (m:=0) J J J (Zld ?_))))))
 refine Zv J J (Zza ?_)
 exact ⟨(),trivial,by unfold mostI;rw [if_neg h13,if_neg ZO];rfl,Lh⟩
theorem bind_mostD {B:Base}{w:World}(p:ApiProgram) (A0 A1:Option Addr) (c0 c1 b1:Nat) (d:ApiDat) (hS:St B [blk b1 43 (pcL p A0 c0 A1 c1)] w) (i:Nat) (hi:i<(mostD p d).length) :
 CW 56 #[.int .i64 (i:Int),.pointer (some ⟨b1,0,none⟩)] w (Ret B (fun _:Unit=>True) (fun _=>.int .i64 ((mostD p d).getD i 0)) (fun _=>[blk b1 43 (pcL p A0 c0 A1 c1)])):=by
 unfold mostD at hi ⊢
 rw [List.length_map] at hi
 obtain ⟨x,hx⟩:∃ x,d.fD.fWords[i]?=some x:=⟨_,List.getElem?_eq_getElem hi⟩
 rw [mapG hx]
 refine ZX Tryz.func56 hS ?_
 refine Zh (Zi (Zp J (Zn (Za (Zh (Zi (Zz (n:=0) (m:=0) J J J (Zld ?_))))))))
 refine Zv J J (Zza ?_)
 exact ⟨(),trivial,rfl,Lh⟩
theorem bind_Check {B:Base}{w:World}(hS:St B [] w) (p:ApiProgram) (pc:List Value) (hp:kApiProgram.K B.e p pc) :
    CW 23 #[.agg pc.toArray] w (Ret B (fun _:Unit=>True) (fun _=>.int .i64 (progE p)) (fun _=>[])):=by
  obtain ⟨A0,c0,A1,c1,rfl,m0,q0,m1,q1⟩:=kApiProgram_open hp
  have hl:=q0.1
  have hl1:=q1.1
  refine ZX Tryz.func23 hS ?_
  refine Zh (Zi (oBox J ZP (fun b1=>?_)))
  refine Zp J (Zn (Za (Zh (Zh (Zi (Zz (n:=2) (m:=2) J J J (Zld ?_)))))))
  refine Zx J J (Zo J (ZS (ZT 12) (fun h12=>?_) (fun h12=>?_)))
  refine Zr J J J J (Zr J J J J (Zr J J J J (Zr J J J J (Zr J J J J (Zr J J J J (Zt J J (Zn (Za (wCondT J (Zh (Zi (Zzc ?_))))))))))))
  exact ⟨(),trivial,by unfold progE;rw [if_pos ZO];rfl,Lh⟩
  refine Zq J J (Zz (n:=2) (m:=2) J J J (Zzf ?_))
  refine Zq J J (Zz (n:=0) (m:=0) J J J (Zzf ?_))
  refine Zq J J (Zv J J (Zq J J (Z2 J J (Zu J J (Zn (Za (wC (fun h19=>?_) (fun h19=>?_))))))))
  refine Zh (Zi (Zzc ?_))
  exact ⟨(),trivial,by unfold progE;rw [if_pos ZO];rfl,Lh⟩
  have hen:¬ (p.fEntry<0∨(p.fFuns.length:Int)≤p.fEntry):=by omega
  refine Zj (Za (Zh (Zh (Zi (Zz (n:=0) (m:=0) J J J (Zld ?_))))))
  refine Zv J J (Zo J (Zn (Za (Zk (wLoop (ι:=Nat) (fun i=>[(1,.pointer (some ⟨b1,0,none⟩)),(21,.slice A0 p.fFuns.length c0),(22,.int .i64 (p.fFuns.length:Int)),(23,.int .i64 (i:Int))]) (fun i=>[blk b1 43 (pcL p A0 c0 A1 c1)]) (fun i=>i≤p.fFuns.length∧fstE ((funsE p).take i)=0) (fun i=>p.fFuns.length-i) 0 ?_ cv (Leads.has ZQ) ?_)))))
  exact ⟨Nat.zero_le _,rfl⟩
  rintro i ⟨hi,hs⟩
  try dsimp only
  refine Zh (Zi (Zx J J (Zn (Za (Zh (wC (fun h24=>?_) (fun h24=>?_)))))))
  obtain ⟨f,hx⟩:∃ x,p.fFuns[i]?=some x:=⟨_,List.getElem?_eq_getElem ZO⟩
  obtain ⟨e1,cs1,hE⟩:=q0.elm hx
  obtain ⟨F0,f0,F1,f1,F2,f2,F3,f3,F4,f4,rfl,n0,r0,n1,r1,n2,r2,n3,r3,n4,r4⟩:=kApiFun_open hE.K
  refine Zj (Za (Zh (Zk (Zh (Zi (oIdxE J J (hE) ZO J J ?_))))))
  have hc25:=(hE).cell
  refine Zlx hc25 ?_
  refine oAlloc J ZP (fun b4=>?_)
  refine Zsa ?_
  refine Zn (Za (Zh (Zi (Zz (n:=12) (m:=12) J J J (Zld ?_)))))
  refine Zz (n:=3) (m:=3) J J J (Zz (n:=7) (m:=10) J J J (Zld ?_))
  refine Zv J J (oMakeFunc J ?_)
  (refine ZC0 rfl ZK (fun w hS=>frame hS ZQ (fun B' hB hS'=>bind_refs2 hS' f.fRefs F4 f4 (Kd.C_grow hB r4) (mostF p f) _ (by unfold mostF;rw [List.length_map]) 54 #[.pointer (some ⟨b4,0,none⟩),.pointer (some ⟨b1,0,none⟩)] ZK (fun B2 w2 i hB2 hi hS2=>bind_mostF p A0 A1 c0 c1 b1 b4 f F0 F1 F2 F3 F4 f0 f1 f2 f3 f4 hS2 (Kd.C_grow (hB.trans hB2) r2) i hi))) ?_;rintro ⟨⟩ -)
  refine Zp J (Zn (Za (Zh (Zi (Zo J (Z0 J J (Zn (Za (wC (fun h36=>?_) (fun h36=>?_))))))))))
  refine Zh (Zi (Zo J (Zzb ?_)))
  have hfe:fstE (funsE p)=refsE f.fRefs (mostF p f):=fstE_stop hs (mapA (e:=fun f:ApiFun=>refsE f.fRefs (mostF p f)) hx) h36
  exact ⟨(),trivial,by unfold progE;rw [if_neg hen,hfe,if_pos h36];rfl,Lh⟩
  refine Zj (Zzi ?_)
  refine Zo J (Zn (Za ?_))
  exact ⟨rfl,i+1,⟨by omega,fstE_next hs (mapA (e:=fun f:ApiFun=>refsE f.fRefs (mostF p f)) hx) (Classical.not_not.1 h36)⟩,by omega,cv,Lh⟩
  obtain rfl:i=p.fFuns.length:=by omega
  have hf0 : fstE (funsE p) = 0 := by have : (funsE p).take p.fFuns.length = funsE p := by unfold funsE; rw [← List.length_map (f := fun f : ApiFun => refsE f.fRefs (mostF p f)), List.take_length]
                                      rw [← this]; exact hs
  refine Zm (Zb (Zb (Ze (Za (Zh (Zh (Zi (Zz (n:=1) (m:=1) J J J (Zld ?_)))))))))
  refine Zv J J (Zo J (Zn (Za (Zk (wLoop (ι:=Nat) (fun i=>[(1,.pointer (some ⟨b1,0,none⟩)),(40,.slice A1 p.fDats.length c1),(41,.int .i64 (p.fDats.length:Int)),(42,.int .i64 (i:Int))]) (fun i=>[blk b1 43 (pcL p A0 c0 A1 c1)]) (fun i=>i≤p.fDats.length∧fstE ((datsE p).take i)=0) (fun i=>p.fDats.length-i) 0 ?_ cv (Leads.has ZQ) ?_)))))
  exact ⟨Nat.zero_le _,rfl⟩
  rintro i ⟨hi,hs⟩
  try dsimp only
  refine Zh (Zi (Zx J J (Zn (Za (Zh (wC (fun h43=>?_) (fun h43=>?_)))))))
  obtain ⟨d,hx⟩:∃ x,p.fDats[i]?=some x:=⟨_,List.getElem?_eq_getElem ZO⟩
  obtain ⟨e1,cs1,hE⟩:=q1.elm hx
  obtain ⟨F0,f0,F1,f1,F2,f2,rfl,n0,r0,n1,r1,n2,r2⟩:=kApiDat_open hE.K
  refine Zj (Za (Zh (Zk (Zh (Zi (oIdxE J J (hE) ZO J J ?_))))))
  have hc44:=(hE).cell
  refine Zlx hc44 ?_
  refine oAlloc J ZP (fun b7=>?_)
  refine Zsa ?_
  refine Zn (Za (Zh (Zi (Zz (n:=6) (m:=6) J J J (Zld ?_)))))
  refine Zz (n:=3) (m:=3) J J J (Zz (n:=1) (m:=4) J J J (Zld ?_))
  refine Zv J J (oMakeFunc J ?_)
  (refine ZC0 rfl ZK (fun w hS=>frame hS ZQ (fun B' hB hS'=>bind_refs hS' d.fRefs F2 f2 (Kd.C_grow hB r2) (mostD p d) _ (by unfold mostD;rw [List.length_map]) 56 #[.pointer (some ⟨b1,0,none⟩)] ZK (fun B2 w2 i hB2 hi hS2=>bind_mostD p A0 A1 c0 c1 b1 d hS2 i hi))) ?_;rintro ⟨⟩ -)
  refine Zp J (Zn (Za (Zh (Zi (Zo J (Z0 J J (Zn (Za (wC (fun h55=>?_) (fun h55=>?_))))))))))
  refine Zh (Zi (Zo J (Zzb ?_)))
  have hfe:fstE (datsE p)=refsE d.fRefs (mostD p d):=fstE_stop hs (mapA (e:=fun d:ApiDat=>refsE d.fRefs (mostD p d)) hx) h55
  exact ⟨(),trivial,by unfold progE;rw [if_neg hen,hf0,if_neg (by simp),hfe];rfl,Lh⟩
  refine Zj (Zzi ?_)
  refine Zo J (Zn (Za ?_))
  exact ⟨rfl,i+1,⟨by omega,fstE_next hs (mapA (e:=fun d:ApiDat=>refsE d.fRefs (mostD p d)) hx) (Classical.not_not.1 h55)⟩,by omega,cv,Lh⟩
  refine Zm (Zzh ?_)
  obtain rfl:i=p.fDats.length:=by omega
  have hd0 : fstE (datsE p) = 0 := by have : (datsE p).take p.fDats.length = datsE p := by unfold datsE; rw [← List.length_map (f := fun d : ApiDat => refsE d.fRefs (mostD p d)), List.take_length]
                                      rw [← this]; exact hs
  exact ⟨(),trivial,by unfold progE;rw [if_neg hen,hf0,if_neg (by simp),hd0];rfl,Lh⟩
theorem ref24_Check {B:Base}{w:World}(hS:St B [] w) (p:ApiProgram) (pc:List Value) (hp:kApiProgram.K B.e p pc) (hf:∀ f ∈ p.fFuns,f.fF.fCode.length≤1000) (hd:∀ d ∈ p.fDats,d.fD.fWords.length≤1000) :
    CW 24 #[.agg pc.toArray] w (Ret B (fun _:Unit=>True) (fun _=>.int .i64 (progE p)) (fun _=>[])):=by
  obtain ⟨A0,c0,A1,c1,rfl,m0,q0,m1,q1⟩:=kApiProgram_open hp
  have hl:=q0.1
  have hl1:=q1.1
  refine ZX Tryz.func24 hS ?_
  refine Zh (Zi (oBox J ZP (fun b1=>?_)))
  refine Zp J (Zn (Za (Zh (Zh (Zi (Zz (n:=2) (m:=2) J J J (Zld ?_)))))))
  refine Zx J J (Zo J (ZS (ZT 16) (fun h16=>?_) (fun h16=>?_)))
  refine Zr J J J J (Zr J J J J (Zr J J J J (Zr J J J J (Zr J J J J (Zr J J J J (Zt J J (Zn (Za (wCondT J (Zh (Zi (Zzc ?_))))))))))))
  exact ⟨(),trivial,by unfold progE;rw [if_pos ZO];rfl,Lh⟩
  refine Zq J J (Zz (n:=2) (m:=2) J J J (Zzf ?_))
  refine Zq J J (Zz (n:=0) (m:=0) J J J (Zzf ?_))
  refine Zq J J (Zv J J (Zq J J (Z2 J J (Zu J J (Zn (Za (wC (fun h23=>?_) (fun h23=>?_))))))))
  refine Zh (Zi (Zzc ?_))
  exact ⟨(),trivial,by unfold progE;rw [if_pos ZO];rfl,Lh⟩
  have hen:¬ (p.fEntry<0∨(p.fFuns.length:Int)≤p.fEntry):=by omega
  refine Zj (Za (Zh (Zh (Zi (Zp J (Zn (Za (Zk (wLoop (ι:=Nat) (fun i=>[(1,.pointer (some ⟨b1,0,none⟩)),(3,.int .i64 (i:Int))]) (fun i=>[blk b1 43 (pcL p A0 c0 A1 c1)]) (fun i=>i≤p.fFuns.length∧fstE ((funsE p).take i)=0) (fun i=>p.fFuns.length-i) 0 ?_ cv (Leads.has ZQ) ?_)))))))))
  exact ⟨Nat.zero_le _,rfl⟩
  rintro i ⟨hi,hs⟩
  try dsimp only
  refine Zh (Zh (Zi (Zo J (Zz (n:=0) (m:=0) J J J (Zld ?_)))))
  refine Zv J J (Zx J J (Zn (Za (wC (fun h28=>?_) (fun h28=>?_)))))
  obtain ⟨f,hx⟩:∃ x,p.fFuns[i]?=some x:=⟨_,List.getElem?_eq_getElem ZO⟩
  have hfl:=hf f (List.mem_of_getElem? hx)
  obtain ⟨e1,cs1,hE⟩:=q0.elm hx
  obtain ⟨F0,f0,F1,f1,F2,f2,F3,f3,F4,f4,rfl,n0,r0,n1,r1,n2,r2,n3,r3,n4,r4⟩:=kApiFun_open hE.K
  refine Zj (Za (Zh (Zk (Zh (Zi (Zp J (Zn (Za (Zh (Zh (Zi (Zp J (Zn (Za (Zk (wLoop (ι:=Nat×Option Addr×Nat) (fun x=>[(1,.pointer (some ⟨b1,0,none⟩)),(3,.int .i64 (i:Int)),(4,.slice x.2.1 ((mostF p f).take x.1).length x.2.2),(5,.int .i64 (x.1:Int))]) (fun x=>[blk b1 43 (pcL p A0 c0 A1 c1),row (Kd.int .i64) B.e 3 (.slice x.2.1 ((mostF p f).take x.1).length x.2.2) ((mostF p f).take x.1)]) (fun x=>x.1≤f.fF.fCode.length) (fun x=>f.fF.fCode.length-x.1) (0,none,0) ?_ cv (Leads.nilrow.trans Lh) ?_))))))))))))))))
  exact Nat.zero_le _
  rintro ⟨j,A4,c4⟩ hj
  dsimp only at hj
  have htl:((mostF p f).take j).length≤1000:=by unfold mostF;rw [List.length_take,List.length_map];omega
  try dsimp only
  refine Zh (Zh (Zi (Zo J (Zz (n:=0) (m:=0) J J J (Zld ?_)))))
  refine Zo J (oIdxE J J (hE) ZO J J ?_)
  have hc35:=(hE).cell
  refine ZF (ZT 3) (ZT 3) ?_
  refine ZF (ZT 7) (ZT 10) ?_
  refine Zlx hc35 ?_
  refine Zv J J (Zx J J (Zn (Za (wC (fun h40=>?_) (fun h40=>?_)))))
  obtain ⟨x,hj2⟩:∃ x,f.fF.fCode[j]?=some x:=⟨_,List.getElem?_eq_getElem ZO⟩
  have hmt:(mostF p f).take (j+1)=(mostF p f).take j++[mostI p x.fOp]:=mapT (e:=fun x:ApiInstr=>mostI p x.fOp) hj2
  obtain ⟨e2,cs2,hE2⟩:=r2.elm hj2
  obtain rfl:=kApiInstr_open hE2.K
  refine Zj (Za (Zh (Zk (Zh (Zi (Zz (n:=0) (m:=0) J J J (Zld ?_)))))))
  refine Zv J J (Zp J (Zn (Za (Zh (Zh (Zi (Zz (n:=0) (m:=0) J J J (Zld ?_))))))))
  refine Zo J (oIdxE J J (hE) ZO J J ?_)
  have hc49:=(hE).cell
  refine ZF (ZT 3) (ZT 3) ?_
  refine ZF (ZT 7) (ZT 10) ?_
  refine Zlx hc49 ?_
  refine Zo J (oIdxE J J (hE2) ZO J J ?_)
  have hc54:=(hE2).cell
  refine ZF (ZT 0) (ZT 0) ?_
  refine Zlx hc54 ?_
  (refine ZC0 rfl ZK (fun w hS=>frame hS ZQ (fun B' hB hS'=>ref7_Need hS' x.fOp)) ?_;rintro ⟨⟩ -)
  refine Zp J (Zn (Za (Zh (Zi (Zo J (Zy J J (Zo J (ZS (ZT 60) (fun h60=>?_) (fun h60=>?_)))))))))
  refine Zr J J J J (Zr J J J J (Zt J J (Zn (Za (wCondT J (Zi (Zz (n:=1) (m:=1) J J J (Zld ?_))))))))
  refine Zv J J (Zp J (Zn (Za (Zzx ?_))))
  refine ZS0 (t:=70) (v':=.int .i64 (mostI p x.fOp)) J (by unfold mostI;rw [if_neg ZO,if_pos ZO]) ?_
  refine oBuildSlice1 J J J J J ZP J (fun b71=>?_)
  refine oApp1 (mostI p x.fOp) J J J J ZP ZP J ZO J (fun g72 cp72=>?_)
  rw [show ((mostF p f).take j).length+1=((mostF p f).take (j+1)).length by rw [hmt,List.length_append];rfl,← hmt]
  refine Zp J (Zn (Zze ?_))
  refine Zp J (Zn (Za ?_))
  exact ⟨rfl,(j+1,some ⟨g72,0,none⟩,cp72),by show j+1≤_;omega,by show f.fF.fCode.length-(j+1)<f.fF.fCode.length-j;omega,cv,Lh⟩
  refine Zq J J (Zo J (Zq J J (Zy J J (Zu J J (Zn (Za (wC (fun h63=>?_) (fun h63=>?_))))))))
  refine Zi (Zz (n:=1) (m:=1) J J J (Zld ?_))
  refine Zv J J (Zp J (Zn (Za (Zzx ?_))))
  refine ZS0 (t:=70) (v':=.int .i64 (mostI p x.fOp)) J (by unfold mostI;rw [if_neg ZO,if_pos ZO]) ?_
  refine oBuildSlice1 J J J J J ZP J (fun b71=>?_)
  refine oApp1 (mostI p x.fOp) J J J J ZP ZP J ZO J (fun g72 cp72=>?_)
  rw [show ((mostF p f).take j).length+1=((mostF p f).take (j+1)).length by rw [hmt,List.length_append];rfl,← hmt]
  refine Zp J (Zn (Zze ?_))
  refine Zp J (Zn (Za ?_))
  exact ⟨rfl,(j+1,some ⟨g72,0,none⟩,cp72),by show j+1≤_;omega,by show f.fF.fCode.length-(j+1)<f.fF.fCode.length-j;omega,cv,Lh⟩
  refine Zh (Zi (Zo J (Zy J J (Zn (Za (wC (fun h68=>?_) (fun h68=>?_)))))))
  refine Zi (Zp J (Zn (Za (Zzx ?_))))
  refine ZS0 (t:=70) (v':=.int .i64 (mostI p x.fOp)) J (by unfold mostI;rw [if_pos ZO]) ?_
  refine oBuildSlice1 J J J J J ZP J (fun b71=>?_)
  refine oApp1 (mostI p x.fOp) J J J J ZP ZP J ZO J (fun g72 cp72=>?_)
  rw [show ((mostF p f).take j).length+1=((mostF p f).take (j+1)).length by rw [hmt,List.length_append];rfl,← hmt]
  refine Zp J (Zn (Zze ?_))
  refine Zp J (Zn (Za ?_))
  exact ⟨rfl,(j+1,some ⟨g72,0,none⟩,cp72),by show j+1≤_;omega,by show f.fF.fCode.length-(j+1)<f.fF.fCode.length-j;omega,cv,Lh⟩
  refine Zj (Za (Zzx ?_))
  refine ZS0 (t:=70) (v':=.int .i64 (mostI p x.fOp)) J (by unfold mostI;rw [if_neg ZO,if_neg ZO]) ?_
  refine oBuildSlice1 J J J J J ZP J (fun b71=>?_)
  refine oApp1 (mostI p x.fOp) J J J J ZP ZP J ZO J (fun g72 cp72=>?_)
  rw [show ((mostF p f).take j).length+1=((mostF p f).take (j+1)).length by rw [hmt,List.length_append];rfl,← hmt]
  refine Zp J (Zn (Zze ?_))
  refine Zp J (Zn (Za ?_))
  exact ⟨rfl,(j+1,some ⟨g72,0,none⟩,cp72),by show j+1≤_;omega,by show f.fF.fCode.length-(j+1)<f.fF.fCode.length-j;omega,cv,Lh⟩
  obtain rfl:j=f.fF.fCode.length:=by omega
  rw [show (mostF p f).take f.fF.fCode.length=mostF p f by unfold mostF;rw [← List.length_map (f:=fun x:ApiInstr=>mostI p x.fOp),List.take_length]]
  refine Zm (Zb (Zb (Ze (Za (Zh (Zi (Zz (n:=0) (m:=0) J J J (Zld ?_))))))))
  refine Zo J (oIdxE J J (hE) ZO J J ?_)
  have hc76:=(hE).cell
  refine ZF (ZT 12) (ZT 12) ?_
  refine Zlx hc76 ?_
  refine Zo J ?_
  (refine ZD J (fun w B' hB hR hS'=>ref24_refs hS' f.fRefs F4 f4 (Kd.C_grow hB r4) (mostF p f) A4 c4 (row_Cs (W:=B.e) (e:=3) (n:=(mostF p f).length) (cp:=c4) (hR _ _ ZP))) ?_;rintro ⟨⟩ -)
  refine Zp J (Zn (Za (Zh (Zi (Zo J (Z0 J J (Zn (Za (wC (fun h82=>?_) (fun h82=>?_))))))))))
  refine Zh (Zi (Zo J (Zzb ?_)))
  have hfe:fstE (funsE p)=refsE f.fRefs (mostF p f):=fstE_stop hs (mapA (e:=fun f:ApiFun=>refsE f.fRefs (mostF p f)) hx) h82
  exact ⟨(),trivial,by unfold progE;rw [if_neg hen,hfe,if_pos h82];rfl,Lh⟩
  refine Zj (Zze ?_)
  refine Zp J (Zn (Za ?_))
  exact ⟨rfl,i+1,⟨by omega,fstE_next hs (mapA (e:=fun f:ApiFun=>refsE f.fRefs (mostF p f)) hx) (Classical.not_not.1 h82)⟩,by omega,cv,Lh⟩
  obtain rfl:i=p.fFuns.length:=by omega
  have hf0 : fstE (funsE p) = 0 := by have : (funsE p).take p.fFuns.length = funsE p := by unfold funsE; rw [← List.length_map (f := fun f : ApiFun => refsE f.fRefs (mostF p f)), List.take_length]
                                      rw [← this]; exact hs
  refine Zm (Zb (Zb (Ze (Za (Zh (Zh (Zi (Zp J (Zn (Za (Zk (wLoop (ι:=Nat) (fun i=>[(1,.pointer (some ⟨b1,0,none⟩)),(9,.int .i64 (i:Int))]) (fun i=>[blk b1 43 (pcL p A0 c0 A1 c1)]) (fun i=>i≤p.fDats.length∧fstE ((datsE p).take i)=0) (fun i=>p.fDats.length-i) 0 ?_ cv (Leads.has ZQ) ?_))))))))))))
  exact ⟨Nat.zero_le _,rfl⟩
  rintro i ⟨hi,hs⟩
  try dsimp only
  refine Zh (Zh (Zi (Zo J (Zz (n:=1) (m:=1) J J J (Zld ?_)))))
  refine Zv J J (Zx J J (Zn (Za (wC (fun h88=>?_) (fun h88=>?_)))))
  obtain ⟨d,hx⟩:∃ x,p.fDats[i]?=some x:=⟨_,List.getElem?_eq_getElem ZO⟩
  have hdl:=hd d (List.mem_of_getElem? hx)
  obtain ⟨e1,cs1,hE⟩:=q1.elm hx
  obtain ⟨F0,f0,F1,f1,F2,f2,rfl,n0,r0,n1,r1,n2,r2⟩:=kApiDat_open hE.K
  refine Zj (Za (Zh (Zk (Zh (Zi (Zp J (Zn (Za (Zh (Zh (Zi (Zp J (Zn (Za (Zk (wLoop (ι:=Nat×Option Addr×Nat) (fun x=>[(1,.pointer (some ⟨b1,0,none⟩)),(9,.int .i64 (i:Int)),(10,.slice x.2.1 ((mostD p d).take x.1).length x.2.2),(11,.int .i64 (x.1:Int))]) (fun x=>[blk b1 43 (pcL p A0 c0 A1 c1),row (Kd.int .i64) B.e 3 (.slice x.2.1 ((mostD p d).take x.1).length x.2.2) ((mostD p d).take x.1)]) (fun x=>x.1≤d.fD.fWords.length) (fun x=>d.fD.fWords.length-x.1) (0,none,0) ?_ cv (Leads.nilrow.trans Lh) ?_))))))))))))))))
  exact Nat.zero_le _
  rintro ⟨j,A4,c4⟩ hj
  dsimp only at hj
  have htl:((mostD p d).take j).length≤1000:=by unfold mostD;rw [List.length_take,List.length_map];omega
  try dsimp only
  refine Zh (Zh (Zi (Zo J (Zz (n:=1) (m:=1) J J J (Zld ?_)))))
  refine Zo J (oIdxE J J (hE) ZO J J ?_)
  have hc95:=(hE).cell
  refine ZF (ZT 3) (ZT 3) ?_
  refine ZF (ZT 1) (ZT 4) ?_
  refine Zlx hc95 ?_
  refine Zv J J (Zx J J (Zn (Za (wC (fun h100=>?_) (fun h100=>?_)))))
  obtain ⟨x,hj2⟩:∃ x,d.fD.fWords[j]?=some x:=⟨_,List.getElem?_eq_getElem ZO⟩
  have hmt:(mostD p d).take (j+1)=(mostD p d).take j++[(p.fFuns.length:Int)]:=mapT (e:=fun _:Int=>(p.fFuns.length:Int)) hj2
  refine Zj (Za (Zh (Zk (Zi (Zo J (Zz (n:=0) (m:=0) J J J (Zld ?_)))))))
  refine Zv J J (oBuildSlice1 J J J J J ZP J (fun b107=>?_))
  refine oApp1 (p.fFuns.length:Int) J J J J ZP ZP J ZO J (fun g108 cp108=>?_)
  rw [show ((mostD p d).take j).length+1=((mostD p d).take (j+1)).length by rw [hmt,List.length_append];rfl,← hmt]
  refine Zp J (Zn (Zze ?_))
  refine Zp J (Zn (Za ?_))
  exact ⟨rfl,(j+1,some ⟨g108,0,none⟩,cp108),by show j+1≤_;omega,by show d.fD.fWords.length-(j+1)<d.fD.fWords.length-j;omega,cv,Lh⟩
  obtain rfl:j=d.fD.fWords.length:=by omega
  rw [show (mostD p d).take d.fD.fWords.length=mostD p d by unfold mostD;rw [← List.length_map (f:=fun _:Int=>(p.fFuns.length:Int)),List.take_length]]
  refine Zm (Zb (Zb (Ze (Za (Zh (Zi (Zz (n:=1) (m:=1) J J J (Zld ?_))))))))
  refine Zo J (oIdxE J J (hE) ZO J J ?_)
  have hc112:=(hE).cell
  refine ZF (ZT 6) (ZT 6) ?_
  refine Zlx hc112 ?_
  refine Zo J ?_
  (refine ZD J (fun w B' hB hR hS'=>ref24_refs hS' d.fRefs F2 f2 (Kd.C_grow hB r2) (mostD p d) A4 c4 (row_Cs (W:=B.e) (e:=3) (n:=(mostD p d).length) (cp:=c4) (hR _ _ ZP))) ?_;rintro ⟨⟩ -)
  refine Zp J (Zn (Za (Zh (Zi (Zo J (Z0 J J (Zn (Za (wC (fun h118=>?_) (fun h118=>?_))))))))))
  refine Zh (Zi (Zo J (Zzb ?_)))
  have hfe:fstE (datsE p)=refsE d.fRefs (mostD p d):=fstE_stop hs (mapA (e:=fun d:ApiDat=>refsE d.fRefs (mostD p d)) hx) h118
  exact ⟨(),trivial,by unfold progE;rw [if_neg hen,hf0,if_neg (by simp),hfe];rfl,Lh⟩
  refine Zj (Zze ?_)
  refine Zp J (Zn (Za ?_))
  exact ⟨rfl,i+1,⟨by omega,fstE_next hs (mapA (e:=fun d:ApiDat=>refsE d.fRefs (mostD p d)) hx) (Classical.not_not.1 h118)⟩,by omega,cv,Lh⟩
  refine Zm (Zzh ?_)
  obtain rfl:i=p.fDats.length:=by omega
  have hd0 : fstE (datsE p) = 0 := by have : (datsE p).take p.fDats.length = datsE p := by unfold datsE; rw [← List.length_map (f := fun d : ApiDat => refsE d.fRefs (mostD p d)), List.take_length]
                                      rw [← this]; exact hs
  exact ⟨(),trivial,by unfold progE;rw [if_neg hen,hf0,if_neg (by simp),hd0];rfl,Lh⟩
def oneF:ApiFunc:=⟨1,[0,0],0,false,0,0,[],[⟨15,1,0,0,0⟩,⟨24,1,0,0,0⟩],[⟨0,1,true⟩]⟩
def oneD:ApiData:=⟨0,[7],[]⟩
def oneS (x:Int):List ApiSymbol:=[⟨⟨#[109,97,105,110]⟩,false,1,1,0⟩,⟨⟨#[100]⟩,true,2,0,x⟩]
def oneO (x:Int):ApiObject:=⟨oneS x,[oneF],[oneD]⟩
theorem one_K {w:World}{s k c r f w' d:Nat}{x:Int}(h0:(blk s 37 [.string ⟨#[109,97,105,110]⟩,.bool false,.int .i64 1,.int .i64 1,.int .i64 0,.string ⟨#[100]⟩,.bool true,.int .i64 2,.int .i64 0,.int .i64 x]).q w) (h1:(blk k 3 [.int .i64 0,.int .i64 0]).q w) (h2:(blk c 67 [.int .i64 15,.int .i64 1,.int .i64 0,.int .i64 0,.int .i64 0,.int .i64 24,.int .i64 1,.int .i64 0,.int .i64 0,.int .i64 0]).q w) (h3:(blk r 103 [.int .i64 0,.int .i64 1,.bool true]).q w) (h4:(blk f 57 [.int .i64 1,.slice (some ⟨k,0,none⟩) 2 2,.int .i64 0,.bool false,.int .i64 0,.int .i64 0,.slice none 0 0,.slice (some ⟨c,0,none⟩) 2 2,.slice (some ⟨r,0,none⟩) 1 1]).q w) (h5:(blk w' 2 [.int .i64 7]).q w) (h6:(blk d 62 [.int .i64 0,.slice (some ⟨w',0,none⟩) 1 1,.slice none 0 0]).q w):kApiObject.K w (oneO x) [.slice (some ⟨s,0,none⟩) 2 2,.slice (some ⟨f,0,none⟩) 1 1,.slice (some ⟨d,0,none⟩) 1 1]:=
 kApiObject_mk w (oneO x) (A0:=some ⟨s,0,none⟩) (A1:=some ⟨f,0,none⟩) (A2:=some ⟨d,0,none⟩) (c0:=2) (c1:=1) (c2:=1) (by show 2≤2;omega)
  (C_blk (kd:=kApiSymbol) h0 (by show 2≤9223372036854775807;omega) ⟨_,_,rfl,kApiSymbol_mk w ⟨⟨#[109,97,105,110]⟩,false,1,1,0⟩,_,_,rfl,kApiSymbol_mk w ⟨⟨#[100]⟩,true,2,0,x⟩,rfl⟩) (by show 1≤1;omega)
  (C_blk (kd:=kApiFunc) h4 (by show 1≤9223372036854775807;omega) ⟨_,_,rfl,kApiFunc_mk w oneF (c0:=2) (c1:=0) (c2:=2) (c3:=1) (by decide) (C_blk (kd:=Kd.int .i64) h1 (by decide) (cat_scalar.2 rfl)) (by decide) (Kd.C_nil _ _ _) (by decide) (C_blk (kd:=kApiInstr) h2 (by decide) ⟨_,_,rfl,kApiInstr_mk w ⟨15,1,0,0,0⟩,_,_,rfl,kApiInstr_mk w ⟨24,1,0,0,0⟩,rfl⟩) (by decide) (C_blk (kd:=kApiReloc) h3 (by decide) ⟨_,_,rfl,kApiReloc_mk w ⟨0,1,true⟩,rfl⟩),rfl⟩) (by show 1≤1;omega)
  (C_blk (kd:=kApiData) h6 (by show 1≤9223372036854775807;omega) ⟨_,_,rfl,kApiData_mk w oneD (c0:=1) (c1:=0) (by decide) (C_blk (kd:=Kd.int .i64) h5 (by decide) (cat_scalar.2 rfl)) (by decide) (Kd.C_nil _ _ _),rfl⟩)
theorem one_good {x:Int}(hx:in64 x):GoodO (oneO x):=by
 refine ⟨?_,by show 2≤60;omega,by show 1≤20;omega,by show 1≤20;omega,fun f hf=>?_,fun d hd=>?_⟩
 · have s1:(⟨#[109,97,105,110]⟩:ByteArray).size=4:=rfl
   have s2:(⟨#[100]⟩:ByteArray).size=1:=rfl
   unfold vApiObject
   simp [s1,s2,oneO,oneS,oneF,oneD,vApiSymbol,vApiFunc,vApiData,vApiInstr,vApiReloc,vApiLine,in64,maxLen] at hx ⊢
   omega
 · obtain rfl:=List.mem_singleton.1 hf;decide
 · obtain rfl:=List.mem_singleton.1 hd;decide
theorem one_range:rangeF oneF=0:=by
 unfold rangeF
 rw [if_neg]
 rintro ⟨i,hi,hr,-⟩
 have hn:∀ y,¬ RP (rg oneF.fCode) (fromL oneF.fCode (dfrN oneF.fCode)) y:=by
  intro y hy
  induction hy with
  | start h1 h2=>rw [show fromL oneF.fCode (dfrN oneF.fCode)=[] from by decide] at h1;cases h1
  | step h1 h2 ih=>exact ih
 exact hn _ hr
theorem one_fun:funF oneF=0:=by unfold funF codeF;rw [flowF_eq];decide
theorem one_chk:chkE oneF (oneS 0)=0:=by unfold chkE;rw [one_fun];decide
theorem one_syms:symsL (oneO 0)=[0,0]:=by decide
theorem one_it0:itemE (oneO 0) 0=0:=by
 unfold itemE funE
 rw [if_neg (by decide),if_neg (by decide),if_neg (by decide),if_neg (by show ¬ chkE oneF (oneS 0)≠0;rw [one_chk];decide)]
 exact one_range
theorem one_it1:itemE (oneO 0) 1=0:=by
 unfold itemE
 rw [if_neg (by decide),if_pos (by decide),if_neg (by decide)]
 decide
theorem one_its:itsL (oneO 0)=[0,0]:=by
 show [itemE (oneO 0) 0,itemE (oneO 0) 1]=[0,0]
 rw [one_it0,one_it1]
theorem one_E:objE (oneO 0)=0∧objI (oneO 0) = -1:=by
 unfold objE objI
 rw [one_syms,one_its]
 decide
theorem law_One {B:Base}{w:World}(hS:St B [] w) :
 CW 28 #[] w (Ret B (fun _:Nat×Nat×Nat×Nat×Nat×Nat×Nat=>True) (fun z=>.agg #[.slice (some ⟨z.1,0,none⟩) 2 2,.slice (some ⟨z.2.2.2.2.1,0,none⟩) 1 1,.slice (some ⟨z.2.2.2.2.2.2,0,none⟩) 1 1]) (fun z=>[blk z.1 37 [.string ⟨#[109,97,105,110]⟩,.bool false,.int .i64 1,.int .i64 1,.int .i64 0,.string ⟨#[100]⟩,.bool true,.int .i64 2,.int .i64 0,.int .i64 0],blk z.2.1 3 [.int .i64 0,.int .i64 0],blk z.2.2.1 67 [.int .i64 15,.int .i64 1,.int .i64 0,.int .i64 0,.int .i64 0,.int .i64 24,.int .i64 1,.int .i64 0,.int .i64 0,.int .i64 0],blk z.2.2.2.1 103 [.int .i64 0,.int .i64 1,.bool true],blk z.2.2.2.2.1 57 [.int .i64 1,.slice (some ⟨z.2.1,0,none⟩) 2 2,.int .i64 0,.bool false,.int .i64 0,.int .i64 0,.slice none 0 0,.slice (some ⟨z.2.2.1,0,none⟩) 2 2,.slice (some ⟨z.2.2.2.1,0,none⟩) 1 1],blk z.2.2.2.2.2.1 2 [.int .i64 7],blk z.2.2.2.2.2.2 62 [.int .i64 0,.slice (some ⟨z.2.2.2.2.2.1,0,none⟩) 1 1,.slice none 0 0]])):=by
 refine ZX Tryz.func28 hS ?_
 refine Zh (Zi (oAlloc J ZP (fun b0=>?_)))
 refine Zn (Za (Zh (Zi (oBuild (Parts.cons J (Parts.cons J (Parts.cons J Parts.nil))) J J (Built.cons (off:=0) (s:=1) J ZP J ZP (Built.cons (off:=2) (s:=1) J ZP J ZP (Built.cons (off:=3) (s:=1) J ZP J ZP Built.nil))) ?_))))
 refine oBuild (Parts.cons J (Parts.cons J (Parts.cons J Parts.nil))) J J (Built.cons (off:=0) (s:=1) J ZP J ZP (Built.cons (off:=1) (s:=1) J ZP J ZP (Built.cons (off:=2) (s:=1) J ZP J ZP Built.nil))) ?_
 refine oBuildSliceF (Parts.cons J (Parts.cons J Parts.nil)) J J J J J (Fulls.cons ZP J (Fulls.cons ZP J Fulls.nil ap) ap) (fun b3=>?_)
 refine oBuildSliceF (Parts.cons J (Parts.cons J Parts.nil)) J J J J J (Fulls.cons ZP J (Fulls.cons ZP J Fulls.nil ap) ap) (fun b4=>?_)
 refine oBuild (Parts.cons J (Parts.cons J Parts.nil)) J J (Built.cons (off:=0) (s:=1) J ZP J ZP (Built.cons (off:=1) (s:=1) J ZP J ZP Built.nil)) ?_
 refine oBuild (Parts.cons J (Parts.cons J Parts.nil)) J J (Built.cons (off:=0) (s:=1) J ZP J ZP (Built.cons (off:=1) (s:=1) J ZP J ZP Built.nil)) ?_
 refine oBuildSliceF (Parts.cons J (Parts.cons J Parts.nil)) J J J J J (Fulls.cons ZP J (Fulls.cons ZP J Fulls.nil ap) ap) (fun b7=>?_)
 refine oBuild (Parts.cons J (Parts.cons J (Parts.cons J Parts.nil))) J J (Built.cons (off:=0) (s:=1) J ZP J ZP (Built.cons (off:=1) (s:=1) J ZP J ZP (Built.cons (off:=2) (s:=1) J ZP J ZP Built.nil))) ?_
 refine oBuildSlice1 J J J J J ZP J (fun b9=>?_)
 refine oBuild (Parts.cons J (Parts.cons J (Parts.cons J (Parts.cons J Parts.nil)))) J J (Built.cons (off:=0) (s:=1) J ZP J ZP (Built.cons (off:=1) (s:=1) J ZP J ZP (Built.cons (off:=7) (s:=1) J ZP J ZP (Built.cons (off:=8) (s:=1) J ZP J ZP Built.nil)))) ?_
 refine oBuildSlice1 J J J J J ZP J (fun b11=>?_)
 refine oBuildSlice1 J J J J J ZP J (fun b12=>?_)
 refine oBuild (Parts.cons J Parts.nil) J J (Built.cons (off:=1) (s:=1) J ZP J ZP Built.nil) ?_
 refine oBuildSlice1 J J J J J ZP J (fun b14=>?_)
 refine oBuild (Parts.cons J (Parts.cons J (Parts.cons J Parts.nil))) J J (Built.cons (off:=0) (s:=1) J ZP J ZP (Built.cons (off:=1) (s:=1) J ZP J ZP (Built.cons (off:=2) (s:=1) J ZP J ZP Built.nil))) ?_
 refine Zsa ?_
 refine Zn (Za (Zl (Zw (ZI ?_))))
 exact ⟨(b3,b4,b7,b9,b11,b12,b14),trivial,rfl,Lh⟩
abbrev mainB:ByteArray:=⟨#[109,97,105,110]⟩
abbrev dB:ByteArray:=⟨#[100]⟩
def oneFun:ApiFun:=⟨0,0,mainB,oneF,[0,-1]⟩
def oneDat:ApiDat:=⟨0,1,dB,oneD,[-1]⟩
def oneP:ApiProgram:=⟨[oneFun],[oneDat],0⟩
theorem one_chk23:chk23 [oneO 0]=(0,0,0):=by decide
theorem one_wrong:wrongR [oneO 0]=(0,0,0):=by
 unfold wrongR
 rw [if_neg (by decide),idxI_none (by intro y hy;obtain rfl:=List.mem_singleton.1 hy;unfold badB;rw [one_E.1];decide),if_neg (by decide),one_chk23]
theorem one_fnd:fnd [oneO 0] mainB=(0,0,true):=by decide
theorem one_fnd2:fnd [oneO 0] dB=(0,0,false):=by decide
theorem one_bindR:bindR [oneO 0] mainB=(0,0,0):=by
 rw [bind_wr,one_wrong,if_neg (by decide),one_fnd]
 decide
theorem one_bindR2:bindR [oneO 0] dB=(15,-1,-1):=by
 rw [bind_wr,one_wrong,if_neg (by decide),one_fnd2]
 decide
theorem one_bindP:bindP [oneO 0] mainB=oneP:=by
 unfold bindP
 rw [one_bindR,if_pos rfl,one_fnd]
 rfl
theorem one_bindP2:bindP [oneO 0] dB=⟨[],[],0⟩:=by
 unfold bindP
 rw [one_bindR2,if_neg (by decide)]
theorem one_few:FewO [oneO 0]:=by
 refine ⟨by decide,fun o ho=>?_,fun o ho=>?_,fun o ho=>?_,fun o ho f hf=>?_,fun o ho d hd=>?_⟩ <;> obtain rfl:=List.mem_singleton.1 ho
 · decide
 · decide
 · decide
 · obtain rfl:=List.mem_singleton.1 hf;decide
 · obtain rfl:=List.mem_singleton.1 hd;decide
theorem one_vs:∀ o ∈ [oneO 0],vApiObject o:=fun o ho=>by
 obtain rfl:=List.mem_singleton.1 ho
 exact (one_good (by unfold in64;omega)).1
theorem rej_eql (r q:Int×Int×Int) (w:World):(binOp .eql 45 (.agg (rejL r).toArray) (.agg (rejL q).toArray)).run Tryz.prog w=.ok (.bool (decide (r=q))) w:=by
 obtain ⟨a,b,c⟩:=r
 obtain ⟨d,e,f⟩:=q
 simp [go_sem,binOp,Op.equal,Op.maxDepth]
 by_cases h1:a=d
 · subst h1
   by_cases h2:b=e
   · subst h2
     by_cases h3:c=f
     · subst h3;simp
     · simp [h3]
   · simp [h2]
 · simp [h1]
theorem known24 {B:Base}{w:World}(hS:St B [] w) :
 CW 17 #[] w (Ret B (fun _:Unit=>True) (fun _=>.bool true) (fun _=>[])):=by
 refine ZX Tryz.func17 hS ?_
 refine Zh (Zi (Zp J (Zn (Za (Zh (Zi ?_))))))
 (refine ZC0 rfl ZK (fun w hS=>frame hS ZQ (fun B' hB hS'=>law_One hS')) ?_;rintro ⟨x1,x2,x3,x4,x5,x6,x7⟩ -)
 try dsimp only
 refine oBuildSlice1 J J J J J ZP J (fun b7=>?_)
 refine Zp J (Zn (Za (wFreeze [blk x1 37 [.string ⟨#[109,97,105,110]⟩,.bool false,.int .i64 1,.int .i64 1,.int .i64 0,.string ⟨#[100]⟩,.bool true,.int .i64 2,.int .i64 0,.int .i64 0],blk x2 3 [.int .i64 0,.int .i64 0],blk x3 67 [.int .i64 15,.int .i64 1,.int .i64 0,.int .i64 0,.int .i64 0,.int .i64 24,.int .i64 1,.int .i64 0,.int .i64 0,.int .i64 0],blk x4 103 [.int .i64 0,.int .i64 1,.bool true],blk x5 57 [.int .i64 1,.slice (some ⟨x2,0,none⟩) 2 2,.int .i64 0,.bool false,.int .i64 0,.int .i64 0,.slice none 0 0,.slice (some ⟨x3,0,none⟩) 2 2,.slice (some ⟨x4,0,none⟩) 1 1],blk x6 2 [.int .i64 7],blk x7 62 [.int .i64 0,.slice (some ⟨x6,0,none⟩) 1 1,.slice none 0 0],blk b7 26 [.slice (some ⟨x1,0,none⟩) 2 2,.slice (some ⟨x5,0,none⟩) 1 1,.slice (some ⟨x7,0,none⟩) 1 1]] ZQ (fun B1 hB1 hq1=>?_))))
 have hC:kApiObject.C B1.e (some ⟨b7,0,none⟩) [oneO 0]:=C_blk (kd:=kApiObject) (hq1 (blk b7 _ _) _ ZP) (by decide) ⟨_,_,rfl,one_K (x:=0) (s:=x1) (k:=x2) (c:=x3) (r:=x4) (f:=x5) (w':=x6) (d:=x7) (hq1 _ _ ZP) (hq1 _ _ ZP) (hq1 _ _ ZP) (hq1 _ _ ZP) (hq1 _ _ ZP) (hq1 _ _ ZP) (hq1 _ _ ZP),rfl⟩
 refine Zh (Zi (Zo J ?_))
 (refine ZC0 rfl ZK (fun w hS=>frame hS ZQ (fun B' hB hS'=>bind_Bind hS' (some ⟨b7,0,none⟩) 1 [oneO 0] (Kd.C_grow hB hC) one_vs one_few mainB B1.e)) ?_;rintro z hz)
 rw [one_bindP] at hz ⊢
 rw [one_bindR]
 refine Zo J (oExt J ZP ?_)
 refine oExt J ZP ?_
 refine oAlloc J ZP (fun b2=>?_)
 refine oAlloc J ZP (fun b3=>?_)
 refine Zsa ?_
 refine Zsa ?_
 refine Zn (Zzn ?_)
 (refine ZC0 rfl ZK (fun w hS=>frame hS ZQ (fun B' hB hS'=>bind_Bind hS' (some ⟨b7,0,none⟩) 1 [oneO 0] (Kd.C_grow hB hC) one_vs one_few dB B1.e)) ?_;rintro z2 hz2)
 rw [one_bindP2] at hz2 ⊢
 rw [one_bindR2]
 refine Zo J (oExt J ZP ?_)
 refine oExt J ZP ?_
 refine oAlloc J ZP (fun b4=>?_)
 refine oAlloc J ZP (fun b5=>?_)
 refine Zsa ?_
 refine Zsa ?_
 refine Zn (Za (wFreeze [row (kRaw 13) B1.e 59 (.slice z.Af z.rf.length z.cf) z.rf,row (kRaw 7) B1.e 64 (.slice z.Ad z.rd.length z.cd) z.rd,bun z.Ψ] ZQ (fun B2 hB2 hq2=>?_)))
 obtain ⟨k1,k2⟩:=hz _ (hq2 (bun z.Ψ) _ ZP)
 have hp:=PR.K (e:=0) hz (hq2 _ _ ZP) (hq2 _ _ ZP) (hq2 _ _ ZP)
 have q0:=rawrow (kd:=kApiFun) (hq2 (row (kRaw 13) _ _ _ _) _ ZP) rfl k1
 have q1:=rawrow (kd:=kApiDat) (hq2 (row (kRaw 7) _ _ _ _) _ ZP) rfl k2
 have l1:=k1.length
 have l2:=k2.length
 replace l1:z.rf.length=1:=l1
 have lr:oneFun.fRefs.length=2:=rfl
 replace l2:z.rd.length=1:=l2
 obtain ⟨e1,cs1,hE⟩:=q0.elm (i:=0) (u:=oneFun) rfl
 obtain ⟨F0,f0,F1,f1,F2,f2,F3,f3,F4,f4,rfl,n0,r0,n1,r1,n2,r2,n3,r3,n4,r4⟩:=kApiFun_open hE.K
 obtain ⟨e2,cs2,hE2⟩:=r4.elm (i:=0) (u:=0) rfl
 obtain rfl:=(show cs2=[Value.int .i64 0] from hE2.K)
 obtain ⟨e3,cs3,hE3⟩:=r4.elm (i:=1) (u:=-1) rfl
 obtain rfl:=(show cs3=[Value.int .i64 (-1)] from hE3.K)
 obtain ⟨e4,cs4,hE4⟩:=q1.elm (i:=0) (u:=oneDat) rfl
 obtain ⟨G0,g0,G1,g1,G2,g2,rfl,m0,s0,m1,s1,m2,s2⟩:=kApiDat_open hE4.K
 refine Zh (Zi ?_)
 simp only [List.append_eq,List.cons_append,List.nil_append]
 refine Zla ?_
 refine oBuild Parts.nil J J Built.nil (Go.Proofs.YtafiabekcekdbaaGreatS.oBinV (r:=.bool true) J J (fun w=>run_eqGuard_agg w .eql _ _ _ _ _ Tryz.eqGuardType45) (fun w=>rej_eql (0,0,0) (0,0,0) w) ?_)
 refine Zo J (Zq J J (Zz (n:=0) (m:=0) J J J (Zzf ?_)))
 refine Zq J J (Zv J J (Zq J J (Zy J J ?_)))
 refine ZS0 (t:=25) (v':=.bool true) rfl (by first | rfl | decide | (simp;done) | (simp [l1];done) | (simp [l2];done)) ?_
 refine Zt J J (Zo J (Zq J J (Zz (n:=1) (m:=1) J J J (Zzf ?_))))
 refine Zq J J (Zv J J (Zq J J (Zy J J ?_)))
 refine ZS0 (t:=31) (v':=.bool true) rfl (by first | rfl | decide | (simp;done) | (simp [l1];done) | (simp [l2];done)) ?_
 refine Zt J J (Zo J (Zq J J (Zz (n:=0) (m:=0) J J J (Zzf ?_))))
 refine Zq J J ?_
 refine oIdxE rfl rfl (hE) (by rw [l1];decide) rfl rfl ?_
 have hc36:=(hE).cell
 refine Zq J J (ZF (ZT 2) (ZT 2) ?_)
 refine Zq J J (Zlx hc36 ?_)
 refine Zq J J (oSEq J J ?_)
 refine ZS0 (t:=39) (v':=.bool true) rfl (by first | rfl | decide | (simp;done) | (simp [l1];done) | (simp [l2];done)) ?_
 refine Zt J J (Zo J (Zq J J (Zz (n:=0) (m:=0) J J J (Zzf ?_))))
 refine Zq J J ?_
 refine oIdxE rfl rfl (hE) (by rw [l1];decide) rfl rfl ?_
 have hc44:=(hE).cell
 refine Zq J J (ZF (ZT 12) (ZT 12) ?_)
 refine Zq J J (Zlx hc44 ?_)
 refine Zq J J ?_
 refine oIdxE rfl rfl (hE2) (by rw [lr];decide) rfl rfl ?_
 have hc47:=(hE2).cell
 refine Zq J J (Zlx hc47 ?_)
 refine Zq J J (Zy J J ?_)
 refine ZS0 (t:=49) (v':=.bool true) rfl (by first | rfl | decide | (simp;done) | (simp [l1];done) | (simp [l2];done)) ?_
 refine Zt J J (Zo J (Zq J J (Zz (n:=0) (m:=0) J J J (Zzf ?_))))
 refine Zq J J ?_
 refine oIdxE rfl rfl (hE) (by rw [l1];decide) rfl rfl ?_
 have hc54:=(hE).cell
 refine Zq J J (ZF (ZT 12) (ZT 12) ?_)
 refine Zq J J (Zlx hc54 ?_)
 refine Zq J J ?_
 refine oIdxE rfl rfl (hE3) (by rw [lr];decide) rfl rfl ?_
 have hc57:=(hE3).cell
 refine Zq J J (Zlx hc57 ?_)
 refine Zq J J (Zy J J ?_)
 refine ZS0 (t:=59) (v':=.bool true) rfl (by first | rfl | decide | (simp;done) | (simp [l1];done) | (simp [l2];done)) ?_
 refine Zt J J (Zo J (Zq J J (Zz (n:=1) (m:=1) J J J (Zzf ?_))))
 refine Zq J J ?_
 refine oIdxE rfl rfl (hE4) (by rw [l2];decide) rfl rfl ?_
 have hc64:=(hE4).cell
 refine Zq J J (ZF (ZT 1) (ZT 1) ?_)
 refine Zq J J (Zlx hc64 ?_)
 refine Zq J J (Zy J J ?_)
 refine ZS0 (t:=67) (v':=.bool true) rfl (by first | rfl | decide | (simp;done) | (simp [l1];done) | (simp [l2];done)) ?_
 refine Zt J J (Zo J (Zq J J (Zla ?_)))
 refine Zq J J (oBuild (Parts.cons J (Parts.cons J (Parts.cons J Parts.nil))) J J (Built.cons (off:=0) (s:=1) J ZP J ZP (Built.cons (off:=1) (s:=1) J ZP J ZP (Built.cons (off:=2) (s:=1) J ZP J ZP Built.nil))) ?_)
 refine Zq J J (Go.Proofs.YtafiabekcekdbaaGreatS.oBinV (r:=.bool true) J J (fun w=>run_eqGuard_agg w .eql _ _ _ _ _ Tryz.eqGuardType45) (fun w=>rej_eql (15,-1,-1) (15,-1,-1) w) ?_)
 refine Zt J J (Zo J (Zq J J (Zla ?_)))
 refine Zq J J ?_
 (refine ZC0 rfl ZK (fun w hS=>frame hS ZQ (fun B' hB hS'=>bind_Fun hS' oneP _ (gPg hB hp) 0 0)) ?_;rintro ⟨⟩ -)
 refine Zq J J (Zy J J ?_)
 refine ZS0 (t:=77) (v':=.bool true) rfl (by first | rfl | decide | (simp;done) | (simp [l1];done) | (simp [l2];done)) ?_
 refine Zt J J (Zo J (Zq J J (Zla ?_)))
 refine Zq J J ?_
 (refine ZC0 rfl ZK (fun w hS=>frame hS ZQ (fun B' hB hS'=>bind_Fun hS' oneP _ (gPg hB hp) 0 1)) ?_;rintro ⟨⟩ -)
 refine Zq J J (Zy J J ?_)
 refine ZS0 (t:=82) (v':=.bool true) rfl (by first | rfl | decide | (simp;done) | (simp [l1];done) | (simp [l2];done)) ?_
 refine Zt J J (Zo J (Zq J J (Zla ?_)))
 refine Zq J J ?_
 (refine ZC0 rfl ZK (fun w hS=>frame hS ZQ (fun B' hB hS'=>bind_Check hS' oneP _ (gPg hB hp))) ?_;rintro ⟨⟩ -)
 refine Zq J J (Zy J J ?_)
 refine ZS0 (t:=87) (v':=.bool true) rfl (by first | rfl | decide | (simp;done) | (simp [l1];done) | (simp [l2];done)) ?_
 refine Zt J J (Zo J (Zq J J (oBuild Parts.nil J J Built.nil (Zq J J ?_))))
 (refine ZC0 rfl ZK (fun w hS=>frame hS ZQ (fun B' hB hS'=>bind_Check hS' ⟨[],[],0⟩ _ (kApiProgram_mk _ ⟨[],[],0⟩ (c0:=0) (c1:=0) (by decide) (Kd.C_nil _ _ _) (by decide) (Kd.C_nil _ _ _)))) ?_;rintro ⟨⟩ -)
 refine Zq J J (Zy J J ?_)
 refine ZS0 (t:=92) (v':=.bool true) rfl (by first | rfl | decide | (simp;done) | (simp [l1];done) | (simp [l2];done)) ?_
 refine Zt J J (Zza ?_)
 exact ⟨(),trivial,rfl,Lh⟩
end Go.Proofs.YtafiabekcekdbaaGreatO
namespace Go.Proofs.YtafiabekcekdbaaGreatK
set_option maxRecDepth 100000
set_option maxHeartbeats 4000000
open Go.RowKit
def patchL:List Value→Nat→List Value→List Value
  | cs,_,[]=>cs
  | cs,i,v :: vs=>patchL (cs.set i v) (i+1) vs
theorem patchL_len:∀ (vs cs:List Value) (i:Nat),(patchL cs i vs).length=cs.length
 | [],cs,i=>rfl
 | v :: vs,cs,i=>by rw [patchL,patchL_len,List.length_set]
theorem patchL_left:∀ (vs a r:List Value) (i:Nat),i+vs.length≤a.length→patchL (a++r) i vs=patchL a i vs++r
 | [],a,r,i,_=>rfl
 | v :: vs,a,r,i,h=>by
  rw [List.length_cons] at h
  rw [patchL,patchL,List.set_append_left _ _ ZO]
  exact patchL_left vs _ r _ (by rw [List.length_set];omega)
theorem patchL_right:∀ (vs a r:List Value) (i:Nat),patchL (a++r) (a.length+i) vs=a++patchL r i vs
 | [],a,r,i=>rfl
 | v :: vs,a,r,i=>by
  rw [patchL,patchL,List.set_append_right _ _ ZO,Nat.add_sub_cancel_left,Nat.add_assoc]
  exact patchL_right vs a _ (i+1)
theorem patchL_take:∀ (vs cs:List Value) (i n:Nat),i+vs.length≤n→(patchL cs i vs).take n=patchL (cs.take n) i vs
 | [],cs,i,n,_=>rfl
 | v :: vs,cs,i,n,h=>by
  rw [List.length_cons] at h
  rw [patchL,patchL,patchL_take vs _ _ _ ZO,List.take_set]
def patchW (w:World) (b:Nat):Nat→List Value→World
  | _,[]=>w
  | i,v :: vs=>patchW (w.setCell ⟨b,i,none⟩ v) b (i+1) vs
theorem patchW_chg (b:Nat):∀ (vs:List Value) (w:World) (i:Nat),Chg w (patchW w b i vs) (fun k=>k=b)
 | [],w,i=>Chg.refl w _
 | v :: vs,w,i=>(Chg.setCell w ⟨b,i,none⟩ v).trans (patchW_chg b vs _ _)
theorem patchW_heap {b:Nat}{tb:TypeId} : ∀ (vs:List Value) (w:World) (i:Nat) (cs:List Value),w.heap[b]?=some (.cells cs.toArray tb (0,0))→(patchW w b i vs).heap[b]?=some (.cells (patchL cs i vs).toArray tb (0,0))
 | [],w,i,cs,h=>h
 | v :: vs,w,i,cs,h=>patchW_heap vs _ _ _ (set_heap h)
theorem run_storeN {P:Program}{b i:Nat}{tb:TypeId} : ∀ (vs:List Value) (w:World) (k:Nat) (cs:List Value),w.heap[b]?=some (.cells cs.toArray tb (0,0))→i+k+vs.length≤cs.length→(vs.all (·.oneCell')=true)→
 (storeCells ⟨b,i,none⟩ vs k).run P w=.ok () (patchW w b (i+k) vs)
 | [],w,k,cs,hb,hi,h1=>by simp [storeCells,patchW,Sem.run]
 | v :: vs,w,k,cs,hb,hi,h1=>by
  rw [List.length_cons] at hi
  rw [List.all_cons,Bool.and_eq_true] at h1
  have hil:i+k<cs.length:=by omega
  have hc:w.cell? ⟨b,i+k,none⟩=some cs[i+k]:=by rw [cell_of hb];simp [hil]
  have hf:w.frozen? ⟨b,i+k,none⟩=false:=frozen_of hb
  have ih:=run_storeN (P:=P) (i:=i) vs (w.setCell ⟨b,i+k,none⟩ v) (k+1) (cs.set (i+k) v) (set_heap hb) (by rw [List.length_set];omega) h1.2
  have h2:=h1.1
  rw [← Nat.add_assoc] at ih
  rw [patchW]
  show (do store ((⟨b,i,none⟩:Addr).add k) v;storeCells ⟨b,i,none⟩ vs (k+1)).run P w=_
  rw [add_at]
  cases v <;> simp_all [store,Sem.run,Value.oneCell',Sem.run_bind]
theorem Cat.patch {α:Type}{kd:Kd α}{W:World}{x u:α}{o:Nat}{vs:List Value}(ho:o+vs.length≤kd.sz) (hK:∀ a,kd.K W x a→kd.K W u (patchL a o vs)):∀ {xs:List α}{cs:List Value}(i:Nat),Cat kd W xs cs→xs[i]?=some x→Cat kd W (xs.set i u) (patchL cs (i * kd.sz+o) vs)
 | [],_,i,_,h=>by simp at h
 | y :: xs,cs,0,⟨a,rest,e,hk,hR⟩,h=>by
  obtain rfl:y=x:=by simpa using h
  subst e
  rw [Nat.zero_mul,Nat.zero_add,patchL_left _ _ _ _ (by rw [kd.K_len hk];exact ho)]
  exact ⟨_,_,rfl,hK a hk,hR⟩
 | y :: xs,cs,i+1,⟨a,rest,e,hk,hR⟩,h=>by
  subst e
  have hl:=kd.K_len hk
  rw [show (i+1) * kd.sz+o=a.length+(i * kd.sz+o) by rw [hl,Nat.succ_mul];omega,patchL_right]
  exact ⟨_,_,rfl,hk,hR.patch ho hK i (by simpa using h)⟩
section
variable {c : Cx} {M : Me c} {ty : TypeId} {pos : String} {af : Array Edge} {rest : List Oper} {E : Env} {D : List Deferred} {H H' : List Res} {v : Value} {x y : Operand} {t : TypeId}
theorem oStP {α:Type}{kd:Kd α}{W:World}{e:TypeId}{g n cp i o s:Nat}{xs:List α}(u:α) (vs:List Value) (x0:α) (hx:E.op x=some (.pointer (some (elt g i s o)))) (hy:E.op y=some v) (hv:v.cells=vs.toArray) (h1:vs.all (·.oneCell')=true) (hs:(c.P.info? t).map (·.size)=some vs.length) (hsz:kd.sz=s)
 (hp:Pick H (row kd W e (.slice (some ⟨g,0,none⟩) n cp) xs) H') (hi:xs[i]?=some x0) (ho:o+vs.length≤s) (hK:∀ a,kd.K W x0 a→kd.K W u (patchL a o vs))
 (h:O M.toMd rest E D (row kd W e (.slice (some ⟨g,0,none⟩) n cp) (xs.set i u) :: H')):O M.toMd (⟨none,.store t x y,ty,pos,af,none⟩ :: rest) E D H:=
 oEffs rfl fun a w ha hw=>by
  subst hsz
  obtain ⟨cs,ho',hr⟩:(row kd W e (.slice (some ⟨g,0,none⟩) n cp) xs).q w:=hw.get hp
  obtain ⟨hl,ho'⟩:=ho'
  have hil:=(List.getElem?_eq_some_iff.1 hi).1
  have hcl:=hr.len
  rcases ho' with ⟨e1,_⟩ | ⟨g',cap,cur,e1,_,hb,g2,g3,g4,g5⟩
  · injection e1 with e1 _ _;cases e1
  · injection e1 with e1 e2 e3
    injection e1 with e1;injection e1 with e1 _ _
    subst e1 e2 e3
    have e1:elt g i kd.sz o=⟨g,i * kd.sz+o,none⟩:=by unfold elt;rfl
    have hb':w.heap[g]?=some (.cells cur.toList.toArray e (0,0)):=by simpa using hb
    have hmul:(i+1) * kd.sz≤xs.length * kd.sz:=Nat.mul_le_mul_right _ hil
    rw [Nat.succ_mul] at hmul
    have hcur:xs.length * kd.sz≤cur.toList.length:=by
     have:=congrArg List.length g5
     rw [List.length_take] at this
     omega
    have hic:i * kd.sz+o+vs.length≤cur.toList.length:=by omega
    have hst:=run_storeN (P:=c.P) (i:=i * kd.sz+o) vs w 0 cur.toList hb' hic h1
    obtain ⟨inf,hi',hs'⟩:=Option.map_eq_some_iff.1 hs
    refine ⟨patchW w g (i * kd.sz+o) vs,row kd W e (.slice (some ⟨g,0,none⟩) xs.length cp) (xs.set i u) :: H',?_,hw.upd' hp ((patchW_chg g vs w _).mono (fun k hk=>by subst hk;rfl)) ⟨patchL cs (i * kd.sz+o) vs,?_,hr.patch ho hK i hi⟩ (fun k hk=>.inl hk),h⟩
    · simp [execOp,ha.op hx,ha.op hy,e1,Instr.storeAt,Instr.sureAddr,storeVar,sizeOf,typeInfo,hi',hs',hv,hst]
    · refine ⟨by rw [patchL_len,List.length_set];exact hl,.inr ⟨g,cp,(patchL cur.toList (i * kd.sz+o) vs).toArray,by simp,Nat.zero_le _,patchW_heap vs w _ _ hb',by simpa using g2,g3,by rw [List.size_toArray,patchL_len];simpa using g4,?_⟩⟩
      rw [List.length_set]
      show (patchL cur.toList _ vs).take _=_
      rw [patchL_take _ _ _ _ ZO,g5]
end
end Go.Proofs.YtafiabekcekdbaaGreatK
namespace Go.Proofs.YtafiabekcekdbaaGreatW
set_option maxRecDepth 100000
set_option maxHeartbeats 4000000
open Go.RowKit Go.Proofs.YtafiabekcekdbaaGreatK Go.Proofs.YtafiabekcekdbaaGreatT Go.Proofs.YtafiabekcekdbaaGreatL Go.Proofs.YtafiabekcekdbaaGreatV Go.Proofs.YtafiabekcekdbaaGreatG

theorem ref24_Few {B:Base}{w:World}(hS:St B [] w) (A:Option Addr) (cp:Nat) (l:List ApiObject) (hC:kApiObject.C B.e A l) :
 CW 16 #[.slice A l.length cp] w (Ret B (fun r:Bool=>r=true→FewO l) (fun r=>.bool r) (fun _=>[])):=by
 have hl:=hC.1
 refine ZX Tryz.func16 hS ?_
 refine Zh (Zi (Zp J (Zn (Za (Zh (Zh (Zi (Zp J (Zn (Za (Zk (wLoop (ι:=Nat) (fun i=>[(0,.slice A l.length cp),(3,.int .i64 (i:Int))]) (fun i=>[]) (fun i=>i≤l.length∧∀ o ∈ l.take i,FewB o) (fun i=>l.length-i) 0 ?_ cv (Leads.has ZQ) ?_))))))))))))
 exact ⟨Nat.zero_le _,by simp⟩
 rintro i ⟨hi,hs⟩
 try dsimp only
 refine Zh (Zh (Zi (Zo J (Zo J (Zv J J (Zx J J (Zn (Za (wC (fun h7=>?_) (fun h7=>?_))))))))))
 obtain ⟨o,ho⟩:∃ o,l[i]?=some o:=⟨_,List.getElem?_eq_getElem ZO⟩
 obtain ⟨e1,cs1,hE⟩:=hC.elm ho
 obtain ⟨B0,d0,B1,d1,B2,d2,rfl,m0,q0,m1,q1,m2,q2⟩:=kApiObject_open hE.K
 refine Zj (Za (Zh (Zk (Zh (Zi (Zo J (Zo J (oIdxE J J (hE) ZO J J ?_))))))))
 have hc12:=(hE).cell
 refine Zlx hc12 ?_
 (refine ZC0 rfl ZK (fun w hS=>frame hS ZQ (fun B' hB hS'=>ref19_Few hS' o _ (kApiObject_mk _ o m0 (Kd.C_grow hB q0) m1 (Kd.C_grow hB q1) m2 (Kd.C_grow hB q2)))) ?_;rintro r14 h14)
 refine Zno ?_
 refine Zn (Za (wC (fun h15=>?_) (fun h15=>?_)))
 refine Zh (Zi (Zzb ?_))
 exact ⟨false,(by intro h;cases h),rfl,Lh⟩
 refine Zj (Zze ?_)
 refine Zp J (Zn (Za ?_))
 exact ⟨rfl,i+1,⟨by omega,take_all hs ho (h14 (by simp_all))⟩,by omega,cv,Lh⟩
 refine Zm (Zb (Zb (Ze (Za (Zh (Zi (Zo J (Zv J J (oLeq J J (Zza ?_))))))))))
 obtain rfl:i=l.length:=by omega
 rw [List.take_length] at hs
 exact ⟨_,(by intro h;have:=of_decide_eq_true h;exact ⟨by omega,fun o ho=>(hs o ho).syms,fun o ho=>(hs o ho).funcs,fun o ho=>(hs o ho).datas,fun o ho=>(hs o ho).fun_,fun o ho=>(hs o ho).data⟩),rfl,Lh⟩
theorem ref24_Bind {B:Base}{w:World}(hS:St B [] w) (A:Option Addr) (cp:Nat) (l:List ApiObject) (W0:World) (hW:Grow W0 B.e) (hC0:kApiObject.C W0 A l) (hv:∀ o ∈ l,vApiObject o) (hsm:FewO l) (s:ByteArray) :
 CW 19 #[.slice A l.length cp,.string s] w (Ret B (fun z:PZ=>z.ok∧z.prog (bindP l s).fEntry=bindP l s) (fun z=>.tuple #[.agg (z.cells (bindP l s).fEntry).toArray,.agg (rejL (bindR l s)).toArray]) (fun z=>[row kFunT W0 59 (.slice z.Af z.ft.length z.cf) z.ft,bun (rws (Kd.int .i64) W0 3 (z.ft.map hdT) z.fr),row kDatT W0 64 (.slice z.Ad z.dt.length z.cd) z.dt,bun (rws (Kd.int .i64) W0 3 (z.dt.map hdT) z.dr)])):=by
 have hln:=hsm.len
 have hC:=Kd.C_grow hW hC0
 refine ZX Tryz.func19 hS ?_
 refine Zh (Zi (oAlloc J ZP (fun b4=>?_)))
 refine oAlloc J ZP (fun b5=>?_)
 refine Zn (Za (Zh (Zh (Zi (Zo J (Zv J J (Zy J J (Zo J (ZS (ZT 17) (fun h17=>?_) (fun h17=>?_))))))))))
 refine Zr J J J J (Zr J J J J (Zr J J J J (Zt J J (Zn (Za (wCondT J (Zh (Zi (oBuild Parts.nil J J Built.nil (oBuild (Parts.cons J (Parts.cons J (Parts.cons J Parts.nil))) J J (Built.cons (off:=0) (s:=1) J ZP J ZP (Built.cons (off:=1) (s:=1) J ZP J ZP (Built.cons (off:=2) (s:=1) J ZP J ZP Built.nil))) ?_))))))))))
 refine Zsa ?_
 refine Zsa ?_
 refine Zn (Za (Zl (Zc (Zw ?_))))
 refine ⟨rfl,_,(ResL.cons (by first | exact ResR.cell rfl ZP rfl | exact ResR.agg rfl ZP rfl rfl) (ResL.cons (by first | exact ResR.cell rfl ZP rfl | exact ResR.agg rfl ZP rfl rfl) ResL.nil)),?_⟩
 have hR:bindR l s=(19,-1,-1):=by unfold bindR;rw [if_pos ZO]
 have hP:bindP l s=⟨[],[],0⟩:=by unfold bindP;rw [hR,if_neg (by first | decide | exact absurd rfl)]
 exact ⟨⟨none,0,[],[],none,0,[],[]⟩,⟨⟨rfl,rfl⟩,by rw [hP];rfl⟩,by rw [hR,hP];rfl,(Leads.nilrow.trans (bun_nil.trans (Leads.nilrow.trans (bun_nil.trans Lh))))⟩
 refine Zq J J (Zo J (Zq J J (Zv J J (Zq J J (Z1 J J (Zu J J (Zn (Za (wC (fun h21=>?_) (fun h21=>?_))))))))))
 refine Zh (Zi (oBuild Parts.nil J J Built.nil (oBuild (Parts.cons J (Parts.cons J (Parts.cons J Parts.nil))) J J (Built.cons (off:=0) (s:=1) J ZP J ZP (Built.cons (off:=1) (s:=1) J ZP J ZP (Built.cons (off:=2) (s:=1) J ZP J ZP Built.nil))) ?_)))
 refine Zsa ?_
 refine Zsa ?_
 refine Zn (Za (Zl (Zc (Zw ?_))))
 refine ⟨rfl,_,(ResL.cons (by first | exact ResR.cell rfl ZP rfl | exact ResR.agg rfl ZP rfl rfl) (ResL.cons (by first | exact ResR.cell rfl ZP rfl | exact ResR.agg rfl ZP rfl rfl) ResL.nil)),?_⟩
 have hR:bindR l s=(19,-1,-1):=by unfold bindR;rw [if_pos ZO]
 have hP:bindP l s=⟨[],[],0⟩:=by unfold bindP;rw [hR,if_neg (by first | decide | exact absurd rfl)]
 exact ⟨⟨none,0,[],[],none,0,[],[]⟩,⟨⟨rfl,rfl⟩,by rw [hP];rfl⟩,by rw [hR,hP];rfl,(Leads.nilrow.trans (bun_nil.trans (Leads.nilrow.trans (bun_nil.trans Lh))))⟩
 have hl0:¬ (l.length=0∨6<l.length):=by omega
 refine Zj (Za (Zh (Zh (Zi (Zp J (Zn (Za (Zk (wLoop (ι:=Nat) (fun i=>[(0,.slice A l.length cp),(1,.string s),(4,.pointer (some ⟨b4,0,none⟩)),(5,.pointer (some ⟨b5,0,none⟩)),(6,.int .i64 (i:Int))]) (fun i=>[blk b4 43 [.slice none 0 0,.slice none 0 0,.int .i64 0],blk b5 45 [.int .i64 0,.int .i64 0,.int .i64 0]]) (fun i=>i≤l.length∧∀ o ∈ l.take i,badB o=false) (fun i=>l.length-i) 0 ?_ cv (Leads.has ZQ) ?_)))))))))
 exact ⟨Nat.zero_le _,by simp⟩
 rintro i ⟨hi,hs⟩
 try dsimp only
 refine Zh (Zh (Zi (Zo J (Zo J (Zv J J (Zx J J (Zn (Za (wC (fun h27=>?_) (fun h27=>?_))))))))))
 obtain ⟨o,ho⟩:∃ o,l[i]?=some o:=⟨_,List.getElem?_eq_getElem ZO⟩
 obtain ⟨e1,cs1,hE⟩:=hC.elm ho
 obtain ⟨B0,d0,B1,d1,B2,d2,rfl,m0,q0,m1,q1,m2,q2⟩:=kApiObject_open hE.K
 have hg:=hsm.one hv (List.mem_of_getElem? ho)
 refine Zj (Za (Zh (Zk (Zh (Zi (Zo J (Zo J (oIdxE J J (hE) ZO J J ?_))))))))
 have hc33:=(hE).cell
 refine Zlx hc33 ?_
 (refine ZC0 rfl ZK (fun w hS=>frame hS ZQ (fun B' hB hS'=>ref19_Check hS' o _ (kApiObject_mk _ o m0 (Kd.C_grow hB q0) m1 (Kd.C_grow hB q1) m2 (Kd.C_grow hB q2)) hg)) ?_;rintro ⟨⟩ -)
 refine Zo J (oExt J ZP ?_)
 refine oExt J ZP ?_
 refine Zp J (Zp J (Zn (Za (Zh (Zi (Zo J (Z0 J J (Zn (Za (wC (fun h39=>?_) (fun h39=>?_)))))))))))
 refine Zh (Zi (oBuild Parts.nil J J Built.nil (Zo J (Zo J (Zo J (oBuild (Parts.cons J (Parts.cons J (Parts.cons J Parts.nil))) J J (Built.cons (off:=0) (s:=1) J ZP J ZP (Built.cons (off:=1) (s:=1) J ZP J ZP (Built.cons (off:=2) (s:=1) J ZP J ZP Built.nil))) ?_))))))
 refine Zsa ?_
 refine Zsa ?_
 refine Zn (Za (Zl (Zf (Zc (Zc (Zf (Zc (Zw ?_))))))))
 refine ⟨rfl,_,(ResL.cons (by first | exact ResR.cell rfl ZP rfl | exact ResR.agg rfl ZP rfl rfl) (ResL.cons (by first | exact ResR.cell rfl ZP rfl | exact ResR.agg rfl ZP rfl rfl) ResL.nil)),?_⟩
 have hR:bindR l s=(objE o,(i:Int),objI o):=by have hbi:=idxI_stop hs ho (show badB o=true from decide_eq_true h39);unfold bindR;rw [if_neg hl0,hbi,if_pos ZO,Int.toNat_natCast,objAt_eq ho]
 have hP:bindP l s=⟨[],[],0⟩:=by unfold bindP;rw [hR,if_neg (by first | decide | exact h39)]
 exact ⟨⟨none,0,[],[],none,0,[],[]⟩,⟨⟨rfl,rfl⟩,by rw [hP];rfl⟩,by rw [hR,hP];rfl,(Leads.nilrow.trans (bun_nil.trans (Leads.nilrow.trans (bun_nil.trans Lh))))⟩
 refine Zj (Zze ?_)
 refine Zp J (Zn (Za ?_))
 exact ⟨rfl,i+1,⟨by omega,take_not hs ho (decide_eq_false h39)⟩,by omega,cv,Lh⟩
 obtain rfl:i=l.length:=by omega
 rw [List.take_length] at hs
 have hb:¬ 0≤idxI badB l:=by rw [idxI_none hs];decide
 refine Zm (Zb (Zb (Ze (Za (Zh (Zh (Zi (Zo J ?_))))))))
 (refine ZC0 rfl ZK (fun w hS=>frame hS ZQ (fun B' hB hS'=>ref23_Check hS' A cp l (Kd.C_grow hB hC) hsm)) ?_;rintro ⟨⟩ -)
 refine oAlloc J ZP (fun b9=>?_)
 refine Zsa ?_
 refine Zn (Za (Zh (Zi (Zz (n:=0) (m:=0) J J J (Zld ?_)))))
 refine Z0 J J (Zn (Za (wC (fun h49=>?_) (fun h49=>?_))))
 refine Zh (wDrawN J J (ZM (i:=0) (rs:=[1]) ZK ?_))
 refine ZA J ?_ ?_
 refine oBuild Parts.nil J J Built.nil (Z7 (ZM (i:=1) (rs:=[2]) ZK ?_))
 refine ZA J ?_ ?_
 refine Zla ?_
 refine Z7 (ZM (i:=2) (rs:=[]) ZK ?_)
 refine ZA J ?_ ?_
 refine Zsa ?_
 refine Z7 (ZM (i:=3) (rs:=[]) ZK ?_)
 refine ZA J ?_ ?_
 refine Zsa ?_
 refine Z7 (anNil ZK ?_)
 refine Za (Zl (Zc (Zw ?_)))
 refine ⟨rfl,_,(ResL.cons (by first | exact ResR.cell rfl ZP rfl | exact ResR.agg rfl ZP rfl rfl) (ResL.cons (by first | exact ResR.cell rfl ZP rfl | exact ResR.agg rfl ZP rfl rfl) ResL.nil)),?_⟩
 have hR:bindR l s=chk23 l:=by unfold bindR;rw [if_neg hl0,if_neg hb,if_pos h49]
 have hP:bindP l s=⟨[],[],0⟩:=by unfold bindP;rw [hR,if_neg (by first | decide | exact h49)]
 exact ⟨⟨none,0,[],[],none,0,[],[]⟩,⟨⟨rfl,rfl⟩,by rw [hP];rfl⟩,by rw [hR,hP];rfl,(Leads.nilrow.trans (bun_nil.trans (Leads.nilrow.trans (bun_nil.trans Lh))))⟩
 exact ZB
 exact ZB
 refine ZA J ?_ ?_
 refine Zsa ?_
 refine Z7 (ZM (i:=1) (rs:=[]) ZK ?_)
 refine ZA J ?_ ?_
 refine Zla ?_
 refine Z7 (ZM (i:=3) (rs:=[]) ZK ?_)
 refine ZA J ?_ ?_
 refine Zsa ?_
 refine Z7 (anNil ZK ?_)
 refine Za (Zl (Zc (Zw ?_)))
 refine ⟨rfl,_,(ResL.cons (by first | exact ResR.cell rfl ZP rfl | exact ResR.agg rfl ZP rfl rfl) (ResL.cons (by first | exact ResR.cell rfl ZP rfl | exact ResR.agg rfl ZP rfl rfl) ResL.nil)),?_⟩
 have hR:bindR l s=chk23 l:=by unfold bindR;rw [if_neg hl0,if_neg hb,if_pos h49]
 have hP:bindP l s=⟨[],[],0⟩:=by unfold bindP;rw [hR,if_neg (by first | decide | exact h49)]
 exact ⟨⟨none,0,[],[],none,0,[],[]⟩,⟨⟨rfl,rfl⟩,by rw [hP];rfl⟩,by rw [hR,hP];rfl,(Leads.nilrow.trans (bun_nil.trans (Leads.nilrow.trans (bun_nil.trans Lh))))⟩
 exact ZB
 exact ZB
 exact ZB
 refine ZA J ?_ ?_
 refine Zla ?_
 refine Z7 (ZM (i:=0) (rs:=[]) ZK ?_)
 refine ZA J ?_ ?_
 refine oBuild Parts.nil J J Built.nil (Z7 (ZM (i:=2) (rs:=[]) ZK ?_))
 refine ZA J ?_ ?_
 refine Zsa ?_
 refine Z7 (ZM (i:=3) (rs:=[]) ZK ?_)
 refine ZA J ?_ ?_
 refine Zsa ?_
 refine Z7 (anNil ZK ?_)
 refine Za (Zl (Zc (Zw ?_)))
 refine ⟨rfl,_,(ResL.cons (by first | exact ResR.cell rfl ZP rfl | exact ResR.agg rfl ZP rfl rfl) (ResL.cons (by first | exact ResR.cell rfl ZP rfl | exact ResR.agg rfl ZP rfl rfl) ResL.nil)),?_⟩
 have hR:bindR l s=chk23 l:=by unfold bindR;rw [if_neg hl0,if_neg hb,if_pos h49]
 have hP:bindP l s=⟨[],[],0⟩:=by unfold bindP;rw [hR,if_neg (by first | decide | exact h49)]
 exact ⟨⟨none,0,[],[],none,0,[],[]⟩,⟨⟨rfl,rfl⟩,by rw [hP];rfl⟩,by rw [hR,hP];rfl,(Leads.nilrow.trans (bun_nil.trans (Leads.nilrow.trans (bun_nil.trans Lh))))⟩
 exact ZB
 exact ZB
 exact ZB
 exact ZB
 have hok:OkL l:=⟨hsm,fun o ho=>Classical.not_not.1 (of_decide_eq_false (hs o ho)),Classical.not_not.1 h49⟩
 refine Zj (Za (Zh (Zzx ?_)))
 (refine ZC0 rfl ZK (fun w hS=>frame hS ZQ (fun B' hB hS'=>ref23_Find hS' A cp l (Kd.C_grow hB hC) hsm s)) ?_;rintro ⟨⟩ -)
 refine Zo J (oExt J ZP ?_)
 refine oExt J ZP ?_
 refine oExt J ZP ?_
 refine Zp J (Zp J (Zp J (Zn (Za (Zh (Zh (Zi (Zo J (Zno ?_)))))))))
 refine Zo J (ZS (ZT 61) (fun h61=>?_) (fun h61=>?_))
 refine Zr J J J J (Zr J J J J (Zr J J J J (Zr J J J J (Zr J J J J (Zr J J J J (Zr J J J J (Zr J J J J (Zr J J J J (Zr J J J J (Zt J J (Zo J (Zr J J J J (Zr J J J J (Zr J J J J (Zr J J J J (Zr J J J J (Zr J J J J (Zr J J J J (Zr J J J J (Zr J J J J (Zr J J J J (Zt J J (Zn (Za (wCondT J (Zh (Zi (oBuild Parts.nil J J Built.nil (oBuild (Parts.cons J (Parts.cons J (Parts.cons J Parts.nil))) J J (Built.cons (off:=0) (s:=1) J ZP J ZP (Built.cons (off:=1) (s:=1) J ZP J ZP (Built.cons (off:=2) (s:=1) J ZP J ZP Built.nil))) ?_)))))))))))))))))))))))))))))
 refine Zsa ?_
 refine Zsa ?_
 refine Zn (Za (Zl (Zc (Zw ?_))))
 refine ⟨rfl,_,(ResL.cons (by first | exact ResR.cell rfl ZP rfl | exact ResR.agg rfl ZP rfl rfl) (ResL.cons (by first | exact ResR.cell rfl ZP rfl | exact ResR.agg rfl ZP rfl rfl) ResL.nil)),?_⟩
 have hR:bindR l s=(15,-1,-1):=by unfold bindR;rw [if_neg hl0,if_neg hb,if_neg h49,if_pos (.inl (by simpa using h61))]
 have hP:bindP l s=⟨[],[],0⟩:=by unfold bindP;rw [hR,if_neg (by first | decide | exact absurd rfl)]
 exact ⟨⟨none,0,[],[],none,0,[],[]⟩,⟨⟨rfl,rfl⟩,by rw [hP];rfl⟩,by rw [hR,hP];rfl,(Leads.nilrow.trans (bun_nil.trans (Leads.nilrow.trans (bun_nil.trans Lh))))⟩
 obtain ⟨i,k,o,x,hfe,ho,hx,hgx⟩:=fnd_some (show (fnd l s).2.2=true by simpa using h61)
 have hso:=symOf_eq ho hx
 have hil:=(List.getElem?_eq_some_iff.1 ho).1
 have hkl:=(List.getElem?_eq_some_iff.1 hx).1
 obtain ⟨e3,cs3,hE3⟩:=hC.elm ho
 obtain ⟨C0,f0,C1,f1,C2,f2,rfl,n0,r0,n1,r1,n2,r2⟩:=kApiObject_open hE3.K
 obtain ⟨e4,cs4,hE4⟩:=r0.elm hx
 obtain rfl:=kApiSymbol_open hE4.K
 rw [hfe]
 dsimp only
 refine Zq J J (Zo J (Zq J J (Zo J (Zq J J (oIdxE J J (hE3) ZO J J ?_)))))
 have hc64:=(hE3).cell
 refine Zq J J (ZF (ZT 0) (ZT 0) ?_)
 refine Zq J J (Zlx hc64 ?_)
 refine Zq J J (Zo J (Zq J J (oIdxE J J (hE4) ZO J J ?_)))
 have hc68:=(hE4).cell
 refine Zq J J (ZF (ZT 2) (ZT 2) ?_)
 refine Zq J J (Zlx hc68 ?_)
 refine Zq J J (Z0 J J (Zu J J (Zo J (ZS (ZT 73) (fun h73=>?_) (fun h73=>?_)))))
 refine Zr J J J J (Zr J J J J (Zr J J J J (Zr J J J J (Zr J J J J (Zr J J J J (Zr J J J J (Zr J J J J (Zr J J J J (Zr J J J J (Zt J J (Zn (Za (wCondT J (Zh (Zi (oBuild Parts.nil J J Built.nil (oBuild (Parts.cons J (Parts.cons J (Parts.cons J Parts.nil))) J J (Built.cons (off:=0) (s:=1) J ZP J ZP (Built.cons (off:=1) (s:=1) J ZP J ZP (Built.cons (off:=2) (s:=1) J ZP J ZP Built.nil))) ?_)))))))))))))))))
 refine Zsa ?_
 refine Zsa ?_
 refine Zn (Za (Zl (Zc (Zw ?_))))
 refine ⟨rfl,_,(ResL.cons (by first | exact ResR.cell rfl ZP rfl | exact ResR.agg rfl ZP rfl rfl) (ResL.cons (by first | exact ResR.cell rfl ZP rfl | exact ResR.agg rfl ZP rfl rfl) ResL.nil)),?_⟩
 have hR:bindR l s=(15,-1,-1):=by unfold bindR;rw [if_neg hl0,if_neg hb,if_neg h49,hfe];dsimp only;rw [hso,if_pos ZO]
 have hP:bindP l s=⟨[],[],0⟩:=by unfold bindP;rw [hR,if_neg (by first | decide | exact absurd rfl)]
 exact ⟨⟨none,0,[],[],none,0,[],[]⟩,⟨⟨rfl,rfl⟩,by rw [hP];rfl⟩,by rw [hR,hP];rfl,(Leads.nilrow.trans (bun_nil.trans (Leads.nilrow.trans (bun_nil.trans Lh))))⟩
 refine Zq J J (Zo J (Zq J J (Zo J (Zq J J (oIdxE J J (hE3) ZO J J ?_)))))
 have hc76:=(hE3).cell
 refine Zq J J (ZF (ZT 0) (ZT 0) ?_)
 refine Zq J J (Zlx hc76 ?_)
 refine Zq J J (Zo J (Zq J J (oIdxE J J (hE4) ZO J J ?_)))
 have hc80:=(hE4).cell
 refine Zq J J (ZF (ZT 3) (ZT 3) ?_)
 refine Zq J J (Zlx hc80 ?_)
 refine Zq J J (Z1 J J (Zu J J (Zn (Za (wC (fun h84=>?_) (fun h84=>?_))))))
 refine Zh (Zi (oBuild Parts.nil J J Built.nil (oBuild (Parts.cons J (Parts.cons J (Parts.cons J Parts.nil))) J J (Built.cons (off:=0) (s:=1) J ZP J ZP (Built.cons (off:=1) (s:=1) J ZP J ZP (Built.cons (off:=2) (s:=1) J ZP J ZP Built.nil))) ?_)))
 refine Zsa ?_
 refine Zsa ?_
 refine Zn (Za (Zl (Zc (Zw ?_))))
 refine ⟨rfl,_,(ResL.cons (by first | exact ResR.cell rfl ZP rfl | exact ResR.agg rfl ZP rfl rfl) (ResL.cons (by first | exact ResR.cell rfl ZP rfl | exact ResR.agg rfl ZP rfl rfl) ResL.nil)),?_⟩
 have hR:bindR l s=(15,-1,-1):=by unfold bindR;rw [if_neg hl0,if_neg hb,if_neg h49,hfe];dsimp only;rw [hso,if_pos ZO]
 have hP:bindP l s=⟨[],[],0⟩:=by unfold bindP;rw [hR,if_neg (by first | decide | exact absurd rfl)]
 exact ⟨⟨none,0,[],[],none,0,[],[]⟩,⟨⟨rfl,rfl⟩,by rw [hP];rfl⟩,by rw [hR,hP];rfl,(Leads.nilrow.trans (bun_nil.trans (Leads.nilrow.trans (bun_nil.trans Lh))))⟩
 have hR:bindR l s=(0,0,0):=by unfold bindR;rw [if_neg hl0,if_neg hb,if_neg h49,hfe];dsimp only;rw [hso,if_neg (by simp;omega)]
 refine Zj (Zzn ?_)
 (refine ZC0 rfl ZK (fun w hS=>frame hS ZQ (fun B' hB hS'=>ref24_program hS' A cp l W0 (hW.trans hB) hC0 hv hok)) ?_;rintro z ⟨hz,hzf,hzd⟩)
 refine oAlloc J ZP (fun b13=>?_)
 refine Zsa ?_
 refine Zn (Za (Zh (Zi (Zo J (Zo J (Zo J ?_))))))
 (refine ZC0 rfl ZK (fun w hS=>frame hS ZQ (fun B' hB hS'=>ref24_number hS' A cp l (Kd.C_grow hB hC) hsm i k (hok.bnd ho hkl))) ?_;rintro ⟨⟩ -)
 refine Zz (n:=2) (m:=2) J J J (Zst ?_)
 refine Zn (Za (Zzt ?_))
 refine oBuild Parts.nil J J Built.nil (Zsa ?_)
 refine Zsa ?_
 refine Zn (Za (Zl (Zw ?_)))
 refine ⟨rfl,_,(ResL.cons (by first | exact ResR.cell rfl ZP rfl | exact ResR.agg rfl ZP rfl rfl) (ResL.cons (by first | exact ResR.cell rfl ZP rfl | exact ResR.agg rfl ZP rfl rfl) ResL.nil)),?_⟩
 have hP:bindP l s=⟨funsTo l l.length,datsTo l l.length,numberF l i k⟩:=by unfold bindP;rw [hR,if_pos rfl,hfe]
 exact ⟨z,⟨hz,by rw [hP];unfold PZ.prog;rw [hzf,hzd]⟩,by rw [hR,hP];rfl,Lh⟩
end Go.Proofs.YtafiabekcekdbaaGreatW
namespace Go.Proofs.YtafiabekcekdbaaGreatO
set_option maxRecDepth 100000
set_option maxHeartbeats 4000000
open Go.RowKit Go.Proofs.YtafiabekcekdbaaGreatK Go.Proofs.YtafiabekcekdbaaGreatT Go.Proofs.YtafiabekcekdbaaGreatL Go.Proofs.YtafiabekcekdbaaGreatV Go.Proofs.YtafiabekcekdbaaGreatG Go.Proofs.YtafiabekcekdbaaGreatW Go.Proofs.YtafiabekcekdbaaGreatU

theorem funs_mem {l:List ApiObject}{x:ApiFun}(h:x ∈ funsTo l l.length):∃ (i k:Nat) (o:ApiObject) (f:ApiFunc),l[i]?=some o∧o.fFuncs[k]?=some f∧x=⟨(i:Int),(k:Int),nameI o (k:Int),f,boundL l i (symsF f)⟩:=by
 unfold funsTo at h
 obtain ⟨q,hq,hx⟩:=List.mem_flatten.1 h
 obtain ⟨i,hi,rfl⟩:=List.mem_map.1 hq
 have hi:=List.mem_range.1 hi
 have ho:l[i]?=some l[i]:=List.getElem?_eq_getElem hi
 unfold fileFuns at hx
 rw [objAt_eq ho] at hx
 obtain ⟨k,hk,rfl⟩:=List.mem_map.1 hx
 have hk:=List.mem_range.1 hk
 have hf:l[i].fFuncs[k]?=some l[i].fFuncs[k]:=List.getElem?_eq_getElem hk
 have hfg:funAt l i k=l[i].fFuncs[k]:=by unfold funAt;rw [objAt_eq ho,List.getD_eq_getElem?_getD,hf];rfl
 exact ⟨i,k,_,_,ho,hf,by unfold mkFun;rw [objAt_eq ho,hfg]⟩
theorem dats_mem {l:List ApiObject}{x:ApiDat}(h:x ∈ datsTo l l.length):∃ (i k:Nat) (o:ApiObject) (d:ApiData),l[i]?=some o∧o.fDatas[k]?=some d∧x=⟨(i:Int),((o.fFuncs.length+k:Nat):Int),nameI o ((o.fFuncs.length+k:Nat):Int),d,boundL l i (refsD d)⟩:=by
 unfold datsTo at h
 obtain ⟨q,hq,hx⟩:=List.mem_flatten.1 h
 obtain ⟨i,hi,rfl⟩:=List.mem_map.1 hq
 have hi:=List.mem_range.1 hi
 have ho:l[i]?=some l[i]:=List.getElem?_eq_getElem hi
 unfold fileDats at hx
 rw [objAt_eq ho] at hx
 obtain ⟨k,hk,rfl⟩:=List.mem_map.1 hx
 have hk:=List.mem_range.1 hk
 have hd:l[i].fDatas[k]?=some l[i].fDatas[k]:=List.getElem?_eq_getElem hk
 have hdg:datAt l i k=l[i].fDatas[k]:=by unfold datAt;rw [objAt_eq ho,List.getD_eq_getElem?_getD,hd];rfl
 exact ⟨i,k,_,_,ho,hd,by unfold mkDat;rw [objAt_eq ho,hdg]⟩
theorem code_pos {f:ApiFunc}{l:List ApiSymbol}(h:chkE f l=0):0<f.fCode.length:=by
 unfold chkE at h
 split at h
 · next h1=>exact absurd h h1
 · next h1=>
   have h1:=Classical.not_not.1 h1
   unfold funF at h1
   split at h1
   · next h2=>exact absurd h1 h2
   · split at h1
     · exact absurd h1 (by decide)
     · split at h1
       · next h2=>exact absurd h1 h2
       · next h2=>
         have h2:=Classical.not_not.1 h2
         unfold codeF at h2
         split at h2
         · next h3=>exact absurd h2 h3
         · next h3=>
           have h3:=Classical.not_not.1 h3
           unfold flowF at h3
           split at h3
           · exact absurd h3 (by decide)
           · omega
theorem zip_mem {α β γ:Type}{m:α→β→γ}{a:List α}{b:List β}{x:γ}(h:x ∈ List.zipWith m a b):∃ u ∈ a,∃ v ∈ b,x=m u v:=by
 obtain ⟨i,hi,rfl⟩:=List.mem_iff_getElem.1 h
 rw [List.length_zipWith] at hi
 exact ⟨a[i],List.getElem_mem ZO,b[i],List.getElem_mem ZO,by rw [List.getElem_zipWith]⟩
theorem mem_zip {α β γ:Type}{m:α→β→γ}{a:List α}{b:List β}(hl:a.length=b.length) {i:Nat}{u:α}{v:β}(hu:a[i]?=some u) (hv:b[i]?=some v):m u v ∈ List.zipWith m a b:=List.mem_of_getElem? (i:=i) (by rw [List.getElem?_zipWith,hu,hv])
structure SmT (ft:List FunT) (dt:List DatT):Prop where
  f:∀ t ∈ ft,t.2.2.2.1.fCode.length≤1000
  d:∀ t ∈ dt,t.2.2.2.1.fWords.length≤1000
theorem SmT.of {l:List ApiObject}{z:PZ}(hf:FewO l) (hz:z.ok) (h1:funsOf z.ft z.fr=funsTo l l.length) (h2:datsOf z.dt z.dr=datsTo l l.length):SmT z.ft z.dt:=by
 constructor
 · intro t ht
   obtain ⟨i,hi,rfl⟩:=List.mem_iff_getElem.1 ht
   have hz1:=hz.f
   have hm:mkF z.ft[i] z.fr[i] ∈ funsOf z.ft z.fr:=mem_zip hz1 (List.getElem?_eq_getElem hi) (List.getElem?_eq_getElem ZO)
   rw [h1] at hm
   obtain ⟨j,k,o,f,ho,hk,e⟩:=funs_mem hm
   have e1:z.ft[i].2.2.2.1=f:=congrArg ApiFun.fF e
   rw [e1]
   have:=(hf.fun_ o (List.mem_of_getElem? ho) f (List.mem_of_getElem? hk)).2.2.1
   omega
 · intro t ht
   obtain ⟨i,hi,rfl⟩:=List.mem_iff_getElem.1 ht
   have hz1:=hz.d
   have hm:mkD z.dt[i] z.dr[i] ∈ datsOf z.dt z.dr:=mem_zip hz1 (List.getElem?_eq_getElem hi) (List.getElem?_eq_getElem ZO)
   rw [h2] at hm
   obtain ⟨j,k,o,d,ho,hk,e⟩:=dats_mem hm
   have e1:z.dt[i].2.2.2.1=d:=congrArg ApiDat.fD e
   rw [e1]
   have:=(hf.data o (List.mem_of_getElem? ho) d (List.mem_of_getElem? hk)).1
   omega
theorem SmT.set {ft:List FunT}{dt:List DatT}(h:SmT ft dt) {t:FunT}{i:Nat}(ht:ft[i]?=some t) (u:Hdr):SmT (ft.set i (t.1,t.2.1,t.2.2.1,t.2.2.2.1,u)) dt:=⟨fun x hx=>by
 rcases List.mem_or_eq_of_mem_set hx with h1 | rfl
 · exact h.f x h1
 · exact h.f t (List.mem_of_getElem? ht),h.d⟩
theorem SmT.p {z:PZ}(h:SmT z.ft z.dt) (e:Int):(∀ f ∈ (z.prog e).fFuns,f.fF.fCode.length≤1000)∧∀ d ∈ (z.prog e).fDats,d.fD.fWords.length≤1000:=by
 constructor
 · intro f hf
   obtain ⟨u,hu,v,_,rfl⟩:=zip_mem hf
   exact h.f u hu
 · intro f hf
   obtain ⟨u,hu,v,_,rfl⟩:=zip_mem hf
   exact h.d u hu
theorem first_ref {l:List ApiObject}(hok:OkL l) {ft:List FunT}{fr:List (List Int)}(hz:ft.length=fr.length) (h1:funsOf ft fr=funsTo l l.length) {t:FunT}{r:List Int}(ht:ft[0]?=some t) (hr:fr[0]?=some r):0<r.length∧r.length≤100:=by
 have hm:mkF t r ∈ funsOf ft fr:=mem_zip hz ht hr
 rw [h1] at hm
 obtain ⟨j,k,o,f,ho,hk,e⟩:=funs_mem hm
 have e1:r=boundL l j (symsF f):=congrArg ApiFun.fRefs e
 have hkl:=(List.getElem?_eq_some_iff.1 hk).1
 have hc:=code_pos (item_fun ((obj_zero (hok.objs o (List.mem_of_getElem? ho))).2.2 k ZO) hk).2.2.1
 rw [e1,boundL_len,symsF_len]
 exact ⟨hc,(hok.few.fun_ o (List.mem_of_getElem? ho) f (List.mem_of_getElem? hk)).2.2.1⟩
theorem kFunT_hd {W:World}{t:FunT}{cs:List Value}(h:kFunT.K W t cs):∃ c4,c4.length=9∧kApiFunc.K W t.2.2.2.1 c4∧cs=.int .i64 t.1 :: .int .i64 t.2.1 :: .string t.2.2.1 :: (c4++[hV (hdT t)]):=by
 obtain ⟨c1,d1,rfl,a1,c2,d2,rfl,a2,c3,d3,rfl,a3,c4,d4,rfl,a4,a5⟩:=h
 refine ⟨c4,kApiFunc.K_len a4,a4,?_⟩
 rw [show c1=[Value.int .i64 t.1] from a1,show c2=[Value.int .i64 t.2.1] from a2,show c3=[Value.string t.2.2.1] from a3,show d4=[hV (hdT t)] from a5]
 rfl
theorem kFunT_hdr {W:World}{t:FunT}{cs:List Value}(h:kFunT.K W t cs):cs[12]?=some (hV (hdT t)):=by
 obtain ⟨c4,hl,-,rfl⟩:=kFunT_hd h
 simp only [List.getElem?_cons_succ]
 rw [List.getElem?_append_right (by rw [hl];exact Nat.le_refl _),hl];rfl
theorem kFunT_cut {W:World}{t:FunT}(u:Hdr) (cs:List Value) (h:kFunT.K W t cs):kFunT.K W (t.1,t.2.1,t.2.2.1,t.2.2.2.1,u) (patchL cs 12 [hV u]):=by
 obtain ⟨c4,hl,hk,rfl⟩:=kFunT_hd h
 have e:patchL (.int .i64 t.1 :: .int .i64 t.2.1 :: .string t.2.2.1 :: (c4++[hV (hdT t)])) 12 [hV u]=.int .i64 t.1 :: .int .i64 t.2.1 :: .string t.2.2.1 :: (c4++[hV u]):=by
  show _ :: _ :: _ :: (c4++[hV (hdT t)]).set 9 (hV u)=_
  rw [List.set_append_right _ _ ZO,hl];rfl
 rw [e]
 exact kFunT_mk hk
theorem kDatT_hdr {W:World}{t:DatT}{cs:List Value}(h:kDatT.K W t cs):cs[6]?=some (hV (hdT t)):=by
 obtain ⟨c1,d1,rfl,a1,c2,d2,rfl,a2,c3,d3,rfl,a3,c4,d4,rfl,a4,a5⟩:=h
 have h4:=kApiData.K_len a4
 rw [show c1=[Value.int .i64 t.1] from a1,show c2=[Value.int .i64 t.2.1] from a2,show c3=[Value.string t.2.2.1] from a3,show d4=[hV (hdT t)] from a5]
 simp only [List.cons_append,List.nil_append,List.getElem?_cons_succ]
 rw [List.getElem?_append_right (by rw [h4];exact Nat.le_refl _),h4];rfl
theorem set_same {α:Type}{l:List α}{i:Nat}{u:α}(h:l[i]?=some u):l.set i u=l:=by
 obtain ⟨hi,rfl⟩:=List.getElem?_eq_some_iff.1 h
 simp
theorem row_take {α:Type}{kd:Kd α}{B:Base}{W:World}{e:TypeId}{A:Option Addr}{n cp m:Nat}{xs:List α}{Φ Φ':List Res}(hm:m≤n) (hp:Pick Φ (row kd W e (.slice A n cp) xs) Φ'):Leads B Φ (row kd W e (.slice A m cp) (xs.take m) :: Φ'):=
 Pick.leads hp (fun Φ w hS=>hS.upd .here (Chg.refl _ _) (by
  obtain ⟨cs,⟨hl,ho⟩,hr⟩:(row kd W e (.slice A n cp) xs).q w:=hS.get .here
  rcases ho with ⟨e1,e2⟩ | ⟨g,cap,cur,e1,g1,hb,g2,g3,g4,g5⟩
  · have hx0:xs=[]:=List.eq_nil_of_length_eq_zero e2
    injection e1 with e1 e3 e4
    subst e1 e3 e4 hx0
    obtain rfl:m=0:=by omega
    exact ⟨[],World.ownsRow_nil _ _ _ _,rfl⟩
  · injection e1 with e1 e3 e4
    subst e1 e3 e4
    refine ⟨cs.take (m * kd.sz),⟨?_,.inr ⟨g,cp,cur,?_,g1,hb,?_,g3,g4,?_⟩⟩,hr.take m⟩
    · rw [List.length_take,List.length_take,hl,Nat.min_eq_left hm,Nat.min_eq_left (Nat.mul_le_mul_right _ hm)]
    · rw [List.length_take,Nat.min_eq_left hm]
    · rw [List.length_take,Nat.min_eq_left hm];omega
    · rw [List.length_take,Nat.min_eq_left hm,← g5,List.take_take,Nat.min_eq_left (Nat.mul_le_mul_right _ hm)]) (fun k hk=>.inl (by cases A <;> exact hk)))
theorem bindChecks {B:Base}{w:World}(hS:St B [] w) (A:Option Addr) (cp:Nat) (l:List ApiObject) (hC:kApiObject.C B.e A l) (hv:∀ o ∈ l,vApiObject o) (s:ByteArray) (at_:Int×Int×Int) (ac:List Value) (ha:(Kd.pair (Kd.int .i64) (Kd.pair (Kd.int .i64) (Kd.int .i64))).K B.e at_ ac) (n:Int) :
    CW 6 #[.slice A l.length cp,.string s,.agg ac.toArray,.int .i64 n] w (Ret B (fun _:Unit=>True) (fun _=>.bool true) (fun _=>[])):=by
  obtain ⟨x,y,q⟩:=at_
  obtain ⟨_,_,rfl,rfl,_,_,rfl,rfl,rfl⟩:=ha
  refine ZX Tryz.func6 hS ?_
  refine Zh (Zi (oBox J ZP (fun b6=>?_)))
  refine Zp J (Zn (Za (Zh (Zh (Zi (Zo J ?_))))))
  (refine ZC0 rfl ZK (fun w hS=>frame hS ZQ (fun B' hB hS'=>ref24_Few hS' A cp l (Kd.C_grow hB hC))) ?_;rintro r12 h12)
  refine Zno ?_
  refine Zo J (ZS (ZT 14) (fun h14=>?_) (fun h14=>?_))
  refine Zr J J J J (Zr J J J J (Zr J J J J (Zt J J (Zn (Za (wCondT J (Zh (Zi ?_))))))))
  (refine ZC0 rfl ZK (fun w hS=>frame hS ZQ (fun B' hB hS'=>known24 hS')) ?_;rintro ⟨⟩ -)
  refine Zp J (Zzu ?_)
  exact ⟨(),trivial,rfl,Lh⟩
  refine Zq J J (Zo J (Zq J J (oLenStr J J (Zq J J (Z1 J J (Zu J J (Zn (Za (wC (fun h18=>?_) (fun h18=>?_))))))))))
  refine Zh (Zi ?_)
  (refine ZC0 rfl ZK (fun w hS=>frame hS ZQ (fun B' hB hS'=>known24 hS')) ?_;rintro ⟨⟩ -)
  refine Zp J (Zzu ?_)
  exact ⟨(),trivial,rfl,Lh⟩
  have hsm:FewO l:=h12 (by simp_all)
  refine Zj (Za (Zh (Zzx ?_)))
  (refine ZC0 rfl ZK (fun w hS=>frame hS ZQ (fun B' hB hS'=>ref24_Bind hS' A cp l B.e hB hC hv hsm s)) ?_;rintro z ⟨hz,hzp⟩)
  refine Zo J (oExt J ZP ?_)
  refine oExt J ZP ?_
  refine oAlloc J ZP (fun b9=>?_)
  refine oAlloc J ZP (fun b10=>?_)
  refine Zsa ?_
  refine Zsa ?_
  refine Zn (Za (Zh (Zh (Zi (Zz (n:=0) (m:=0) J J J (Zld ?_))))))
  refine Z0 J J (Zn (Za (wC (fun h28=>?_) (fun h28=>?_))))
  refine Zh (Zi ?_)
  (refine ZC0 rfl ZK (fun w hS=>frame hS ZQ (fun B' hB hS'=>known24 hS')) ?_;rintro ⟨⟩ -)
  refine Zp J (Zzu ?_)
  exact ⟨(),trivial,rfl,Lh⟩
  have hw0:(bindR l s).1=0:=Classical.not_not.1 h28
  have hP:bindP l s=⟨funsTo l l.length,datsTo l l.length,numberF l (fnd l s).1 (fnd l s).2.1⟩:=by unfold bindP;rw [if_pos hw0]
  have hok : OkL l := wrong_ok hsm (by have := bind_wr l s; split at this; · rw [this] at hw0; exact hw0
                                       · next h => exact Classical.not_not.1 h)
  have hzf2:funsOf z.ft z.fr=funsTo l l.length:=by have:=congrArg ApiProgram.fFuns hzp;rw [hP] at this;exact this
  have hzd2:datsOf z.dt z.dr=datsTo l l.length:=by have:=congrArg ApiProgram.fDats hzp;rw [hP] at this;exact this
  have hst:=SmT.of hsm hz hzf2 hzd2
  generalize (bindP l s).fEntry=e
  obtain ⟨Af,cf,ft,fr,Ad,cd,dt,dr⟩:=z
  have hzf:=hz.f
  have hzd:=hz.d
  dsimp only [PZ.cells] at hzf hzd hzf2 hzd2 hst ⊢
  refine Zj (Za (Zh (wCut (ι:=Bool×Option Addr×Option Addr) (fun v=>[(0,.slice A l.length cp),(3,.int .i64 n),(6,.pointer (some ⟨b6,0,none⟩)),(9,.pointer (some ⟨b9,0,none⟩)),(10,.pointer (some ⟨b10,0,none⟩)),(58,.bool v.1)]) (fun v=>[blk b6 52 [.int .i64 x,.int .i64 y,.int .i64 q],blk b9 43 [.slice v.2.1 ft.length cf,.slice v.2.2 dt.length cd,.int .i64 e],blk b10 45 (rejL (bindR l s)),row kFunT B.e 59 (.slice v.2.1 ft.length cf) ft,bun (rws (Kd.int .i64) B.e 3 (ft.map hdT) fr),row kDatT B.e 64 (.slice v.2.2 dt.length cd) dt,bun (rws (Kd.int .i64) B.e 3 (dt.map hdT) dr)]) (fun v=>v.1=true→∃ i k:Nat,x=(i:Int)∧y=(k:Int)∧∃ t,ft[i]?=some t∧k<(hdT t).2.1) ?_ ?_)))
  refine wDrawG J [0,1,2,3,4,5,6,7,8,9,10,11,12,13,14,15,16,17,18,19,20,21,22,23,24,25,26,27,28] [] [] 24 ZK J J (fun w0=>?_)
  refine oIdxA (i:=0) (m:=0) J J J J (by decide) J ?_
  refine Zld ?_
  refine Z2 J J (Zo J (ZS (ZT 33) (fun h33=>?_) (fun h33=>?_)))
  obtain ⟨i,rfl⟩:=Int.eq_ofNat_of_zero_le (show 0≤x from h33)
  refine Zq J J (oIdxA (i:=0) (m:=0) J J J J (by decide) J ?_)
  refine Zq J J (Zld ?_)
  refine Zq J J (Zz (n:=0) (m:=0) J J J (Zzf ?_))
  refine Zq J J (Zv J J (Zq J J (Zx J J (Zt J J (Zo J (ZS (ZT 41) (fun h41=>?_) (fun h41=>?_)))))))
  refine Zq J J (oIdxA (i:=1) (m:=1) J J J J (by decide) J ?_)
  refine Zq J J (Zld ?_)
  refine Zq J J (Z2 J J (Zt J J (Zo J (ZS (ZT 46) (fun h46=>?_) (fun h46=>?_)))))
  obtain ⟨k,rfl⟩:=Int.eq_ofNat_of_zero_le (show 0≤y by first | exact h46 | simpa using h46)
  have hif:i<ft.length:=by first | omega | (have:=of_decide_eq_true h41;omega)
  refine Zq J J (oIdxA (i:=1) (m:=1) J J J J (by decide) J ?_)
  refine Zq J J (Zld ?_)
  refine Zq J J (Zz (n:=0) (m:=0) J J J (Zzf ?_))
  refine Zq J J (oIdxA (i:=0) (m:=0) J J J J (by decide) J ?_)
  refine Zq J J (Zld ?_)
  refine Zq J J (ZR J J ZP ZO J J (fun g53 hg53=>?_))
  first | subst hg53 | (injection hg53 with hg53;injection hg53 with hg53;subst hg53)
  refine Zq J J (ZF (ZT 12) (ZT 12) ?_)
  refine Zq J J (oLdR (kd:=kFunT) J ZP ZO J J (fun u55 cs55 hu55 hk55=>⟨_,kFunT_hdr hk55,?_⟩))
  refine Zq J J (Zv J J (Zq J J (Zx J J (Zt J J (Z6 (Zn (Za ?_)))))))
  refine ⟨rfl,(_,_,_),?_,cv,Lh⟩;intro hq;first | focus (cases hq;done) | (exact ⟨i,k,rfl,rfl,u55,hu55,by have:=of_decide_eq_true hq;omega⟩)
  refine Zr J J J J (Zzl ?_)
  refine ⟨rfl,(_,_,_),?_,cv,Lh⟩;intro hq;first | focus (cases hq;done) | (exact ⟨i,k,rfl,rfl,u55,hu55,by have:=of_decide_eq_true hq;omega⟩)
  refine Zr J J J J (Zr J J J J (Zr J J J J (Zu J J (Zo J (Zr J J J J (Zzl ?_))))))
  refine ⟨rfl,(_,_,_),?_,cv,Lh⟩;intro hq;first | focus (cases hq;done) | (exact ⟨i,k,rfl,rfl,u55,hu55,by have:=of_decide_eq_true hq;omega⟩)
  refine Zr J J J J (Zr J J J J (Zr J J J J (Zr J J J J (Zr J J J J (Zr J J J J (Zu J J (Zo J (Zr J J J J (Zr J J J J (Zr J J J J (Zu J J (Zo J (Zr J J J J (Zzl ?_))))))))))))))
  refine ⟨rfl,(_,_,_),?_,cv,Lh⟩;intro hq;first | focus (cases hq;done) | (exact ⟨i,k,rfl,rfl,u55,hu55,by have:=of_decide_eq_true hq;omega⟩)
  rintro ⟨v,Bf,Bd⟩ hq
  try dsimp only
  refine wC (fun h58=>?_) (fun h58=>?_)
  obtain ⟨i,k,rfl,rfl,t,ht,hkt⟩:=hq h58
  have hil:=(List.getElem?_eq_some_iff.1 ht).1
  refine wDrawG J [0,1,2,3,4,5,6,7,8,9] [] [10,11] 24 ZK J J (fun w0=>?_)
  refine Zz (n:=0) (m:=0) J J J (Zld ?_)
  refine oIdxA (i:=0) (m:=0) J J J J (by decide) J ?_
  refine Zld ?_
  refine ZR J J ZP ZO J J (fun g63 hg63=>?_)
  first | subst hg63 | (injection hg63 with hg63;injection hg63 with hg63;subst hg63)
  refine ZF (ZT 12) (ZT 12) ?_
  refine oLdR (kd:=kFunT) J ZP ZO J J (fun u65 cs65 hu65 hk65=>⟨_,kFunT_hdr hk65,?_⟩)
  obtain rfl:u65=t:=Option.some.inj (hu65.symm.trans ht)
  obtain ⟨v0,v1,v2,v3,B3,n3,c3⟩:=u65
  obtain ⟨r,hr⟩:∃ r,fr[i]?=some r:=⟨_,List.getElem?_eq_getElem ZO⟩
  refine oFocus (kd:=Kd.int .i64) (W:=B.e) (ei:=3) (hs:=ft.map hdT) (xss:=fr) (i:=i) (u:=(B3,n3,c3)) (xs:=r) ZP (by rw [List.getElem?_map,hu65];rfl) hr ?_
  refine oRoom (kd:=Kd.int .i64) (W0:=B.e) (e:=3) (A:=B3) (n:=n3) (cp:=c3) (xs:=r) ZP (fun hrn hrc=>?_)
  refine oIdxA (i:=1) (m:=1) J J J J (by decide) J ?_
  refine Zld ?_
  refine Zo J (Z6 (ZR J J ZP (show k<n3 from hkt) J J (fun g69 hg69=>?_)))
  first | subst hg69 | (injection hg69 with hg69;injection hg69 with hg69;subst hg69)
  refine oStR (enc:=Value.int .i64) n J J J J ZP (by show k<_;rw [← hrn];exact hkt) ?_
  refine oBack (kd:=Kd.int .i64) (W:=B.e) (ei:=3) (hs:=ft.map hdT) (xss:=fr) (i:=i) (u:=(some ⟨g69,0,none⟩,n3,c3)) (xs:=r.set k n) ZP ZP (by rw [List.length_map];exact hil) (by rw [List.length_map];exact hzf) ?_
  rw [set_same (l:=ft.map hdT) (u:=(some ⟨g69,0,none⟩,n3,c3)) (by rw [List.getElem?_map,hu65];rfl)]
  refine Zn (Za (Zh (wDrawG J [0,2] [(1,[2],[]),(3,[],[4,5]),(6,[],[7])] [8] 24 ZK J J (fun w0=>?_))))
  refine Zla ?_
  refine Zla ?_
  refine Z4 (Z5 J ?_)
  (refine ZD J (fun w B' hB hR hS'=>bind_Check hS' ((⟨some ⟨g63,0,none⟩,cf,ft,fr.set i (r.set k n),Bd,cd,dt,dr⟩:PZ).prog e) _ (prog_K (z:=⟨some ⟨g63,0,none⟩,cf,ft,fr.set i (r.set k n),Bd,cd,dt,dr⟩) ⟨by show _=(fr.set _ _).length;rw [List.length_set];exact hzf,hzd⟩ (hR _ _ ZP) (hR _ _ ZP) (hR _ _ ZP) (hR _ _ ZP) hB e)) ?_;rintro ⟨⟩ -)
  refine ZG ?_ J (fun w0=>?_)
  refine Z8 J J J J (fun w0=>?_) ?_
  refine Zla ?_
  exact Z9 rfl
  exact AgainG.nil
  refine Z4 (Z5 J ?_)
  (refine ZD J (fun w B' hB hR hS'=>ref24_Check hS' ((⟨some ⟨g63,0,none⟩,cf,ft,fr.set i (r.set k n),Bd,cd,dt,dr⟩:PZ).prog e) _ (prog_K (z:=⟨some ⟨g63,0,none⟩,cf,ft,fr.set i (r.set k n),Bd,cd,dt,dr⟩) ⟨by show _=(fr.set _ _).length;rw [List.length_set];exact hzf,hzd⟩ (hR _ _ ZP) (hR _ _ ZP) (hR _ _ ZP) (hR _ _ ZP) hB e) (SmT.p (z:=⟨some ⟨g63,0,none⟩,cf,ft,fr.set i (r.set k n),Bd,cd,dt,dr⟩) hst e).1 (SmT.p (z:=⟨some ⟨g63,0,none⟩,cf,ft,fr.set i (r.set k n),Bd,cd,dt,dr⟩) hst e).2) ?_;rintro ⟨⟩ -)
  refine ZG ?_ J (fun w0=>?_)
  exact AgainG.nil
  refine Zy J J (ZS0 (t:=142) (v':=.bool true) J (by simp) ?_)
  refine Zo J (Z4 (Z5 J (Zq J J ?_)))
  (refine ZC0 rfl ZK (fun w hS=>frame hS ZQ (fun B' hB hS'=>known24 hS')) ?_;rintro ⟨⟩ -)
  refine ZG ?_ J (fun w0=>?_)
  exact AgainG.nil
  refine Zt J J (Z6 (Zza ?_))
  exact ⟨(),trivial,rfl,Lh⟩
  refine wCut (ι:=Bool×Option Addr×Option Addr) (fun v=>[(0,.slice A l.length cp),(3,.int .i64 n),(6,.pointer (some ⟨b6,0,none⟩)),(9,.pointer (some ⟨b9,0,none⟩)),(10,.pointer (some ⟨b10,0,none⟩)),(98,.bool v.1)]) (fun v=>[blk b6 52 [.int .i64 x,.int .i64 y,.int .i64 q],blk b9 43 [.slice v.2.1 ft.length cf,.slice v.2.2 dt.length cd,.int .i64 e],blk b10 45 (rejL (bindR l s)),row kFunT B.e 59 (.slice v.2.1 ft.length cf) ft,bun (rws (Kd.int .i64) B.e 3 (ft.map hdT) fr),row kDatT B.e 64 (.slice v.2.2 dt.length cd) dt,bun (rws (Kd.int .i64) B.e 3 (dt.map hdT) dr)]) (fun v=>v.1=true→∃ i k:Nat,x=(i:Int)∧y=(k:Int)∧∃ t,dt[i]?=some t∧k<(hdT t).2.1) ?_ ?_
  refine wDrawG J [0,1,2,3,4,5,6,7,8,9,10,11,12,13,14,15,16,17,18,19,20,21,22,23,24,25,26,27,28] [] [] 24 ZK J J (fun w0=>?_)
  refine oIdxA (i:=0) (m:=0) J J J J (by decide) J ?_
  refine Zld ?_
  refine Z2 J J (Zo J (ZS (ZT 73) (fun h73=>?_) (fun h73=>?_)))
  obtain ⟨i,rfl⟩:=Int.eq_ofNat_of_zero_le (show 0≤x from h73)
  refine Zq J J (oIdxA (i:=0) (m:=0) J J J J (by decide) J ?_)
  refine Zq J J (Zld ?_)
  refine Zq J J (Zz (n:=1) (m:=1) J J J (Zzf ?_))
  refine Zq J J (Zv J J (Zq J J (Zx J J (Zt J J (Zo J (ZS (ZT 81) (fun h81=>?_) (fun h81=>?_)))))))
  refine Zq J J (oIdxA (i:=1) (m:=1) J J J J (by decide) J ?_)
  refine Zq J J (Zld ?_)
  refine Zq J J (Z2 J J (Zt J J (Zo J (ZS (ZT 86) (fun h86=>?_) (fun h86=>?_)))))
  obtain ⟨k,rfl⟩:=Int.eq_ofNat_of_zero_le (show 0≤y by first | exact h86 | simpa using h86)
  have hif:i<dt.length:=by first | omega | (have:=of_decide_eq_true h81;omega)
  refine Zq J J (oIdxA (i:=1) (m:=1) J J J J (by decide) J ?_)
  refine Zq J J (Zld ?_)
  refine Zq J J (Zz (n:=1) (m:=1) J J J (Zzf ?_))
  refine Zq J J (oIdxA (i:=0) (m:=0) J J J J (by decide) J ?_)
  refine Zq J J (Zld ?_)
  refine Zq J J (ZR J J ZP ZO J J (fun g93 hg93=>?_))
  first | subst hg93 | (injection hg93 with hg93;injection hg93 with hg93;subst hg93)
  refine Zq J J (ZF (ZT 6) (ZT 6) ?_)
  refine Zq J J (oLdR (kd:=kDatT) J ZP ZO J J (fun u95 cs95 hu95 hk95=>⟨_,kDatT_hdr hk95,?_⟩))
  refine Zq J J (Zv J J (Zq J J (Zx J J (Zt J J (Z6 (Zn (Za ?_)))))))
  refine ⟨rfl,(_,_,_),?_,cv,Lh⟩;intro hq;first | focus (cases hq;done) | (exact ⟨i,k,rfl,rfl,u95,hu95,by have:=of_decide_eq_true hq;omega⟩)
  refine Zr J J J J (Zzl ?_)
  refine ⟨rfl,(_,_,_),?_,cv,Lh⟩;intro hq;first | focus (cases hq;done) | (exact ⟨i,k,rfl,rfl,u95,hu95,by have:=of_decide_eq_true hq;omega⟩)
  refine Zr J J J J (Zr J J J J (Zr J J J J (Zu J J (Zo J (Zr J J J J (Zzl ?_))))))
  refine ⟨rfl,(_,_,_),?_,cv,Lh⟩;intro hq;first | focus (cases hq;done) | (exact ⟨i,k,rfl,rfl,u95,hu95,by have:=of_decide_eq_true hq;omega⟩)
  refine Zr J J J J (Zr J J J J (Zr J J J J (Zr J J J J (Zr J J J J (Zr J J J J (Zu J J (Zo J (Zr J J J J (Zr J J J J (Zr J J J J (Zu J J (Zo J (Zr J J J J (Zzl ?_))))))))))))))
  refine ⟨rfl,(_,_,_),?_,cv,Lh⟩;intro hq;first | focus (cases hq;done) | (exact ⟨i,k,rfl,rfl,u95,hu95,by have:=of_decide_eq_true hq;omega⟩)
  rintro ⟨v2,Cf,Cd⟩ hq2
  try dsimp only
  refine wC (fun h98=>?_) (fun h98=>?_)
  obtain ⟨i,k,rfl,rfl,t,ht,hkt⟩:=hq2 h98
  have hil:=(List.getElem?_eq_some_iff.1 ht).1
  refine wDrawG J [0,1,2,3,4,5,6,7,8,9] [] [10,11] 24 ZK J J (fun w0=>?_)
  refine Zz (n:=1) (m:=1) J J J (Zld ?_)
  refine oIdxA (i:=0) (m:=0) J J J J (by decide) J ?_
  refine Zld ?_
  refine ZR J J ZP ZO J J (fun g103 hg103=>?_)
  first | subst hg103 | (injection hg103 with hg103;injection hg103 with hg103;subst hg103)
  refine ZF (ZT 6) (ZT 6) ?_
  refine oLdR (kd:=kDatT) J ZP ZO J J (fun u105 cs105 hu105 hk105=>⟨_,kDatT_hdr hk105,?_⟩)
  obtain rfl:u105=t:=Option.some.inj (hu105.symm.trans ht)
  obtain ⟨v0,v1,v2,v3,B3,n3,c3⟩:=u105
  obtain ⟨r,hr⟩:∃ r,dr[i]?=some r:=⟨_,List.getElem?_eq_getElem ZO⟩
  refine oFocus (kd:=Kd.int .i64) (W:=B.e) (ei:=3) (hs:=dt.map hdT) (xss:=dr) (i:=i) (u:=(B3,n3,c3)) (xs:=r) ZP (by rw [List.getElem?_map,hu105];rfl) hr ?_
  refine oRoom (kd:=Kd.int .i64) (W0:=B.e) (e:=3) (A:=B3) (n:=n3) (cp:=c3) (xs:=r) ZP (fun hrn hrc=>?_)
  refine oIdxA (i:=1) (m:=1) J J J J (by decide) J ?_
  refine Zld ?_
  refine Zo J (Z6 (ZR J J ZP (show k<n3 from hkt) J J (fun g109 hg109=>?_)))
  first | subst hg109 | (injection hg109 with hg109;injection hg109 with hg109;subst hg109)
  refine oStR (enc:=Value.int .i64) n J J J J ZP (by show k<_;rw [← hrn];exact hkt) ?_
  refine oBack (kd:=Kd.int .i64) (W:=B.e) (ei:=3) (hs:=dt.map hdT) (xss:=dr) (i:=i) (u:=(some ⟨g109,0,none⟩,n3,c3)) (xs:=r.set k n) ZP ZP (by rw [List.length_map];exact hil) (by rw [List.length_map];exact hzd) ?_
  rw [set_same (l:=dt.map hdT) (u:=(some ⟨g109,0,none⟩,n3,c3)) (by rw [List.getElem?_map,hu105];rfl)]
  refine Zn (Za (Zh (wDrawG J [0,2] [(1,[2],[]),(3,[],[4,5]),(6,[],[7])] [8] 24 ZK J J (fun w0=>?_))))
  refine Zla ?_
  refine Zla ?_
  refine Z4 (Z5 J ?_)
  (refine ZD J (fun w B' hB hR hS'=>bind_Check hS' ((⟨Cf,cf,ft,fr,some ⟨g103,0,none⟩,cd,dt,dr.set i (r.set k n)⟩:PZ).prog e) _ (prog_K (z:=⟨Cf,cf,ft,fr,some ⟨g103,0,none⟩,cd,dt,dr.set i (r.set k n)⟩) ⟨hzf,by show _=(dr.set _ _).length;rw [List.length_set];exact hzd⟩ (hR _ _ ZP) (hR _ _ ZP) (hR _ _ ZP) (hR _ _ ZP) hB e)) ?_;rintro ⟨⟩ -)
  refine ZG ?_ J (fun w0=>?_)
  refine Z8 J J J J (fun w0=>?_) ?_
  refine Zla ?_
  exact Z9 rfl
  exact AgainG.nil
  refine Z4 (Z5 J ?_)
  (refine ZD J (fun w B' hB hR hS'=>ref24_Check hS' ((⟨Cf,cf,ft,fr,some ⟨g103,0,none⟩,cd,dt,dr.set i (r.set k n)⟩:PZ).prog e) _ (prog_K (z:=⟨Cf,cf,ft,fr,some ⟨g103,0,none⟩,cd,dt,dr.set i (r.set k n)⟩) ⟨hzf,by show _=(dr.set _ _).length;rw [List.length_set];exact hzd⟩ (hR _ _ ZP) (hR _ _ ZP) (hR _ _ ZP) (hR _ _ ZP) hB e) (SmT.p (z:=⟨Cf,cf,ft,fr,some ⟨g103,0,none⟩,cd,dt,dr.set i (r.set k n)⟩) hst e).1 (SmT.p (z:=⟨Cf,cf,ft,fr,some ⟨g103,0,none⟩,cd,dt,dr.set i (r.set k n)⟩) hst e).2) ?_;rintro ⟨⟩ -)
  refine ZG ?_ J (fun w0=>?_)
  exact AgainG.nil
  refine Zy J J (ZS0 (t:=142) (v':=.bool true) J (by simp) ?_)
  refine Zo J (Z4 (Z5 J (Zq J J ?_)))
  (refine ZC0 rfl ZK (fun w hS=>frame hS ZQ (fun B' hB hS'=>known24 hS')) ?_;rintro ⟨⟩ -)
  refine ZG ?_ J (fun w0=>?_)
  exact AgainG.nil
  refine Zt J J (Z6 (Zza ?_))
  exact ⟨(),trivial,rfl,Lh⟩
  refine Zh (Zi (oIdxA (i:=2) (m:=2) J J J J (by decide) J ?_))
  refine Zld ?_
  refine Z1 J J (Zo J (ZS (ZT 113) (fun h113=>?_) (fun h113=>?_)))
  refine Zq J J (Zz (n:=0) (m:=0) J J J (Zzf ?_))
  refine Zq J J (Zv J J (Zq J J (Z1 J J (Zt J J (Zn (Za (wC (fun h118=>?_) (fun h118=>?_))))))))
  refine wDrawG J [0,1,2,3,4,5,6,7,8,9,10,11,12,13,14] [] [15,16,17] 24 ZK J J (fun w0=>?_)
  refine Zz (n:=0) (m:=0) J J J (Zld ?_)
  refine Zz (n:=0) (m:=0) J J J (Zld ?_)
  refine ZR J J ZP (show 0<ft.length by omega) J J (fun g123 hg123=>?_)
  first | subst hg123 | (injection hg123 with hg123;injection hg123 with hg123;subst hg123)
  refine ZF (ZT 12) (ZT 12) ?_
  refine oLdR (kd:=kFunT) (i:=0) J ZP (show 0<ft.length by omega) J J (fun u125 cs125 hu125 hk125=>⟨_,kFunT_hdr hk125,?_⟩)
  obtain ⟨v0,v1,v2,v3,B3,n3,c3⟩:=u125
  obtain ⟨r,hr⟩:∃ r,fr[0]?=some r:=⟨_,List.getElem?_eq_getElem ZO⟩
  refine oFocus (kd:=Kd.int .i64) (W:=B.e) (ei:=3) (hs:=ft.map hdT) (xss:=fr) (i:=0) (u:=(B3,n3,c3)) (xs:=r) ZP (by rw [List.getElem?_map,hu125];rfl) hr ?_
  refine oRoom (kd:=Kd.int .i64) (W0:=B.e) (e:=3) (A:=B3) (n:=n3) (cp:=c3) (xs:=r) ZP (fun hrn hrc=>?_)
  have hr0:=first_ref hok hzf hzf2 hu125 hr
  have hfl:0<ft.length:=by omega
  refine Zz (n:=0) (m:=0) J J J (Zld ?_)
  refine ZR J J ZP (show 0<ft.length by omega) J J (fun g128 hg128=>?_)
  first | subst hg128 | (injection hg128 with hg128;injection hg128 with hg128;subst hg128)
  refine ZF (ZT 12) (ZT 12) ?_
  refine oLdR (kd:=kFunT) (i:=0) J ZP hfl J J (fun u130 cs130 hu130 hk130=>⟨_,kFunT_hdr hk130,?_⟩)
  obtain rfl:u130=(v0,v1,v2,v3,B3,n3,c3):=Option.some.inj (hu130.symm.trans hu125)
  refine Zv J J (ZS0 (t:=131) (v':=.int .i64 (n3:Int)) J J (oSub J J ZO ?_))
  refine ZS0 (t:=132) (v':=.int .i64 ((n3-1:Nat):Int)) J (by congr 1;omega) ?_
  refine oSliceU (A:=B3) (n:=n3) (cp:=c3) (m:=n3-1) J J ZO J ?_
  refine Z6 (ZR J J ZP (show 0<ft.length by omega) J J (fun g134 hg134=>?_))
  first | subst hg134 | (injection hg134 with hg134;injection hg134 with hg134;subst hg134)
  refine ZF (ZT 12) (ZT 12) ?_
  refine oStP (kd:=kFunT) (s:=13) (v0,v1,v2,v3,B3,n3-1,c3) [hV (B3,n3-1,c3)] (v0,v1,v2,v3,B3,n3,c3) J J J J J J ZP hu125 (Nat.le_of_ble_eq_true J) (kFunT_cut _) ?_
  refine oConv (row_take (kd:=Kd.int .i64) (W:=B.e) (e:=3) (A:=B3) (n:=n3) (cp:=c3) (m:=n3-1) (xs:=r) ZO ZP) ?_
  refine oBack (kd:=Kd.int .i64) (W:=B.e) (ei:=3) (hs:=ft.map hdT) (xss:=fr) (i:=0) (u:=(B3,n3-1,c3)) (xs:=r.take (n3-1)) ZP ZP (by rw [List.length_map];exact hfl) (by rw [List.length_map];exact hzf) ?_
  rw [show (ft.map hdT).set 0 (B3,n3-1,c3)=(ft.set 0 (v0,v1,v2,v3,B3,n3-1,c3)).map hdT by rw [List.map_set],show ft.length=(ft.set 0 (v0,v1,v2,v3,B3,n3-1,c3)).length by rw [List.length_set]]
  refine Zn (Za (Zh (wDrawG J [0,2] [(1,[2],[]),(3,[],[4,5]),(6,[],[7])] [8] 24 ZK J J (fun w0=>?_))))
  refine Zla ?_
  refine Zla ?_
  refine Z4 (Z5 J ?_)
  (refine ZD J (fun w B' hB hR hS'=>bind_Check hS' ((⟨some ⟨g123,0,none⟩,cf,ft.set 0 (v0,v1,v2,v3,B3,n3-1,c3),fr.set 0 (r.take (n3-1)),Cd,cd,dt,dr⟩:PZ).prog e) _ (prog_K (z:=⟨some ⟨g123,0,none⟩,cf,ft.set 0 (v0,v1,v2,v3,B3,n3-1,c3),fr.set 0 (r.take (n3-1)),Cd,cd,dt,dr⟩) ⟨by show (ft.set _ _).length=(fr.set _ _).length;rw [List.length_set,List.length_set];exact hzf,hzd⟩ (hR _ _ ZP) (hR _ _ ZP) (hR _ _ ZP) (hR _ _ ZP) hB e)) ?_;rintro ⟨⟩ -)
  refine ZG ?_ J (fun w0=>?_)
  refine Z8 J J J J (fun w0=>?_) ?_
  refine Zla ?_
  exact Z9 rfl
  exact AgainG.nil
  refine Z4 (Z5 J ?_)
  (refine ZD J (fun w B' hB hR hS'=>ref24_Check hS' ((⟨some ⟨g123,0,none⟩,cf,ft.set 0 (v0,v1,v2,v3,B3,n3-1,c3),fr.set 0 (r.take (n3-1)),Cd,cd,dt,dr⟩:PZ).prog e) _ (prog_K (z:=⟨some ⟨g123,0,none⟩,cf,ft.set 0 (v0,v1,v2,v3,B3,n3-1,c3),fr.set 0 (r.take (n3-1)),Cd,cd,dt,dr⟩) ⟨by show (ft.set _ _).length=(fr.set _ _).length;rw [List.length_set,List.length_set];exact hzf,hzd⟩ (hR _ _ ZP) (hR _ _ ZP) (hR _ _ ZP) (hR _ _ ZP) hB e) (SmT.p (z:=⟨some ⟨g123,0,none⟩,cf,ft.set 0 (v0,v1,v2,v3,B3,n3-1,c3),fr.set 0 (r.take (n3-1)),Cd,cd,dt,dr⟩) (SmT.set hst hu125 (B3,n3-1,c3)) e).1 (SmT.p (z:=⟨some ⟨g123,0,none⟩,cf,ft.set 0 (v0,v1,v2,v3,B3,n3-1,c3),fr.set 0 (r.take (n3-1)),Cd,cd,dt,dr⟩) (SmT.set hst hu125 (B3,n3-1,c3)) e).2) ?_;rintro ⟨⟩ -)
  refine ZG ?_ J (fun w0=>?_)
  exact AgainG.nil
  refine Zy J J (ZS0 (t:=142) (v':=.bool true) J (by simp) ?_)
  refine Zo J (Z4 (Z5 J (Zq J J ?_)))
  (refine ZC0 rfl ZK (fun w hS=>frame hS ZQ (fun B' hB hS'=>known24 hS')) ?_;rintro ⟨⟩ -)
  refine ZG ?_ J (fun w0=>?_)
  exact AgainG.nil
  refine Zt J J (Z6 (Zza ?_))
  exact ⟨(),trivial,rfl,Lh⟩
  refine Zi (Zo J (Zz (n:=2) (m:=2) J J J (Zst ?_)))
  refine Zn (Za (Zh (wDrawG J [0,2] [(1,[2],[]),(3,[],[4,5]),(6,[],[7])] [8] 24 ZK J J (fun w0=>?_))))
  refine Zla ?_
  refine Zla ?_
  refine Z4 (Z5 J ?_)
  (refine ZD J (fun w B' hB hR hS'=>bind_Check hS' ((⟨Cf,cf,ft,fr,Cd,cd,dt,dr⟩:PZ).prog n) _ (prog_K (z:=⟨Cf,cf,ft,fr,Cd,cd,dt,dr⟩) ⟨hzf,hzd⟩ (hR _ _ ZP) (hR _ _ ZP) (hR _ _ ZP) (hR _ _ ZP) hB n)) ?_;rintro ⟨⟩ -)
  refine ZG ?_ J (fun w0=>?_)
  refine Z8 J J J J (fun w0=>?_) ?_
  refine Zla ?_
  exact Z9 rfl
  exact AgainG.nil
  refine Z4 (Z5 J ?_)
  (refine ZD J (fun w B' hB hR hS'=>ref24_Check hS' ((⟨Cf,cf,ft,fr,Cd,cd,dt,dr⟩:PZ).prog n) _ (prog_K (z:=⟨Cf,cf,ft,fr,Cd,cd,dt,dr⟩) ⟨hzf,hzd⟩ (hR _ _ ZP) (hR _ _ ZP) (hR _ _ ZP) (hR _ _ ZP) hB n) (SmT.p (z:=⟨Cf,cf,ft,fr,Cd,cd,dt,dr⟩) hst n).1 (SmT.p (z:=⟨Cf,cf,ft,fr,Cd,cd,dt,dr⟩) hst n).2) ?_;rintro ⟨⟩ -)
  refine ZG ?_ J (fun w0=>?_)
  exact AgainG.nil
  refine Zy J J (ZS0 (t:=142) (v':=.bool true) J (by simp) ?_)
  refine Zo J (Z4 (Z5 J (Zq J J ?_)))
  (refine ZC0 rfl ZK (fun w hS=>frame hS ZQ (fun B' hB hS'=>known24 hS')) ?_;rintro ⟨⟩ -)
  refine ZG ?_ J (fun w0=>?_)
  exact AgainG.nil
  refine Zt J J (Z6 (Zza ?_))
  exact ⟨(),trivial,rfl,Lh⟩
  refine Zr J J J J (Zr J J J J (Zr J J J J (Zr J J J J (Zu J J (Zn (Za (wCondF J (Zi (Zo J (Zz (n:=2) (m:=2) J J J (Zst ?_)))))))))))
  refine Zn (Za (Zh (wDrawG J [0,2] [(1,[2],[]),(3,[],[4,5]),(6,[],[7])] [8] 24 ZK J J (fun w0=>?_))))
  refine Zla ?_
  refine Zla ?_
  refine Z4 (Z5 J ?_)
  (refine ZD J (fun w B' hB hR hS'=>bind_Check hS' ((⟨Cf,cf,ft,fr,Cd,cd,dt,dr⟩:PZ).prog n) _ (prog_K (z:=⟨Cf,cf,ft,fr,Cd,cd,dt,dr⟩) ⟨hzf,hzd⟩ (hR _ _ ZP) (hR _ _ ZP) (hR _ _ ZP) (hR _ _ ZP) hB n)) ?_;rintro ⟨⟩ -)
  refine ZG ?_ J (fun w0=>?_)
  refine Z8 J J J J (fun w0=>?_) ?_
  refine Zla ?_
  exact Z9 rfl
  exact AgainG.nil
  refine Z4 (Z5 J ?_)
  (refine ZD J (fun w B' hB hR hS'=>ref24_Check hS' ((⟨Cf,cf,ft,fr,Cd,cd,dt,dr⟩:PZ).prog n) _ (prog_K (z:=⟨Cf,cf,ft,fr,Cd,cd,dt,dr⟩) ⟨hzf,hzd⟩ (hR _ _ ZP) (hR _ _ ZP) (hR _ _ ZP) (hR _ _ ZP) hB n) (SmT.p (z:=⟨Cf,cf,ft,fr,Cd,cd,dt,dr⟩) hst n).1 (SmT.p (z:=⟨Cf,cf,ft,fr,Cd,cd,dt,dr⟩) hst n).2) ?_;rintro ⟨⟩ -)
  refine ZG ?_ J (fun w0=>?_)
  exact AgainG.nil
  refine Zy J J (ZS0 (t:=142) (v':=.bool true) J (by simp) ?_)
  refine Zo J (Z4 (Z5 J (Zq J J ?_)))
  (refine ZC0 rfl ZK (fun w hS=>frame hS ZQ (fun B' hB hS'=>known24 hS')) ?_;rintro ⟨⟩ -)
  refine ZG ?_ J (fun w0=>?_)
  exact AgainG.nil
  refine Zt J J (Z6 (Zza ?_))
  exact ⟨(),trivial,rfl,Lh⟩
end Go.Proofs.YtafiabekcekdbaaGreatO
