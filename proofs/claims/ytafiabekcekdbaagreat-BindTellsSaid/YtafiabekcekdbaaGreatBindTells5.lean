/-
  Part 5 of the proof of BindTells: contracts of functions, and what follows from them; without conditions.
-/
import Derived.Test.YtafiabekcekdbaaGreatBindTells4
import Derived.Laws.StructEq
set_option linter.unusedVariables false
set_option linter.unusedSimpArgs false
set_option linter.defProp false
namespace Go.Proofs.YtafiabekcekdbaaGreatW
set_option maxRecDepth 100000
set_option maxHeartbeats 4000000
open Go.RowKit Go.Proofs.YtafiabekcekdbaaGreatK Go.Proofs.YtafiabekcekdbaaGreatT Go.Proofs.YtafiabekcekdbaaGreatL Go.Proofs.YtafiabekcekdbaaGreatV Go.Proofs.YtafiabekcekdbaaGreatG

theorem elm_grow {α:Type}{kd:Kd α}{W W':World}{A:Option Addr}{i:Nat}{u:α}{e:Addr}{cs:List Value}(h:Elm kd W A i u e cs) (g:Grow W W'):Elm kd W' A i u e cs:=⟨h.at_,kd.K_grow g h.K,fun j v hv=>g _ _ (h.cell j v hv)⟩
theorem kFunT_mk {W:World}{i k:Int}{s:ByteArray}{f:ApiFunc}{fc:List Value}{u:Hdr}(h:kApiFunc.K W f fc):kFunT.K W (i,k,s,f,u) (.int .i64 i :: .int .i64 k :: .string s :: (fc++[hV u])):=⟨_,_,rfl,rfl,_,_,rfl,rfl,_,_,rfl,rfl,_,_,rfl,h,rfl⟩
theorem kDatT_mk {W:World}{i k:Int}{s:ByteArray}{f:ApiData}{fc:List Value}{u:Hdr}(h:kApiData.K W f fc):kDatT.K W (i,k,s,f,u) (.int .i64 i :: .int .i64 k :: .string s :: (fc++[hV u])):=⟨_,_,rfl,rfl,_,_,rfl,rfl,_,_,rfl,rfl,_,_,rfl,h,rfl⟩
theorem symsF_take {f:ApiFunc}{j:Nat}(hj:j<f.fCode.length):(symsF f).take (j+1)=(symsF f).take j++[symF f (j:Int)]:=by
 have:(symsF f)[j]?=some (symF f (j:Int)):=rmap_at (e:=fun j:Nat=>symF f (j:Int)) hj
 rw [List.take_add_one,this];rfl
theorem symsF_all (f:ApiFunc):(symsF f).take f.fCode.length=symsF f:=by rw [← symsF_len f,List.take_length]
theorem sum_funs {l:List ApiObject}(h:FewO l) (n:Nat):(funsTo l n).length≤20 * n:=by rw [funsTo_len];exact sumO_le h n
theorem sum_dats {l:List ApiObject}(h:FewO l) (n:Nat):(datsTo l n).length≤20 * n:=by rw [datsTo_len];exact sumO_le h n
theorem ref24_program {B:Base}{w:World}(hS:St B [] w) (A:Option Addr) (cp:Nat) (l:List ApiObject) (W0:World) (hW:Grow W0 B.e) (hC0:kApiObject.C W0 A l) (hv:∀ o ∈ l,vApiObject o) (hok:OkL l) :
 CW 46 #[.slice A l.length cp] w (Ret B (fun z:PZ=>z.ok∧funsOf z.ft z.fr=funsTo l l.length∧datsOf z.dt z.dr=datsTo l l.length) (fun z=>.agg (z.cells 0).toArray) (fun z=>[row kFunT W0 59 (.slice z.Af z.ft.length z.cf) z.ft,bun (rws (Kd.int .i64) W0 3 (z.ft.map hdT) z.fr),row kDatT W0 64 (.slice z.Ad z.dt.length z.cd) z.dt,bun (rws (Kd.int .i64) W0 3 (z.dt.map hdT) z.dr)])):=by
 have hsm:=hok.few
 have hln:=hsm.len
 have hC:=Kd.C_grow hW hC0
 refine ZX Tryz.func46 hS ?_
 refine Zh (Zi (oAlloc J ZP (fun b2=>?_)))
 refine Zn (Za (Zh (Zi (oAlloc J ZP (fun b3=>?_)))))
 refine Zn (Za (Zh (Zh (Zi (Zp J (Zn (Za (Zk (wLoop (ι:=Nat×PZ) (fun x=>[(0,.slice A l.length cp),(2,.pointer (some ⟨b2,0,none⟩)),(3,.pointer (some ⟨b3,0,none⟩)),(4,.int .i64 (x.1:Int))]) (fun x=>[blk b2 43 [.slice none 0 0,.slice none 0 0,.int .i64 0],blk b3 43 (x.2.cells 0),row kFunT W0 59 (.slice x.2.Af x.2.ft.length x.2.cf) x.2.ft,bun (rws (Kd.int .i64) W0 3 (x.2.ft.map hdT) x.2.fr),row kDatT W0 64 (.slice x.2.Ad x.2.dt.length x.2.cd) x.2.dt,bun (rws (Kd.int .i64) W0 3 (x.2.dt.map hdT) x.2.dr)]) (fun x=>x.1≤l.length∧x.2.ok∧funsOf x.2.ft x.2.fr=funsTo l x.1∧datsOf x.2.dt x.2.dr=datsTo l x.1) (fun x=>l.length-x.1) (0,⟨none,0,[],[],none,0,[],[]⟩) ?_ cv (Leads.nilrow.trans (bun_nil.trans (Leads.nilrow.trans (bun_nil.trans Lh)))) ?_)))))))))
 exact ⟨Nat.zero_le _,⟨rfl,rfl⟩,rfl,rfl⟩
 rintro ⟨i,z⟩ ⟨hi,hz,hzf,hzd⟩
 dsimp only at hi hz hzf hzd
 try dsimp only
 refine Zh (Zh (Zi (Zo J (Zo J (Zv J J (Zx J J (Zn (Za (wC (fun h13=>?_) (fun h13=>?_))))))))))
 obtain ⟨o,ho⟩:∃ o,l[i]?=some o:=⟨_,List.getElem?_eq_getElem ZO⟩
 have hom:=List.mem_of_getElem? ho
 have hg:=hsm.one hv hom
 have hg0:=hg.syms
 have hg1:=hg.funcs
 have hg2:=hg.datas
 have hoz:=obj_zero (hok.objs o hom)
 have hoa:=objAt_eq ho
 have hil:i<l.length:=by omega
 obtain ⟨e1,cs1,hE⟩:=hC0.elm ho
 obtain ⟨B0,d0,B1,d1,B2,d2,rfl,m0,q0,m1,q1,m2,q2⟩:=kApiObject_open hE.K
 refine Zj (Za (Zh (Zk (Zh (Zi (Zo J (Zo J (oIdxE J J (elm_grow hE hW) ZO J J ?_))))))))
 have hc18:=(elm_grow hE hW).cell
 refine Zlx hc18 ?_
 refine oAlloc J ZP (fun b5=>?_)
 refine Zsa ?_
 refine Zn (Za (Zh (Zh (Zi (Zp J (Zn (Za (Zk (wLoop (ι:=Nat×PZ) (fun x=>[(0,.slice A l.length cp),(2,.pointer (some ⟨b2,0,none⟩)),(3,.pointer (some ⟨b3,0,none⟩)),(4,.int .i64 (i:Int)),(5,.pointer (some ⟨b5,0,none⟩)),(6,.int .i64 (x.1:Int))]) (fun x=>[blk b2 43 [.slice none 0 0,.slice none 0 0,.int .i64 0],blk b3 43 (x.2.cells 0),row kFunT W0 59 (.slice x.2.Af x.2.ft.length x.2.cf) x.2.ft,bun (rws (Kd.int .i64) W0 3 (x.2.ft.map hdT) x.2.fr),row kDatT W0 64 (.slice x.2.Ad x.2.dt.length x.2.cd) x.2.dt,bun (rws (Kd.int .i64) W0 3 (x.2.dt.map hdT) x.2.dr),blk b5 26 [.slice B0 o.fSymbols.length d0,.slice B1 o.fFuncs.length d1,.slice B2 o.fDatas.length d2]]) (fun x=>x.1≤o.fFuncs.length∧x.2.ok∧funsOf x.2.ft x.2.fr=funsTo l i++(List.range x.1).map (mkFun l i)∧datsOf x.2.dt x.2.dr=datsTo l i) (fun x=>o.fFuncs.length-x.1) (0,z) ?_ cv (Leads.has ZQ) ?_)))))))))
 exact ⟨Nat.zero_le _,hz,by show funsOf z.ft z.fr=_;rw [hzf];simp,hzd⟩
 rintro ⟨k,z⟩ ⟨hk,hz,hzf,hzd⟩
 dsimp only at hk hz hzf hzd
 have hzl:z.ft.length≤1000:=by have h1:=congrArg List.length hzf;unfold funsOf at h1;rw [zip_len hz.f,List.length_append,List.length_map,List.length_range] at h1;have:=sum_funs hsm i;omega
 try dsimp only
 refine Zh (Zh (Zi (Zo J (Zz (n:=1) (m:=1) J J J (Zld ?_)))))
 refine Zv J J (Zx J J (Zn (Za (wC (fun h24=>?_) (fun h24=>?_)))))
 obtain ⟨f,hf⟩:∃ f,o.fFuncs[k]?=some f:=⟨_,List.getElem?_eq_getElem ZO⟩
 have hfm:=List.mem_of_getElem? hf
 have hgf:=hg.fun_ f hfm
 have hfz:=item_fun (hoz.2.2 k ZO) hf
 have hfg:funAt l i k=f:=by unfold funAt;rw [hoa,List.getD_eq_getElem?_getD,hf];rfl
 have hmk:∀ u:Hdr,mkFun l i k=mkF ((i:Int),(k:Int),nameI o (k:Int),f,u) (boundL l i (symsF f)):=fun u=>by unfold mkFun;rw [hoa,hfg];rfl
 obtain ⟨e3,cs3,hE3⟩:=q1.elm hf
 obtain ⟨F0,f0,F1,f1,F2,f2,F3,f3,rfl,n0,r0,n1,r1,n2,r2,n3,r3⟩:=kApiFunc_open hE3.K
 have hsl:=symsF_len f
 have hkf:k<o.fFuncs.length:=by omega
 refine Zj (Za (Zh (Zk (Zh (Zi (Zp J (Zn (Za (Zh (Zh (Zi (Zp J (Zn (Za (Zk (wLoop (ι:=Nat×Option Addr×Nat) (fun x=>[(0,.slice A l.length cp),(2,.pointer (some ⟨b2,0,none⟩)),(3,.pointer (some ⟨b3,0,none⟩)),(4,.int .i64 (i:Int)),(5,.pointer (some ⟨b5,0,none⟩)),(6,.int .i64 (k:Int)),(7,.slice x.2.1 ((symsF f).take x.1).length x.2.2),(8,.int .i64 (x.1:Int))]) (fun x=>[blk b2 43 [.slice none 0 0,.slice none 0 0,.int .i64 0],blk b3 43 (z.cells 0),row kFunT W0 59 (.slice z.Af z.ft.length z.cf) z.ft,bun (rws (Kd.int .i64) W0 3 (z.ft.map hdT) z.fr),row kDatT W0 64 (.slice z.Ad z.dt.length z.cd) z.dt,bun (rws (Kd.int .i64) W0 3 (z.dt.map hdT) z.dr),blk b5 26 [.slice B0 o.fSymbols.length d0,.slice B1 o.fFuncs.length d1,.slice B2 o.fDatas.length d2],row (Kd.int .i64) W0 3 (.slice x.2.1 ((symsF f).take x.1).length x.2.2) ((symsF f).take x.1)]) (fun x=>x.1≤f.fCode.length) (fun x=>f.fCode.length-x.1) (0,none,0) ?_ cv (Leads.nilrow.trans Lh) ?_))))))))))))))))
 exact Nat.zero_le _
 rintro ⟨j,A7,c7⟩ hj
 dsimp only at hj
 have htl:((symsF f).take j).length≤1000:=by rw [List.length_take];omega
 try dsimp only
 refine Zh (Zh (Zi (Zo J (Zz (n:=1) (m:=1) J J J (Zld ?_)))))
 refine Zo J (oIdxE J J (elm_grow hE3 hW) ZO J J ?_)
 have hc31:=(elm_grow hE3 hW).cell
 refine ZF (ZT 7) (ZT 7) ?_
 refine Zlx hc31 ?_
 refine Zv J J (Zx J J (Zn (Za (wC (fun h35=>?_) (fun h35=>?_)))))
 refine Zj (Za (Zh (Zk (Zi (Zo J (Zz (n:=1) (m:=1) J J J (Zld ?_)))))))
 refine Zo J (oIdxE J J (elm_grow hE3 hW) ZO J J ?_)
 have hc42:=(elm_grow hE3 hW).cell
 refine Zlx hc42 ?_
 refine Zo J ?_
 (refine ZC0 rfl ZK (fun w hS=>frame hS ZQ (fun B' hB hS'=>ref17_Sym hS' f _ (kApiFunc_mk _ f n0 (Kd.C_grow (hW.trans hB) r0) n1 (Kd.C_grow (hW.trans hB) r1) n2 (Kd.C_grow (hW.trans hB) r2) n3 (Kd.C_grow (hW.trans hB) r3)) (j:Int))) ?_;rintro ⟨⟩ -)
 refine oBuildSlice1 J J J J J ZP J (fun b46=>?_)
 refine oApp1 (symF f (j:Int)) J J J J ZP ZP J ZO J (fun g47 cp47=>?_)
 rw [show ((symsF f).take j).length+1=((symsF f).take (j+1)).length by rw [symsF_take ZO,List.length_append];rfl,← symsF_take ZO]
 refine Zp J (Zn (Zze ?_))
 refine Zp J (Zn (Za ?_))
 exact ⟨rfl,(j+1,some ⟨g47,0,none⟩,cp47),by show j+1≤_;omega,by show f.fCode.length-(j+1)<f.fCode.length-j;omega,cv,Lh⟩
 obtain rfl:j=f.fCode.length:=by omega
 rw [symsF_all]
 refine Zm (Zb (Zb (Ze (Za (wDrawG J [0,1,2,3,4,5,7,8,9,10,11,12,13,14] [(6,[0,1,2,3,7,8,9,10,11,12,13,14],[]),(15,[0,1,2,3,7,8,9,10,11],[16]),(17,[0,1],[]),(18,[],[])] [19,20] 24 ZK J J (fun w0=>?_))))))
 refine Zz (n:=0) (m:=0) J J J (Zld ?_)
 refine Zo J (Zo J (Zla ?_))
 refine Zo J (Zz (n:=1) (m:=1) J J J (Zld ?_))
 refine Zo J (oIdxE J J (elm_grow hE3 hW) ZO J J ?_)
 have hc58:=(elm_grow hE3 hW).cell
 refine Zlx hc58 ?_
 refine Zo J (Zo J (Zo J (Z4 (Z5 J ?_))))
 (refine ZC0 rfl ZK (fun w hS=>frame hS ZQ (fun B' hB hS'=>ref24_name hS' o _ (kApiObject_mk _ o m0 (Kd.C_grow (hW.trans hB) q0) m1 (Kd.C_grow (hW.trans hB) q1) m2 (Kd.C_grow (hW.trans hB) q2)) hg (k:Int) hfz.1)) ?_;rintro ⟨⟩ -)
 refine ZG ?_ J (fun w0=>?_)
 refine Z8 J J J J (fun w0=>?_) ?_
 refine Zz (n:=0) (m:=0) J J J ?_
 exact Z9 rfl
 refine Z8 J J J J (fun w0=>?_) ?_
 refine Zld ?_
 exact Z9 rfl
 refine Z8 J J J J (fun w0=>?_) ?_
 refine Zo J ?_
 exact Z9 rfl
 refine Z8 J J J J (fun w0=>?_) ?_
 refine Zo J ?_
 exact Z9 rfl
 refine Z8 J J J J (fun w0=>?_) ?_
 refine Zz (n:=1) (m:=1) J J J ?_
 exact Z9 rfl
 refine Z8 J J J J (fun w0=>?_) ?_
 refine Zld ?_
 exact Z9 rfl
 refine Z8 J J J J (fun w0=>?_) ?_
 refine Zo J ?_
 exact Z9 rfl
 refine Z8 J J J J (fun w0=>?_) ?_
 refine oIdxE J J (elm_grow hE3 hW) ZO J J ?_
 have hc58:=(elm_grow hE3 hW).cell
 exact Z9 rfl
 refine Z8 J J J J (fun w0=>?_) ?_
 refine Zlx hc58 ?_
 exact Z9 rfl
 refine Z8 J J J J (fun w0=>?_) ?_
 refine Zo J ?_
 exact Z9 rfl
 refine Z8 J J J J (fun w0=>?_) ?_
 refine Zo J ?_
 exact Z9 rfl
 refine Z8 J J J J (fun w0=>?_) ?_
 refine Zo J ?_
 exact Z9 rfl
 exact AgainG.nil
 refine Z4 (Z5 J ?_)
 (refine ZD J (fun w B' hB hR hS'=>ref24_bound hS' A cp l (Kd.C_grow hB hC) hsm i A7 c7 (symsF f) (row_Cs (W:=W0) (e:=3) (n:=(symsF f).length) (cp:=c7) (hR _ _ ZP)) ZO (hok.syms ho (syms_in hfz.2.2.1)) W0) ?_;rintro ⟨A63,c63⟩ -)
 refine ZG ?_ J (fun w0=>?_)
 refine Z8 J J J J (fun w0=>?_) ?_
 refine Zz (n:=0) (m:=0) J J J ?_
 exact Z9 rfl
 refine Z8 J J J J (fun w0=>?_) ?_
 refine Zld ?_
 exact Z9 rfl
 refine Z8 J J J J (fun w0=>?_) ?_
 refine Zo J ?_
 exact Z9 rfl
 refine Z8 J J J J (fun w0=>?_) ?_
 refine Zo J ?_
 exact Z9 rfl
 refine Z8 J J J J (fun w0=>?_) ?_
 refine Zz (n:=1) (m:=1) J J J ?_
 exact Z9 rfl
 refine Z8 J J J J (fun w0=>?_) ?_
 refine Zld ?_
 exact Z9 rfl
 refine Z8 J J J J (fun w0=>?_) ?_
 refine Zo J ?_
 exact Z9 rfl
 refine Z8 J J J J (fun w0=>?_) ?_
 refine oIdxE J J (elm_grow hE3 hW) ZO J J ?_
 have hc58:=(elm_grow hE3 hW).cell
 exact Z9 rfl
 refine Z8 J J J J (fun w0=>?_) ?_
 refine Zlx hc58 ?_
 exact Z9 rfl
 exact AgainG.nil
 refine oBuild (Parts.cons J (Parts.cons J (Parts.cons J (Parts.cons J (Parts.cons J Parts.nil))))) J J (Built.cons (off:=0) (s:=1) J ZP J ZP (Built.cons (off:=1) (s:=1) J ZP J ZP (Built.cons (off:=2) (s:=1) J ZP J ZP (Built.cons (off:=3) (s:=9) J ZP J ZP (Built.cons (off:=12) (s:=1) J ZP J ZP Built.nil))))) ?_
 refine Z4 (Z5 J (oBuildSlice1 J J J J J ZP J (fun b65=>?_)))
 refine ZG ?_ J (fun w0=>?_)
 refine Z8 J J J J (fun w0=>?_) ?_
 refine Zz (n:=0) (m:=0) J J J ?_
 exact Z9 rfl
 refine Z8 J J J J (fun w0=>?_) ?_
 refine Zld ?_
 exact Z9 rfl
 exact AgainG.nil
 refine Z4 (Z5 J (oApp1 (kd:=kFunT) (W:=W0) (xs:=z.ft) ((i:Int),(k:Int),nameI o (k:Int),f,(A63,(boundL l i (symsF f)).length,c63)) J J J J ZP ZP (kFunT_mk (kApiFunc_mk _ f n0 r0 n1 r1 n2 r2 n3 r3)) ZO J (fun g66 cp66=>?_)))
 rw [show z.ft.length+1=(z.ft++[((i:Int),(k:Int),nameI o (k:Int),f,(A63,(boundL l i (symsF f)).length,c63))]).length by rw [List.length_append];rfl]
 refine oSnoc (kd:=Kd.int .i64) (W:=W0) (ei:=3) (u:=(A63,(boundL l i (symsF f)).length,c63)) (l:=boundL l i (symsF f)) (hs:=z.ft.map hdT) (xss:=z.fr) ZP ZP (by rw [List.length_map];exact hz.f) ?_
 rw [show z.ft.map hdT++[(A63,(boundL l i (symsF f)).length,c63)]=(z.ft++[((i:Int),(k:Int),nameI o (k:Int),f,(A63,(boundL l i (symsF f)).length,c63))]).map hdT by rw [List.map_append];rfl]
 refine ZG ?_ J (fun w0=>?_)
 exact AgainG.nil
 refine Z6 (Zz (n:=0) (m:=0) J J J (Zst ?_))
 refine Zn (Zze ?_)
 refine Zp J (Zn (Za ?_))
 exact ⟨rfl,(k+1,⟨some ⟨g66,0,none⟩,cp66,z.ft++[((i:Int),(k:Int),nameI o (k:Int),f,(A63,(boundL l i (symsF f)).length,c63))],z.fr++[boundL l i (symsF f)],z.Ad,z.cd,z.dt,z.dr⟩),⟨by show k+1≤_;omega,⟨by show (z.ft++[_]).length=(z.fr++[_]).length;rw [List.length_append,List.length_append,hz.f];rfl,hz.d⟩,by show funsOf (z.ft++[_]) (z.fr++[_])=_;unfold funsOf;rw [zip_snoc hz.f,← hmk (A63,(boundL l i (symsF f)).length,c63)];rw [show List.zipWith mkF z.ft z.fr=funsOf z.ft z.fr from rfl,hzf,List.append_assoc,List.range_succ,List.map_append];rfl,hzd⟩,by show o.fFuncs.length-(k+1)<o.fFuncs.length-k;omega,cv,Lh⟩
 obtain rfl:k=o.fFuncs.length:=by omega
 have hzf:funsOf z.ft z.fr=funsTo l (i+1):=by rw [hzf,funsTo_succ];unfold fileFuns;rw [hoa]
 refine Zm (Zb (Zb (Ze (Za (Zh (Zi (Zp J (Zn (Za (Zk (wLoop (ι:=Nat×PZ) (fun x=>[(0,.slice A l.length cp),(2,.pointer (some ⟨b2,0,none⟩)),(3,.pointer (some ⟨b3,0,none⟩)),(4,.int .i64 (i:Int)),(5,.pointer (some ⟨b5,0,none⟩)),(9,.int .i64 (x.1:Int))]) (fun x=>[blk b2 43 [.slice none 0 0,.slice none 0 0,.int .i64 0],blk b3 43 (x.2.cells 0),row kFunT W0 59 (.slice x.2.Af x.2.ft.length x.2.cf) x.2.ft,bun (rws (Kd.int .i64) W0 3 (x.2.ft.map hdT) x.2.fr),row kDatT W0 64 (.slice x.2.Ad x.2.dt.length x.2.cd) x.2.dt,bun (rws (Kd.int .i64) W0 3 (x.2.dt.map hdT) x.2.dr),blk b5 26 [.slice B0 o.fSymbols.length d0,.slice B1 o.fFuncs.length d1,.slice B2 o.fDatas.length d2]]) (fun x=>x.1≤o.fDatas.length∧x.2.ok∧funsOf x.2.ft x.2.fr=funsTo l (i+1)∧datsOf x.2.dt x.2.dr=datsTo l i++(List.range x.1).map (mkDat l i)) (fun x=>o.fDatas.length-x.1) (0,z) ?_ cv (Leads.has ZQ) ?_)))))))))))
 exact ⟨Nat.zero_le _,hz,hzf,by show datsOf z.dt z.dr=_;rw [hzd];simp⟩
 rintro ⟨k,z⟩ ⟨hk,hz,hzf,hzd⟩
 dsimp only at hk hz hzf hzd
 have hzl:z.dt.length≤1000:=by have h1:=congrArg List.length hzd;unfold datsOf at h1;rw [zip_len hz.d,List.length_append,List.length_map,List.length_range] at h1;have:=sum_dats hsm i;omega
 try dsimp only
 refine Zh (Zh (Zi (Zo J (Zz (n:=2) (m:=2) J J J (Zld ?_)))))
 refine Zv J J (Zx J J (Zn (Za (wC (fun h72=>?_) (fun h72=>?_)))))
 obtain ⟨d,hd⟩:∃ d,o.fDatas[k]?=some d:=⟨_,List.getElem?_eq_getElem ZO⟩
 have hdm:=List.mem_of_getElem? hd
 have hgd:=hg.data d hdm
 have hdz:=item_dat (hoz.2.2 (o.fFuncs.length+k) ZO) hd
 have hdg:datAt l i k=d:=by unfold datAt;rw [hoa,List.getD_eq_getElem?_getD,hd];rfl
 have hmk:∀ u:Hdr,mkDat l i k=mkD ((i:Int),((o.fFuncs.length+k:Nat):Int),nameI o ((o.fFuncs.length+k:Nat):Int),d,u) (boundL l i (refsD d)):=fun u=>by unfold mkDat;rw [hoa,hdg];rfl
 obtain ⟨e3,cs3,hE3⟩:=q2.elm hd
 obtain ⟨F0,f0,F1,f1,rfl,n0,r0,n1,r1⟩:=kApiData_open hE3.K
 have hrl:(refsD d).length=d.fWords.length:=(refsD_len d).trans (marksL_len _ _)
 have hkd:k<o.fDatas.length:=by omega
 refine Zj (Za (Zh (Zk (wDrawG J [0,1,2,3,4,5,6,7,8,9,10,11,12,13,15,16,17,18,19,20,21,22,23,24,25,26] [(14,[0,1,2,3,4,5,6,7,15,16,17,18,19,20,21,22,23,24,25,26],[]),(27,[0,1,2,3,4,5,6,7,15,16,17,18,19,20,21],[]),(28,[0,1,2,3,4,5,6,7,15,16,17,18,19],[29]),(30,[0,1],[]),(31,[],[])] [32,33] 24 ZK J J (fun w0=>?_)))))
 refine Zz (n:=1) (m:=1) J J J (Zld ?_)
 refine Zo J (Zz (n:=1) (m:=1) J J J (Zld ?_))
 refine Zv J J (Zo J (oAdd J J ZO ?_))
 refine ZS0 (t:=82) (v':=.int .i64 ((o.fFuncs.length+k:Nat):Int)) J (by congr 1) ?_
 refine Zla ?_
 refine Zz (n:=1) (m:=1) J J J (Zld ?_)
 refine Zv J J (Zo J (oAdd J J ZO ?_))
 refine ZS0 (t:=88) (v':=.int .i64 ((o.fFuncs.length+k:Nat):Int)) J (by congr 1) ?_
 refine Zz (n:=2) (m:=2) J J J (Zld ?_)
 refine Zo J (oIdxE J J (elm_grow hE3 hW) ZO J J ?_)
 have hc93:=(elm_grow hE3 hW).cell
 refine Zlx hc93 ?_
 refine Zo J (Zo J (Zz (n:=2) (m:=2) J J J (Zld ?_)))
 refine Zo J (oIdxE J J (elm_grow hE3 hW) ZO J J ?_)
 have hc100:=(elm_grow hE3 hW).cell
 refine Zlx hc100 ?_
 refine Z4 (Z5 J ?_)
 (refine ZC0 rfl ZK (fun w hS=>frame hS ZQ (fun B' hB hS'=>ref24_name hS' o _ (kApiObject_mk _ o m0 (Kd.C_grow (hW.trans hB) q0) m1 (Kd.C_grow (hW.trans hB) q1) m2 (Kd.C_grow (hW.trans hB) q2)) hg ((o.fFuncs.length+k:Nat):Int) hdz.1)) ?_;rintro ⟨⟩ -)
 refine ZG ?_ J (fun w0=>?_)
 refine Z8 J J J J (fun w0=>?_) ?_
 refine Zz (n:=1) (m:=1) J J J ?_
 exact Z9 rfl
 refine Z8 J J J J (fun w0=>?_) ?_
 refine Zld ?_
 exact Z9 rfl
 refine Z8 J J J J (fun w0=>?_) ?_
 refine Zo J ?_
 exact Z9 rfl
 refine Z8 J J J J (fun w0=>?_) ?_
 refine Zz (n:=1) (m:=1) J J J ?_
 exact Z9 rfl
 refine Z8 J J J J (fun w0=>?_) ?_
 refine Zld ?_
 exact Z9 rfl
 refine Z8 J J J J (fun w0=>?_) ?_
 refine Zv J J ?_
 exact Z9 rfl
 refine Z8 J J J J (fun w0=>?_) ?_
 refine Zo J ?_
 exact Z9 rfl
 refine Z8 J J J J (fun w0=>?_) ?_
 refine oAdd J J ZO ?_
 refine ZS0 (t:=82) (v':=.int .i64 ((o.fFuncs.length+k:Nat):Int)) J (by congr 1) ?_
 exact Z9 rfl
 refine Z8 J J J J (fun w0=>?_) ?_
 refine Zz (n:=2) (m:=2) J J J ?_
 exact Z9 rfl
 refine Z8 J J J J (fun w0=>?_) ?_
 refine Zld ?_
 exact Z9 rfl
 refine Z8 J J J J (fun w0=>?_) ?_
 refine Zo J ?_
 exact Z9 rfl
 refine Z8 J J J J (fun w0=>?_) ?_
 refine oIdxE J J (elm_grow hE3 hW) ZO J J ?_
 have hc93:=(elm_grow hE3 hW).cell
 exact Z9 rfl
 refine Z8 J J J J (fun w0=>?_) ?_
 refine Zlx hc93 ?_
 exact Z9 rfl
 refine Z8 J J J J (fun w0=>?_) ?_
 refine Zo J ?_
 exact Z9 rfl
 refine Z8 J J J J (fun w0=>?_) ?_
 refine Zo J ?_
 exact Z9 rfl
 refine Z8 J J J J (fun w0=>?_) ?_
 refine Zz (n:=2) (m:=2) J J J ?_
 exact Z9 rfl
 refine Z8 J J J J (fun w0=>?_) ?_
 refine Zld ?_
 exact Z9 rfl
 refine Z8 J J J J (fun w0=>?_) ?_
 refine Zo J ?_
 exact Z9 rfl
 refine Z8 J J J J (fun w0=>?_) ?_
 refine oIdxE J J (elm_grow hE3 hW) ZO J J ?_
 have hc100:=(elm_grow hE3 hW).cell
 exact Z9 rfl
 refine Z8 J J J J (fun w0=>?_) ?_
 refine Zlx hc100 ?_
 exact Z9 rfl
 exact AgainG.nil
 refine Z4 (Z5 J ?_)
 (refine ZC0 rfl ZK (fun w hS=>frame hS ZQ (fun B' hB hS'=>ref15_Refs hS' d _ (kApiData_mk _ d n0 (Kd.C_grow (hW.trans hB) r0) n1 (Kd.C_grow (hW.trans hB) r1)) ZO ZO W0)) ?_;rintro ⟨A102,c102⟩ -)
 refine ZS0 (t:=102) (v':=.slice A102 (refsD d).length c102) rfl (by rw [hrl]) ?_
 refine ZG ?_ J (fun w0=>?_)
 refine Z8 J J J J (fun w0=>?_) ?_
 refine Zz (n:=1) (m:=1) J J J ?_
 exact Z9 rfl
 refine Z8 J J J J (fun w0=>?_) ?_
 refine Zld ?_
 exact Z9 rfl
 refine Z8 J J J J (fun w0=>?_) ?_
 refine Zo J ?_
 exact Z9 rfl
 refine Z8 J J J J (fun w0=>?_) ?_
 refine Zz (n:=1) (m:=1) J J J ?_
 exact Z9 rfl
 refine Z8 J J J J (fun w0=>?_) ?_
 refine Zld ?_
 exact Z9 rfl
 refine Z8 J J J J (fun w0=>?_) ?_
 refine Zv J J ?_
 exact Z9 rfl
 refine Z8 J J J J (fun w0=>?_) ?_
 refine Zo J ?_
 exact Z9 rfl
 refine Z8 J J J J (fun w0=>?_) ?_
 refine oAdd J J ZO ?_
 refine ZS0 (t:=82) (v':=.int .i64 ((o.fFuncs.length+k:Nat):Int)) J (by congr 1) ?_
 exact Z9 rfl
 refine Z8 J J J J (fun w0=>?_) ?_
 refine Zz (n:=2) (m:=2) J J J ?_
 exact Z9 rfl
 refine Z8 J J J J (fun w0=>?_) ?_
 refine Zld ?_
 exact Z9 rfl
 refine Z8 J J J J (fun w0=>?_) ?_
 refine Zo J ?_
 exact Z9 rfl
 refine Z8 J J J J (fun w0=>?_) ?_
 refine oIdxE J J (elm_grow hE3 hW) ZO J J ?_
 have hc93:=(elm_grow hE3 hW).cell
 exact Z9 rfl
 refine Z8 J J J J (fun w0=>?_) ?_
 refine Zlx hc93 ?_
 exact Z9 rfl
 refine Z8 J J J J (fun w0=>?_) ?_
 refine Zo J ?_
 exact Z9 rfl
 refine Z8 J J J J (fun w0=>?_) ?_
 refine Zo J ?_
 exact Z9 rfl
 exact AgainG.nil
 refine Z4 (Z5 J ?_)
 (refine ZD J (fun w B' hB hR hS'=>ref24_bound hS' A cp l (Kd.C_grow hB hC) hsm i A102 c102 (refsD d) (row_Cs (W:=W0) (e:=3) (n:=d.fWords.length) (cp:=c102) (hR _ _ ZP)) ZO (hok.syms ho (refs_in hdz.2.2)) W0) ?_;rintro ⟨A103,c103⟩ -)
 refine ZG ?_ J (fun w0=>?_)
 refine Z8 J J J J (fun w0=>?_) ?_
 refine Zz (n:=1) (m:=1) J J J ?_
 exact Z9 rfl
 refine Z8 J J J J (fun w0=>?_) ?_
 refine Zld ?_
 exact Z9 rfl
 refine Z8 J J J J (fun w0=>?_) ?_
 refine Zo J ?_
 exact Z9 rfl
 refine Z8 J J J J (fun w0=>?_) ?_
 refine Zz (n:=1) (m:=1) J J J ?_
 exact Z9 rfl
 refine Z8 J J J J (fun w0=>?_) ?_
 refine Zld ?_
 exact Z9 rfl
 refine Z8 J J J J (fun w0=>?_) ?_
 refine Zv J J ?_
 exact Z9 rfl
 refine Z8 J J J J (fun w0=>?_) ?_
 refine Zo J ?_
 exact Z9 rfl
 refine Z8 J J J J (fun w0=>?_) ?_
 refine oAdd J J ZO ?_
 refine ZS0 (t:=82) (v':=.int .i64 ((o.fFuncs.length+k:Nat):Int)) J (by congr 1) ?_
 exact Z9 rfl
 refine Z8 J J J J (fun w0=>?_) ?_
 refine Zz (n:=2) (m:=2) J J J ?_
 exact Z9 rfl
 refine Z8 J J J J (fun w0=>?_) ?_
 refine Zld ?_
 exact Z9 rfl
 refine Z8 J J J J (fun w0=>?_) ?_
 refine Zo J ?_
 exact Z9 rfl
 refine Z8 J J J J (fun w0=>?_) ?_
 refine oIdxE J J (elm_grow hE3 hW) ZO J J ?_
 have hc93:=(elm_grow hE3 hW).cell
 exact Z9 rfl
 refine Z8 J J J J (fun w0=>?_) ?_
 refine Zlx hc93 ?_
 exact Z9 rfl
 exact AgainG.nil
 refine oBuild (Parts.cons J (Parts.cons J (Parts.cons J (Parts.cons J (Parts.cons J Parts.nil))))) J J (Built.cons (off:=0) (s:=1) J ZP J ZP (Built.cons (off:=1) (s:=1) J ZP J ZP (Built.cons (off:=2) (s:=1) J ZP J ZP (Built.cons (off:=3) (s:=3) J ZP J ZP (Built.cons (off:=6) (s:=1) J ZP J ZP Built.nil))))) ?_
 refine Z4 (Z5 J (oBuildSlice1 J J J J J ZP J (fun b105=>?_)))
 refine ZG ?_ J (fun w0=>?_)
 refine Z8 J J J J (fun w0=>?_) ?_
 refine Zz (n:=1) (m:=1) J J J ?_
 exact Z9 rfl
 refine Z8 J J J J (fun w0=>?_) ?_
 refine Zld ?_
 exact Z9 rfl
 exact AgainG.nil
 refine Z4 (Z5 J (oApp1 (kd:=kDatT) (W:=W0) (xs:=z.dt) ((i:Int),((o.fFuncs.length+k:Nat):Int),nameI o ((o.fFuncs.length+k:Nat):Int),d,(A103,(boundL l i (refsD d)).length,c103)) J J J J ZP ZP (kDatT_mk (kApiData_mk _ d n0 r0 n1 r1)) ZO J (fun g106 cp106=>?_)))
 rw [show z.dt.length+1=(z.dt++[((i:Int),((o.fFuncs.length+k:Nat):Int),nameI o ((o.fFuncs.length+k:Nat):Int),d,(A103,(boundL l i (refsD d)).length,c103))]).length by rw [List.length_append];rfl]
 refine oSnoc (kd:=Kd.int .i64) (W:=W0) (ei:=3) (u:=(A103,(boundL l i (refsD d)).length,c103)) (l:=boundL l i (refsD d)) (hs:=z.dt.map hdT) (xss:=z.dr) ZP ZP (by rw [List.length_map];exact hz.d) ?_
 rw [show z.dt.map hdT++[(A103,(boundL l i (refsD d)).length,c103)]=(z.dt++[((i:Int),((o.fFuncs.length+k:Nat):Int),nameI o ((o.fFuncs.length+k:Nat):Int),d,(A103,(boundL l i (refsD d)).length,c103))]).map hdT by rw [List.map_append];rfl]
 refine ZG ?_ J (fun w0=>?_)
 exact AgainG.nil
 refine Z6 (Zz (n:=1) (m:=1) J J J (Zst ?_))
 refine Zn (Zze ?_)
 refine Zp J (Zn (Za ?_))
 exact ⟨rfl,(k+1,⟨z.Af,z.cf,z.ft,z.fr,some ⟨g106,0,none⟩,cp106,z.dt++[((i:Int),((o.fFuncs.length+k:Nat):Int),nameI o ((o.fFuncs.length+k:Nat):Int),d,(A103,(boundL l i (refsD d)).length,c103))],z.dr++[boundL l i (refsD d)]⟩),⟨by show k+1≤_;omega,⟨hz.f,by show (z.dt++[_]).length=(z.dr++[_]).length;rw [List.length_append,List.length_append,hz.d];rfl⟩,hzf,by show datsOf (z.dt++[_]) (z.dr++[_])=_;unfold datsOf;rw [zip_snoc hz.d,← hmk (A103,(boundL l i (refsD d)).length,c103)];rw [show List.zipWith mkD z.dt z.dr=datsOf z.dt z.dr from rfl,hzd,List.append_assoc,List.range_succ,List.map_append];rfl⟩,by show o.fDatas.length-(k+1)<o.fDatas.length-k;omega,cv,Lh⟩
 obtain rfl:k=o.fDatas.length:=by omega
 refine Zm (Zb (Zb (Ze (Zze ?_))))
 refine Zp J (Zn (Za ?_))
 exact ⟨rfl,(i+1,z),⟨by show i+1≤_;omega,hz,hzf,by show datsOf z.dt z.dr=_;rw [hzd,datsTo_succ];unfold fileDats;rw [hoa]⟩,by show l.length-(i+1)<l.length-i;omega,cv,Lh⟩
 obtain rfl:i=l.length:=by omega
 refine Zm (Zb (Zb (Ze (Za (Zzs ?_)))))
 refine Zsa ?_
 refine Zn (Za (Zl (Zw (ZI ?_))))
 exact ⟨z,⟨hz,hzf,hzd⟩,rfl,Lh⟩
end Go.Proofs.YtafiabekcekdbaaGreatW
namespace Go.Proofs.YtafiabekcekdbaaGreatO
set_option maxRecDepth 100000
set_option maxHeartbeats 4000000
open Go.RowKit Go.Proofs.YtafiabekcekdbaaGreatK Go.Proofs.YtafiabekcekdbaaGreatT Go.Proofs.YtafiabekcekdbaaGreatL Go.Proofs.YtafiabekcekdbaaGreatV Go.Proofs.YtafiabekcekdbaaGreatG Go.Proofs.YtafiabekcekdbaaGreatW Go.Proofs.YtafiabekcekdbaaGreatU

theorem sym_sort {o:ApiObject}{i:Nat}{x:ApiSymbol}(h:symE o i=0) (hx:o.fSymbols[i]?=some x):x.fSort=1∨x.fSort=2:=by
 rw [symE_at hx] at h
 unfold symX at h
 split at h
 · next h1=>exact absurd h h1
 · split at h
   · exact absurd h (by decide)
   · next h1=>
     simp [kindB] at h1
     omega
theorem ok_bo {l:List ApiObject}(h:OkL l) {i:Nat}{o:ApiObject}(ho:l[i]?=some o) {syms:List Int}(hs:∀ s ∈ syms,0≤s→s<(o.fSymbols.length:Int)) (hn:∀ s ∈ syms,s<0→s = -1):∀ s ∈ syms,BoOk l i s:=by
 intro s hm
 by_cases h0:s<0
 · exact .inl ⟨h0,hn s hm h0⟩
 · right
   obtain ⟨k,rfl⟩:=Int.eq_ofNat_of_zero_le (Int.not_lt.1 h0)
   have hk:k<o.fSymbols.length:=by have:=hs _ hm ZO;omega
   obtain ⟨i2,k2,o2,y,e,ho2,hy,h1,h2⟩:=h.bnd ho hk
   exact ⟨k,i2,k2,o2,y,rfl,e,ho2,hy,sym_sort ((obj_zero (h.objs o2 (List.mem_of_getElem? ho2))).2.1 k2 (List.getElem?_eq_some_iff.1 hy).1) hy,h1,h2⟩
theorem syms_neg {f:ApiFunc}{l:List ApiSymbol}(h:chkE f l=0):∀ s ∈ symsF f,s<0→s = -1:=by
 intro s hs h0
 obtain ⟨j,hj,rfl⟩:=List.mem_map.1 hs
 have hr:=ref_zero h (List.mem_range.1 hj)
 unfold refE at hr
 split at hr
 · next h1=>unfold symF;rw [if_pos h1.2]
 · split at hr
   · exact absurd hr (by decide)
   · next h1=>exfalso;omega
theorem refs_neg {d:ApiData}{l:List ApiSymbol}(h:dataF d l=0):∀ s ∈ refsD d,s<0→s = -1:=by
 intro s hs h0
 obtain ⟨m,hm,rfl⟩:=List.mem_map.1 hs
 obtain ⟨i,hi,rfl⟩:=List.mem_map.1 hm
 unfold refD at h0 ⊢
 split at h0
 · next h1=>
   exfalso
   obtain ⟨k,x,hk,hx,hp⟩:=idxI_at h1
   rw [hk,Int.toNat_natCast,List.getD_eq_getElem?_getD,hx] at h0
   have hkl:=(List.getElem?_eq_some_iff.1 hx).1
   unfold dataF at h
   split at h
   · exact absurd h (by decide)
   · split at h
     · exact absurd h (by decide)
     · split at h
       · exact absurd h (by decide)
       · have hr:relE d l k=0:=fstE_zero.1 h _ (List.mem_map.2 ⟨k,List.mem_range.2 hkl,rfl⟩)
         rw [relE_at hx] at hr
         unfold dRelE at hr
         split at hr
         · exact absurd hr (by decide)
         · next h2=>
           have:x.fSym<0:=h0
           omega
 · next h1=>rw [if_neg h1]
theorem bun_take {B:Base}{Φ Φ' Φ'' Ψ Ψ':List Res}(hs:Split Φ Ψ' Φ') (hp:Pick Φ' (bun Ψ) Φ''):Leads B Φ (bun (Ψ++Ψ') :: Φ''):=fun w h=>by
 have h1:St B (bun Ψ :: (Ψ'++Φ'')) w:=h.perm (hs.perm.trans ((hp.perm.append_left Ψ').trans List.perm_middle))
 exact St.pack (by rw [List.append_assoc];exact h1.unpack)
theorem bun_left {Ψ Ψ':List Res}{w:World}(h:(bun (Ψ++Ψ')).q w):(bun Ψ).q w:=⟨fun r hr=>h.1 r (List.mem_append_left _ hr),(List.pairwise_append.1 h.2).1⟩
structure PR where
  Af:Option Addr
  cf:Nat
  rf:List (List Value)
  Ad:Option Addr
  cd:Nat
  rd:List (List Value)
  Ψ:List Res
def PR.ok (z:PR) (fs:List ApiFun) (ds:List ApiDat):Prop:=∀ w,(bun z.Ψ).q w→Raws kApiFun w fs z.rf∧Raws kApiDat w ds z.rd
abbrev PR.cells (z:PR) (e:Int):List Value:=[.slice z.Af z.rf.length z.cf,.slice z.Ad z.rd.length z.cd,.int .i64 e]
theorem PR.K {W W' w:World}{ef ed:TypeId}{z:PR}{fs:List ApiFun}{ds:List ApiDat}(hz:z.ok fs ds) (h1:(row (kRaw 13) W ef (.slice z.Af z.rf.length z.cf) z.rf).q w) (h2:(row (kRaw 7) W' ed (.slice z.Ad z.rd.length z.cd) z.rd).q w) (h3:(bun z.Ψ).q w) (e:Int):kApiProgram.K w ⟨fs,ds,e⟩ (z.cells e):=by
 obtain ⟨k1,k2⟩:=hz w h3
 have l1:=k1.length
 have l2:=k2.length
 unfold PR.cells
 rw [l1,l2]
 exact kApiProgram_mk w ⟨fs,ds,e⟩ (by rw [← l1];exact (row_len h1).2) (rawrow h1 rfl k1) (by rw [← l2];exact (row_len h2).2) (rawrow h2 rfl k2)
abbrev funT (i k:Int) (s:ByteArray) (f:ApiFunc) (z:(Option Addr×Nat)×(Option Addr×Nat)×(Option Addr×Nat)×(Option Addr×Nat)) (r:Hdr):List Value:=.int .i64 i :: .int .i64 k :: .string s :: (funC f z++[hV r])
abbrev datT (i k:Int) (s:ByteArray) (d:ApiData) (z:(Option Addr×Nat)×(Option Addr×Nat)) (r:Hdr):List Value:=.int .i64 i :: .int .i64 k :: .string s :: (datC d z++[hV r])
theorem funT_raw {W:World}{i k:Int}{s:ByteArray}{f:ApiFunc}{z}{r:Hdr} : (kRaw 13).K W (funT i k s f z r) (funT i k s f z r):=⟨rfl,rfl,fun u hu=>by
 simp only [funT,funC,List.cons_append,List.nil_append,List.mem_cons,List.not_mem_nil,or_false] at hu
 rcases hu with rfl | rfl | rfl | rfl | rfl | rfl | rfl | rfl | rfl | rfl | rfl | rfl | rfl <;> rfl⟩
theorem datT_raw {W:World}{i k:Int}{s:ByteArray}{d:ApiData}{z}{r:Hdr} : (kRaw 7).K W (datT i k s d z r) (datT i k s d z r):=⟨rfl,rfl,fun u hu=>by
 simp only [datT,datC,List.cons_append,List.nil_append,List.mem_cons,List.not_mem_nil,or_false] at hu
 rcases hu with rfl | rfl | rfl | rfl | rfl | rfl | rfl <;> rfl⟩
theorem refs_K {W0 w:World}{A:Option Addr}{n cp:Nat}{xs:List Int}{e:TypeId}(hn:xs.length=n) (h:(row (Kd.int .i64) W0 e (hV (A,n,cp)) xs).q w):(Kd.slice (Kd.int .i64)).K w xs [hV (A,n,cp)]:=by
 obtain ⟨a1,a2⟩:=row_own (W:=W0) (by exact fun _ _ h=>h) h
 subst hn
 exact ⟨A,cp,rfl,a1,a2⟩
theorem PR.addF {z:PR}{fs:List ApiFun}{ds:List ApiDat}(hz:z.ok fs ds) {W0:World}{i k:Int}{s:ByteArray}{f:ApiFunc}{y:(Option Addr×Nat)×(Option Addr×Nat)×(Option Addr×Nat)×(Option Addr×Nat)}{A:Option Addr}{cp:Nat}{r:List Int}{e:TypeId}{Af:Option Addr}{cf:Nat} : (⟨Af,cf,z.rf++[funT i k s f y (A,r.length,cp)],z.Ad,z.cd,z.rd,z.Ψ++(funR W0 f y++[row (Kd.int .i64) W0 e (hV (A,r.length,cp)) r])⟩:PR).ok (fs++[⟨i,k,s,f,r⟩]) ds:=by
 intro w hq
 obtain ⟨h1,h2⟩:=hz w (bun_left hq)
 refine ⟨h1.app (Raws.one ?_),h2⟩
 have hr:∀ q ∈ funR W0 f y,q.q w:=fun q hm=>hq.1 q (List.mem_append_right _ (List.mem_append_left _ hm))
 have hl:=hq.1 _ (List.mem_append_right _ (List.mem_append_right _ (List.mem_singleton.2 rfl)))
 exact ⟨_,_,rfl,rfl,⟨_,_,rfl,rfl,⟨_,_,rfl,rfl,⟨funC f y,_,rfl,fun_K hr,refs_K rfl hl⟩⟩⟩⟩
theorem PR.addD {z:PR}{fs:List ApiFun}{ds:List ApiDat}(hz:z.ok fs ds) {W0:World}{i k:Int}{s:ByteArray}{d:ApiData}{y:(Option Addr×Nat)×(Option Addr×Nat)}{A:Option Addr}{cp:Nat}{r:List Int}{e:TypeId}{Ad:Option Addr}{cd:Nat} : (⟨z.Af,z.cf,z.rf,Ad,cd,z.rd++[datT i k s d y (A,r.length,cp)],z.Ψ++(datR W0 d y++[row (Kd.int .i64) W0 e (hV (A,r.length,cp)) r])⟩:PR).ok fs (ds++[⟨i,k,s,d,r⟩]):=by
 intro w hq
 obtain ⟨h1,h2⟩:=hz w (bun_left hq)
 refine ⟨h1,h2.app (Raws.one ?_)⟩
 have hr:∀ q ∈ datR W0 d y,q.q w:=fun q hm=>hq.1 q (List.mem_append_right _ (List.mem_append_left _ hm))
 have hl:=hq.1 _ (List.mem_append_right _ (List.mem_append_right _ (List.mem_singleton.2 rfl)))
 exact ⟨_,_,rfl,rfl,⟨_,_,rfl,rfl,⟨_,_,rfl,rfl,⟨datC d y,_,rfl,dat_K hr,refs_K rfl hl⟩⟩⟩⟩
theorem PR.lens {z:PR}{fs:List ApiFun}{ds:List ApiDat}(hz:z.ok fs ds) {w:World}(h:(bun z.Ψ).q w):z.rf.length=fs.length∧z.rd.length=ds.length:=⟨(hz w h).1.length,(hz w h).2.length⟩
theorem wLens {c:Cx}{Q:Post}{x:Code}{E:Env}{D:List Deferred}{H H':List Res}{z:PR}{fs:List ApiFun}{ds:List ApiDat}(hz:z.ok fs ds) (hp:Pick H (bun z.Ψ) H') (h:z.rf.length=fs.length→z.rd.length=ds.length→Go.Proofs.YtafiabekcekdbaaGreatK.W c x Q E D H):Go.Proofs.YtafiabekcekdbaaGreatK.W c x Q E D H:=fun a w ha hw=>by
 obtain ⟨h1,h2⟩:=PR.lens hz (hw.get hp)
 exact h h1 h2 a w ha hw
theorem binder_file {B:Base}{w:World}(A:Option Addr) (cp:Nat) (l:List ApiObject) (b13 b11 bp:Nat) (z:PR) (W0:World) (hS:St B [blk b13 119 [.slice A l.length cp,.map (some b11)],kmap itemV (Value.int .i64) b11 (numM l l.length 0 0),blk bp 43 (z.cells 0),row (kRaw 13) W0 59 (.slice z.Af z.rf.length z.cf) z.rf,row (kRaw 7) W0 64 (.slice z.Ad z.rd.length z.cd) z.rd,bun z.Ψ] w) (hC:kApiObject.C B.e A l) (hv:∀ o ∈ l,vApiObject o) (hok:OkL l) (i:Nat) (o:ApiObject) (ho:l[i]?=some o) (hz:z.ok (funsTo l i) (datsTo l i)) :
 CW 42 #[.pointer (some ⟨b13,0,none⟩),.pointer (some ⟨bp,0,none⟩),.int .i64 (i:Int)] w (Ret B (fun z:PR=>z.ok (funsTo l (i+1)) (datsTo l (i+1))) (fun _=>.tuple #[]) (fun z=>[blk b13 119 [.slice A l.length cp,.map (some b11)],kmap itemV (Value.int .i64) b11 (numM l l.length 0 0),blk bp 43 (z.cells 0),row (kRaw 13) W0 59 (.slice z.Af z.rf.length z.cf) z.rf,row (kRaw 7) W0 64 (.slice z.Ad z.rd.length z.cd) z.rd,bun z.Ψ])):=by
 have hfew:=hok.few
 have hln:=hfew.len
 have hom:=List.mem_of_getElem? ho
 have hg:=hfew.one hv hom
 have hg0:=hg.syms
 have hg1:=hg.funcs
 have hg2:=hg.datas
 have hoz:=obj_zero (hok.objs o hom)
 have hoa:=objAt_eq ho
 have hil:=(List.getElem?_eq_some_iff.1 ho).1
 have hsm:Go.Proofs.YtafiabekcekdbaaGreatS.Small l:=⟨by omega,fun o ho=>by have:=(hfew.one hv ho).syms;omega⟩
 obtain ⟨e1,cs1,hE⟩:=hC.elm ho
 obtain ⟨B0,d0,B1,d1,B2,d2,rfl,m0,q0,m1,q1,m2,q2⟩:=kApiObject_open hE.K
 refine ZX Tryz.func42 hS ?_
 refine Zh (Zi (Zo J (Z3 J (Zz (n:=0) (m:=0) J J J (Zld ?_)))))
 refine Zo J (oIdxE J J (hE) ZO J J ?_)
 have hc19:=(hE).cell
 refine Zlx hc19 ?_
 refine oAlloc J ZP (fun b6=>?_)
 refine Zsa ?_
 refine Zn (Za (Zh (Zh (Zi (Zz (n:=1) (m:=1) J J J (Zld ?_))))))
 refine Zv J J (Zo J (Zn (Za (Zk (wLoop (ι:=Nat×PR) (fun x=>[(0,.pointer (some ⟨b13,0,none⟩)),(1,.pointer (some ⟨bp,0,none⟩)),(2,.int .i64 (i:Int)),(6,.pointer (some ⟨b6,0,none⟩)),(22,.slice B1 o.fFuncs.length d1),(23,.int .i64 (o.fFuncs.length:Int)),(24,.int .i64 (x.1:Int))]) (fun x=>[blk b13 119 [.slice A l.length cp,.map (some b11)],kmap itemV (Value.int .i64) b11 (numM l l.length 0 0),blk bp 43 (x.2.cells 0),row (kRaw 13) W0 59 (.slice x.2.Af x.2.rf.length x.2.cf) x.2.rf,row (kRaw 7) W0 64 (.slice x.2.Ad x.2.rd.length x.2.cd) x.2.rd,bun x.2.Ψ,blk b6 26 [.slice B0 o.fSymbols.length d0,.slice B1 o.fFuncs.length d1,.slice B2 o.fDatas.length d2]]) (fun x=>x.1≤o.fFuncs.length∧x.2.ok (funsTo l i++(List.range x.1).map (mkFun l i)) (datsTo l i)) (fun x=>o.fFuncs.length-x.1) (0,z) ?_ cv (Leads.has ZQ) ?_)))))
 exact ⟨Nat.zero_le _,by show z.ok (_++List.map _ (List.range 0)) _;simpa using hz⟩
 rintro ⟨k,z⟩ ⟨hk,hz⟩
 dsimp only at hk hz
 try dsimp only
 refine Zh (Zi (Zx J J (Zn (Za (Zh (wC (fun h25=>?_) (fun h25=>?_)))))))
 obtain ⟨f,hf⟩:∃ f,o.fFuncs[k]?=some f:=⟨_,List.getElem?_eq_getElem ZO⟩
 have hfm:=List.mem_of_getElem? hf
 have hgf:=hg.fun_ f hfm
 have hfz:=item_fun (hoz.2.2 k ZO) hf
 have hfg:funAt l i k=f:=by unfold funAt;rw [hoa,List.getD_eq_getElem?_getD,hf];rfl
 have hmk:mkFun l i k=⟨(i:Int),(k:Int),nameI o (k:Int),f,boundL l i (symsF f)⟩:=by unfold mkFun;rw [hoa,hfg]
 obtain ⟨e3,cs3,hE3⟩:=q1.elm hf
 obtain ⟨F0,f0,F1,f1,F2,f2,F3,f3,rfl,n0,r0,n1,r1,n2,r2,n3,r3⟩:=kApiFunc_open hE3.K
 have hsl:=symsF_len f
 have hkf:k<o.fFuncs.length:=by omega
 refine wLens hz ZP (fun hzl hzl2=>?_)
 rw [List.length_append,List.length_map,List.length_range] at hzl
 have hzl3:=sum_funs hfew i
 refine Zj (Za (Zh (Zk (Zh (Zi (Zo J (oIdxE J J (hE3) ZO J J ?_)))))))
 have hc27:=(hE3).cell
 refine Zlx hc27 ?_
 refine oAlloc J ZP (fun b8=>?_)
 refine Zp J (Zsa ?_)
 refine Zn (Za (Zh (Zi (Zp J (Zn (Za (Zh (Zh (Zi (Zz (n:=7) (m:=7) J J J (Zld ?_)))))))))))
 refine Zv J J (Zo J (Zn (Za (Zk (wLoop (ι:=Nat×Option Addr×Nat) (fun x=>[(0,.pointer (some ⟨b13,0,none⟩)),(1,.pointer (some ⟨bp,0,none⟩)),(2,.int .i64 (i:Int)),(6,.pointer (some ⟨b6,0,none⟩)),(22,.slice B1 o.fFuncs.length d1),(23,.int .i64 (o.fFuncs.length:Int)),(24,.int .i64 (k:Int)),(7,.int .i64 (k:Int)),(8,.pointer (some ⟨b8,0,none⟩)),(9,.slice x.2.1 ((symsF f).take x.1).length x.2.2),(31,.int .i64 (f.fCode.length:Int)),(32,.int .i64 (x.1:Int))]) (fun x=>[blk b13 119 [.slice A l.length cp,.map (some b11)],kmap itemV (Value.int .i64) b11 (numM l l.length 0 0),blk bp 43 (z.cells 0),row (kRaw 13) W0 59 (.slice z.Af z.rf.length z.cf) z.rf,row (kRaw 7) W0 64 (.slice z.Ad z.rd.length z.cd) z.rd,bun z.Ψ,blk b6 26 [.slice B0 o.fSymbols.length d0,.slice B1 o.fFuncs.length d1,.slice B2 o.fDatas.length d2],blk b8 57 [.int .i64 f.fClass,.slice F0 f.fKinds.length f0,.int .i64 f.fPad,.bool f.fNosplit,.int .i64 f.fFrom,.int .i64 f.fTo,.slice F1 f.fLines.length f1,.slice F2 f.fCode.length f2,.slice F3 f.fRelocs.length f3],row (Kd.int .i64) W0 3 (.slice x.2.1 ((symsF f).take x.1).length x.2.2) ((symsF f).take x.1)]) (fun x=>x.1≤f.fCode.length) (fun x=>f.fCode.length-x.1) (0,none,0) ?_ cv (Leads.nilrow.trans Lh) ?_)))))
 exact Nat.zero_le _
 rintro ⟨j,A9,c9⟩ hj
 dsimp only at hj
 have htl:((symsF f).take j).length≤1000:=by rw [List.length_take];omega
 try dsimp only
 refine Zh (Zi (Zx J J (Zn (Za (Zh (wC (fun h33=>?_) (fun h33=>?_)))))))
 refine Zj (Za (Zh (Zk (Zh (Zi (Zo J (Zp J (Zn (Za (Zi (Zo J (Zla ?_))))))))))))
 refine Zo J ?_
 (refine ZC0 rfl ZK (fun w hS=>frame hS ZQ (fun B' hB hS'=>verify_Sym hS' f _ (kApiFunc_mk _ f n0 (Kd.C_grow hB r0) n1 (Kd.C_grow hB r1) n2 (Kd.C_grow hB r2) n3 (Kd.C_grow hB r3)) (j:Int))) ?_;rintro ⟨⟩ -)
 refine oBuildSlice1 J J J J J ZP J (fun b39=>?_)
 refine oApp1 (symF f (j:Int)) J J J J ZP ZP J ZO J (fun g40 cp40=>?_)
 rw [show ((symsF f).take j).length+1=((symsF f).take (j+1)).length by rw [symsF_take ZO,List.length_append];rfl,← symsF_take ZO]
 refine Zp J (Zn (Zzi ?_))
 refine Zo J (Zn (Za ?_))
 exact ⟨rfl,(j+1,some ⟨g40,0,none⟩,cp40),by show j+1≤_;omega,by show f.fCode.length-(j+1)<f.fCode.length-j;omega,cv,Lh⟩
 obtain rfl:j=f.fCode.length:=by omega
 rw [symsF_all]
 refine Zm (Zb (Zb (Ze (Za (wDrawG J [0,1,2,3,4,5,6,7,8,10,12,13,14] [(9,[0,1,2,3,4,5,6,10,12,13,14],[]),(11,[0,1,2,3,4,5,6,12,13,14],[]),(15,[0,1,2,3,4,5,6],[16]),(17,[0,1,2,3,4],[]),(18,[0],[])] [19,20,21] 24 ZK J J (fun w0=>?_))))))
 refine Zo J (Zo J (Z3 J (Zz (n:=0) (m:=0) J J J (Zld ?_))))
 refine Zo J (Zo J (Zla ?_))
 refine Zo J (Zla ?_)
 refine Zo J (Zo J (Zo J (Z4 (Z5 J ?_))))
 (refine ZC0 rfl ZK (fun w hS=>frame hS ZQ (fun B' hB hS'=>bind_name hS' o _ (kApiObject_mk _ o m0 (Kd.C_grow hB q0) m1 (Kd.C_grow hB q1) m2 (Kd.C_grow hB q2)) hg (k:Int) hfz.1)) ?_;rintro ⟨⟩ -)
 refine ZG ?_ J (fun w0=>?_)
 refine Z8 J J J J (fun w0=>?_) ?_
 refine Zo J ?_
 exact Z9 rfl
 refine Z8 J J J J (fun w0=>?_) ?_
 refine Zo J ?_
 exact Z9 rfl
 refine Z8 J J J J (fun w0=>?_) ?_
 refine Z3 J ?_
 exact Z9 rfl
 refine Z8 J J J J (fun w0=>?_) ?_
 refine Zz (n:=0) (m:=0) J J J ?_
 exact Z9 rfl
 refine Z8 J J J J (fun w0=>?_) ?_
 refine Zld ?_
 exact Z9 rfl
 refine Z8 J J J J (fun w0=>?_) ?_
 refine Zo J ?_
 exact Z9 rfl
 refine Z8 J J J J (fun w0=>?_) ?_
 refine Zo J ?_
 exact Z9 rfl
 refine Z8 J J J J (fun w0=>?_) ?_
 refine Zla ?_
 exact Z9 rfl
 refine Z8 J J J J (fun w0=>?_) ?_
 refine Zo J ?_
 exact Z9 rfl
 refine Z8 J J J J (fun w0=>?_) ?_
 refine Zo J ?_
 exact Z9 rfl
 refine Z8 J J J J (fun w0=>?_) ?_
 refine Zo J ?_
 exact Z9 rfl
 exact AgainG.nil
 refine Z4 (Z5 J ?_)
 (refine ZC0 rfl ZK (fun w hS=>frame hS ZQ (fun B' hB hS'=>bind_fun hS' f _ (kApiFunc_mk _ f n0 (Kd.C_grow hB r0) n1 (Kd.C_grow hB r1) n2 (Kd.C_grow hB r2) n3 (Kd.C_grow hB r3)) ZO ZO ZO ZO W0)) ?_;rintro y53 -)
 refine ZG ?_ J (fun w0=>?_)
 refine Z8 J J J J (fun w0=>?_) ?_
 refine Zo J ?_
 exact Z9 rfl
 refine Z8 J J J J (fun w0=>?_) ?_
 refine Zo J ?_
 exact Z9 rfl
 refine Z8 J J J J (fun w0=>?_) ?_
 refine Z3 J ?_
 exact Z9 rfl
 refine Z8 J J J J (fun w0=>?_) ?_
 refine Zz (n:=0) (m:=0) J J J ?_
 exact Z9 rfl
 refine Z8 J J J J (fun w0=>?_) ?_
 refine Zld ?_
 exact Z9 rfl
 refine Z8 J J J J (fun w0=>?_) ?_
 refine Zo J ?_
 exact Z9 rfl
 refine Z8 J J J J (fun w0=>?_) ?_
 refine Zo J ?_
 exact Z9 rfl
 refine Z8 J J J J (fun w0=>?_) ?_
 refine Zo J ?_
 exact Z9 rfl
 refine Z8 J J J J (fun w0=>?_) ?_
 refine Zo J ?_
 exact Z9 rfl
 refine Z8 J J J J (fun w0=>?_) ?_
 refine Zo J ?_
 exact Z9 rfl
 exact AgainG.nil
 refine Z4 (Z5 J ?_)
 (refine ZC0 rfl ZK (fun w hS=>frame' hS ZQ (fun B' hB hR hS'=>binder_refs A cp l b13 b11 hS' (Kd.C_grow hB hC) hsm i (symsF f) A9 c9 (row_Cs (W:=W0) (e:=3) (n:=(symsF f).length) (cp:=c9) (hR _ _ ZP)) ZO (ok_bo hok ho (syms_in hfz.2.2.1) (syms_neg hfz.2.2.1)) W0)) ?_;rintro ⟨A57,c57⟩ -)
 dsimp only
 rw [show (Value.slice A57 (symsF f).length c57)=hV (A57,(boundL l i (symsF f)).length,c57) by rw [boundL_len]]
 refine ZG ?_ J (fun w0=>?_)
 refine Z8 J J J J (fun w0=>?_) ?_
 refine Zo J ?_
 exact Z9 rfl
 refine Z8 J J J J (fun w0=>?_) ?_
 refine Zo J ?_
 exact Z9 rfl
 refine Z8 J J J J (fun w0=>?_) ?_
 refine Z3 J ?_
 exact Z9 rfl
 refine Z8 J J J J (fun w0=>?_) ?_
 refine Zz (n:=0) (m:=0) J J J ?_
 exact Z9 rfl
 refine Z8 J J J J (fun w0=>?_) ?_
 refine Zld ?_
 exact Z9 rfl
 refine Z8 J J J J (fun w0=>?_) ?_
 refine Zo J ?_
 exact Z9 rfl
 refine Z8 J J J J (fun w0=>?_) ?_
 refine Zo J ?_
 exact Z9 rfl
 exact AgainG.nil
 refine oBuild (Parts.cons J (Parts.cons J (Parts.cons J (Parts.cons J (Parts.cons J Parts.nil))))) J J (Built.cons (off:=0) (s:=1) J ZP J ZP (Built.cons (off:=1) (s:=1) J ZP J ZP (Built.cons (off:=2) (s:=1) J ZP J ZP (Built.cons (off:=3) (s:=9) J ZP J ZP (Built.cons (off:=12) (s:=1) J ZP J ZP Built.nil))))) ?_
 refine Z4 (Z5 J (oBuildSlice1 J J J J J ZP J (fun b59=>?_)))
 refine ZG ?_ J (fun w0=>?_)
 refine Z8 J J J J (fun w0=>?_) ?_
 refine Zo J ?_
 exact Z9 rfl
 refine Z8 J J J J (fun w0=>?_) ?_
 refine Zo J ?_
 exact Z9 rfl
 refine Z8 J J J J (fun w0=>?_) ?_
 refine Z3 J ?_
 exact Z9 rfl
 refine Z8 J J J J (fun w0=>?_) ?_
 refine Zz (n:=0) (m:=0) J J J ?_
 exact Z9 rfl
 refine Z8 J J J J (fun w0=>?_) ?_
 refine Zld ?_
 exact Z9 rfl
 exact AgainG.nil
 refine Z4 (Z5 J (oApp1 (kd:=kRaw 13) (W:=W0) (xs:=z.rf) (funT (i:Int) (k:Int) (nameI o (k:Int)) f y53 (A57,(boundL l i (symsF f)).length,c57)) J J J J ZP ZP funT_raw ZO J (fun g60 cp60=>?_)))
 rw [show z.rf.length+1=(z.rf++[(funT (i:Int) (k:Int) (nameI o (k:Int)) f y53 (A57,(boundL l i (symsF f)).length,c57))]).length by rw [List.length_append];rfl]
 refine oConv (bun_take (Ψ:=z.Ψ) (Ψ':=(funR W0 f y53++[row (Kd.int .i64) W0 3 (hV (A57,(boundL l i (symsF f)).length,c57)) (boundL l i (symsF f))])) ZQ ZP) ?_
 refine ZG ?_ J (fun w0=>?_)
 refine Z8 J J J J (fun w0=>?_) ?_
 refine Zo J ?_
 exact Z9 rfl
 exact AgainG.nil
 refine Z6 (Z3 J (Zz (n:=0) (m:=0) J J J (Zst ?_)))
 refine Zn (Zzi ?_)
 refine Zo J (Zn (Za ?_))
 exact ⟨rfl,(k+1,⟨some ⟨g60,0,none⟩,cp60,z.rf++[(funT (i:Int) (k:Int) (nameI o (k:Int)) f y53 (A57,(boundL l i (symsF f)).length,c57))],z.Ad,z.cd,z.rd,z.Ψ++(funR W0 f y53++[row (Kd.int .i64) W0 3 (hV (A57,(boundL l i (symsF f)).length,c57)) (boundL l i (symsF f))])⟩),⟨by show k+1≤_;omega,by dsimp only;rw [List.range_succ,List.map_append,List.map_singleton,hmk,← List.append_assoc (funsTo l i) _ _];exact PR.addF hz⟩,by show o.fFuncs.length-(k+1)<o.fFuncs.length-k;omega,cv,Lh⟩
 obtain rfl:k=o.fFuncs.length:=by omega
 have hz:z.ok (funsTo l (i+1)) (datsTo l i):=by rw [funsTo_succ];unfold fileFuns;rw [hoa];exact hz
 refine Zm (Zb (Zb (Ze (Za (Zh (Zi (Zz (n:=2) (m:=2) J J J (Zld ?_))))))))
 refine Zv J J (Zo J (Zn (Za (Zk (wLoop (ι:=Nat×PR) (fun x=>[(0,.pointer (some ⟨b13,0,none⟩)),(1,.pointer (some ⟨bp,0,none⟩)),(2,.int .i64 (i:Int)),(6,.pointer (some ⟨b6,0,none⟩)),(65,.slice B2 o.fDatas.length d2),(66,.int .i64 (o.fDatas.length:Int)),(67,.int .i64 (x.1:Int))]) (fun x=>[blk b13 119 [.slice A l.length cp,.map (some b11)],kmap itemV (Value.int .i64) b11 (numM l l.length 0 0),blk bp 43 (x.2.cells 0),row (kRaw 13) W0 59 (.slice x.2.Af x.2.rf.length x.2.cf) x.2.rf,row (kRaw 7) W0 64 (.slice x.2.Ad x.2.rd.length x.2.cd) x.2.rd,bun x.2.Ψ,blk b6 26 [.slice B0 o.fSymbols.length d0,.slice B1 o.fFuncs.length d1,.slice B2 o.fDatas.length d2]]) (fun x=>x.1≤o.fDatas.length∧x.2.ok (funsTo l (i+1)) (datsTo l i++(List.range x.1).map (mkDat l i))) (fun x=>o.fDatas.length-x.1) (0,z) ?_ cv (Leads.has ZQ) ?_)))))
 exact ⟨Nat.zero_le _,by show z.ok _ (_++List.map _ (List.range 0));simpa using hz⟩
 rintro ⟨k,z⟩ ⟨hk,hz⟩
 dsimp only at hk hz
 try dsimp only
 refine Zh (Zi (Zx J J (Zn (Za (Zh (wC (fun h68=>?_) (fun h68=>?_)))))))
 obtain ⟨d,hd⟩:∃ d,o.fDatas[k]?=some d:=⟨_,List.getElem?_eq_getElem ZO⟩
 have hdm:=List.mem_of_getElem? hd
 have hgd:=hg.data d hdm
 have hdz:=item_dat (hoz.2.2 (o.fFuncs.length+k) ZO) hd
 have hdg:datAt l i k=d:=by unfold datAt;rw [hoa,List.getD_eq_getElem?_getD,hd];rfl
 have hmk:mkDat l i k=⟨(i:Int),((o.fFuncs.length+k:Nat):Int),nameI o ((o.fFuncs.length+k:Nat):Int),d,boundL l i (refsD d)⟩:=by unfold mkDat;rw [hoa,hdg]
 obtain ⟨e3,cs3,hE3⟩:=q2.elm hd
 obtain ⟨F0,f0,F1,f1,rfl,n0,r0,n1,r1⟩:=kApiData_open hE3.K
 have hrl:(refsD d).length=d.fWords.length:=(refsD_len d).trans (marksL_len _ _)
 have hkd:k<o.fDatas.length:=by omega
 refine wLens hz ZP (fun hzl hzl2=>?_)
 rw [List.length_append,List.length_map,List.length_range] at hzl2
 have hzl3:=sum_dats hfew i
 refine Zj (Za (Zh (Zk (Zh (Zi (Zo J (oIdxE J J (hE3) ZO J J ?_)))))))
 have hc70:=(hE3).cell
 refine Zlx hc70 ?_
 refine oAlloc J ZP (fun b12=>?_)
 refine Zp J (Zsa ?_)
 refine Zn (Za (Zh (Zi (Zz (n:=1) (m:=1) J J J (Zld ?_)))))
 refine Zv J J (Zo J (oAdd J J ZO ?_))
 refine ZS0 (t:=76) (v':=.int .i64 ((o.fFuncs.length+k:Nat):Int)) J (by congr 1) ?_
 refine Zp J (Zn (Za (wDrawG J [0,1,2,3,4,5,6,7,8,10,12,13,14] [(9,[0,1,2,3,4,5,6,10,12,13,14],[]),(11,[0,1,2,3,4,5,6,12,13,14],[]),(15,[0,1,2,3,4,5,6,12,13],[]),(16,[0,1,2,3,4,5,6],[17]),(18,[0,1,2,3,4],[]),(19,[0],[])] [20,21,22] 24 ZK J J (fun w0=>?_))))
 refine Zo J (Zo J (Z3 J (Zz (n:=1) (m:=1) J J J (Zld ?_))))
 refine Zo J (Zo J (Zla ?_))
 refine Zo J (Zla ?_)
 refine Zo J (Zo J (Zla ?_))
 refine Z4 (Z5 J ?_)
 (refine ZC0 rfl ZK (fun w hS=>frame hS ZQ (fun B' hB hS'=>bind_name hS' o _ (kApiObject_mk _ o m0 (Kd.C_grow hB q0) m1 (Kd.C_grow hB q1) m2 (Kd.C_grow hB q2)) hg ((o.fFuncs.length+k:Nat):Int) hdz.1)) ?_;rintro ⟨⟩ -)
 refine ZG ?_ J (fun w0=>?_)
 refine Z8 J J J J (fun w0=>?_) ?_
 refine Zo J ?_
 exact Z9 rfl
 refine Z8 J J J J (fun w0=>?_) ?_
 refine Zo J ?_
 exact Z9 rfl
 refine Z8 J J J J (fun w0=>?_) ?_
 refine Z3 J ?_
 exact Z9 rfl
 refine Z8 J J J J (fun w0=>?_) ?_
 refine Zz (n:=1) (m:=1) J J J ?_
 exact Z9 rfl
 refine Z8 J J J J (fun w0=>?_) ?_
 refine Zld ?_
 exact Z9 rfl
 refine Z8 J J J J (fun w0=>?_) ?_
 refine Zo J ?_
 exact Z9 rfl
 refine Z8 J J J J (fun w0=>?_) ?_
 refine Zo J ?_
 exact Z9 rfl
 refine Z8 J J J J (fun w0=>?_) ?_
 refine Zla ?_
 exact Z9 rfl
 refine Z8 J J J J (fun w0=>?_) ?_
 refine Zo J ?_
 exact Z9 rfl
 refine Z8 J J J J (fun w0=>?_) ?_
 refine Zo J ?_
 exact Z9 rfl
 refine Z8 J J J J (fun w0=>?_) ?_
 refine Zla ?_
 exact Z9 rfl
 exact AgainG.nil
 refine Z4 (Z5 J ?_)
 (refine ZC0 rfl ZK (fun w hS=>frame hS ZQ (fun B' hB hS'=>bind_dat hS' d _ (kApiData_mk _ d n0 (Kd.C_grow hB r0) n1 (Kd.C_grow hB r1)) ZO ZO W0)) ?_;rintro y88 -)
 refine ZG ?_ J (fun w0=>?_)
 refine Z8 J J J J (fun w0=>?_) ?_
 refine Zo J ?_
 exact Z9 rfl
 refine Z8 J J J J (fun w0=>?_) ?_
 refine Zo J ?_
 exact Z9 rfl
 refine Z8 J J J J (fun w0=>?_) ?_
 refine Z3 J ?_
 exact Z9 rfl
 refine Z8 J J J J (fun w0=>?_) ?_
 refine Zz (n:=1) (m:=1) J J J ?_
 exact Z9 rfl
 refine Z8 J J J J (fun w0=>?_) ?_
 refine Zld ?_
 exact Z9 rfl
 refine Z8 J J J J (fun w0=>?_) ?_
 refine Zo J ?_
 exact Z9 rfl
 refine Z8 J J J J (fun w0=>?_) ?_
 refine Zo J ?_
 exact Z9 rfl
 refine Z8 J J J J (fun w0=>?_) ?_
 refine Zo J ?_
 exact Z9 rfl
 refine Z8 J J J J (fun w0=>?_) ?_
 refine Zo J ?_
 exact Z9 rfl
 refine Z8 J J J J (fun w0=>?_) ?_
 refine Zla ?_
 exact Z9 rfl
 exact AgainG.nil
 refine Z4 (Z5 J ?_)
 (refine ZC0 rfl ZK (fun w hS=>frame hS ZQ (fun B' hB hS'=>data_Refs hS' d _ (kApiData_mk _ d n0 (Kd.C_grow hB r0) n1 (Kd.C_grow hB r1)) ZO ZO W0)) ?_;rintro ⟨A92,c92⟩ -)
 refine ZS0 (t:=92) (v':=.slice A92 (refsD d).length c92) rfl (by rw [hrl]) ?_
 refine ZG ?_ J (fun w0=>?_)
 refine Z8 J J J J (fun w0=>?_) ?_
 refine Zo J ?_
 exact Z9 rfl
 refine Z8 J J J J (fun w0=>?_) ?_
 refine Zo J ?_
 exact Z9 rfl
 refine Z8 J J J J (fun w0=>?_) ?_
 refine Z3 J ?_
 exact Z9 rfl
 refine Z8 J J J J (fun w0=>?_) ?_
 refine Zz (n:=1) (m:=1) J J J ?_
 exact Z9 rfl
 refine Z8 J J J J (fun w0=>?_) ?_
 refine Zld ?_
 exact Z9 rfl
 refine Z8 J J J J (fun w0=>?_) ?_
 refine Zo J ?_
 exact Z9 rfl
 refine Z8 J J J J (fun w0=>?_) ?_
 refine Zo J ?_
 exact Z9 rfl
 refine Z8 J J J J (fun w0=>?_) ?_
 refine Zo J ?_
 exact Z9 rfl
 refine Z8 J J J J (fun w0=>?_) ?_
 refine Zo J ?_
 exact Z9 rfl
 exact AgainG.nil
 refine Z4 (Z5 J ?_)
 (refine ZC0 rfl ZK (fun w hS=>frame' hS ZQ (fun B' hB hR hS'=>binder_refs A cp l b13 b11 hS' (Kd.C_grow hB hC) hsm i (refsD d) A92 c92 (row_Cs (W:=W0) (e:=3) (n:=d.fWords.length) (cp:=c92) (hR _ _ ZP)) ZO (ok_bo hok ho (refs_in hdz.2.2) (refs_neg hdz.2.2)) W0)) ?_;rintro ⟨A93,c93⟩ -)
 dsimp only
 rw [show (Value.slice A93 (refsD d).length c93)=hV (A93,(boundL l i (refsD d)).length,c93) by rw [boundL_len]]
 refine ZG ?_ J (fun w0=>?_)
 refine Z8 J J J J (fun w0=>?_) ?_
 refine Zo J ?_
 exact Z9 rfl
 refine Z8 J J J J (fun w0=>?_) ?_
 refine Zo J ?_
 exact Z9 rfl
 refine Z8 J J J J (fun w0=>?_) ?_
 refine Z3 J ?_
 exact Z9 rfl
 refine Z8 J J J J (fun w0=>?_) ?_
 refine Zz (n:=1) (m:=1) J J J ?_
 exact Z9 rfl
 refine Z8 J J J J (fun w0=>?_) ?_
 refine Zld ?_
 exact Z9 rfl
 refine Z8 J J J J (fun w0=>?_) ?_
 refine Zo J ?_
 exact Z9 rfl
 refine Z8 J J J J (fun w0=>?_) ?_
 refine Zo J ?_
 exact Z9 rfl
 exact AgainG.nil
 refine oBuild (Parts.cons J (Parts.cons J (Parts.cons J (Parts.cons J (Parts.cons J Parts.nil))))) J J (Built.cons (off:=0) (s:=1) J ZP J ZP (Built.cons (off:=1) (s:=1) J ZP J ZP (Built.cons (off:=2) (s:=1) J ZP J ZP (Built.cons (off:=3) (s:=3) J ZP J ZP (Built.cons (off:=6) (s:=1) J ZP J ZP Built.nil))))) ?_
 refine Z4 (Z5 J (oBuildSlice1 J J J J J ZP J (fun b95=>?_)))
 refine ZG ?_ J (fun w0=>?_)
 refine Z8 J J J J (fun w0=>?_) ?_
 refine Zo J ?_
 exact Z9 rfl
 refine Z8 J J J J (fun w0=>?_) ?_
 refine Zo J ?_
 exact Z9 rfl
 refine Z8 J J J J (fun w0=>?_) ?_
 refine Z3 J ?_
 exact Z9 rfl
 refine Z8 J J J J (fun w0=>?_) ?_
 refine Zz (n:=1) (m:=1) J J J ?_
 exact Z9 rfl
 refine Z8 J J J J (fun w0=>?_) ?_
 refine Zld ?_
 exact Z9 rfl
 exact AgainG.nil
 refine Z4 (Z5 J (oApp1 (kd:=kRaw 7) (W:=W0) (xs:=z.rd) (datT (i:Int) ((o.fFuncs.length+k:Nat):Int) (nameI o ((o.fFuncs.length+k:Nat):Int)) d y88 (A93,(boundL l i (refsD d)).length,c93)) J J J J ZP ZP datT_raw ZO J (fun g96 cp96=>?_)))
 rw [show z.rd.length+1=(z.rd++[(datT (i:Int) ((o.fFuncs.length+k:Nat):Int) (nameI o ((o.fFuncs.length+k:Nat):Int)) d y88 (A93,(boundL l i (refsD d)).length,c93))]).length by rw [List.length_append];rfl]
 refine oConv (bun_take (Ψ:=z.Ψ) (Ψ':=(datR W0 d y88++[row (Kd.int .i64) W0 3 (hV (A93,(boundL l i (refsD d)).length,c93)) (boundL l i (refsD d))])) ZQ ZP) ?_
 refine ZG ?_ J (fun w0=>?_)
 refine Z8 J J J J (fun w0=>?_) ?_
 refine Zo J ?_
 exact Z9 rfl
 exact AgainG.nil
 refine Z6 (Z3 J (Zz (n:=1) (m:=1) J J J (Zst ?_)))
 refine Zn (Zzi ?_)
 refine Zo J (Zn (Za ?_))
 exact ⟨rfl,(k+1,⟨z.Af,z.cf,z.rf,some ⟨g96,0,none⟩,cp96,z.rd++[(datT (i:Int) ((o.fFuncs.length+k:Nat):Int) (nameI o ((o.fFuncs.length+k:Nat):Int)) d y88 (A93,(boundL l i (refsD d)).length,c93))],z.Ψ++(datR W0 d y88++[row (Kd.int .i64) W0 3 (hV (A93,(boundL l i (refsD d)).length,c93)) (boundL l i (refsD d))])⟩),⟨by show k+1≤_;omega,by dsimp only;rw [List.range_succ,List.map_append,List.map_singleton,hmk,← List.append_assoc (datsTo l i) _ _];exact PR.addD hz⟩,by show o.fDatas.length-(k+1)<o.fDatas.length-k;omega,cv,Lh⟩
 obtain rfl:k=o.fDatas.length:=by omega
 have hz:z.ok (funsTo l (i+1)) (datsTo l (i+1)):=by rw [datsTo_succ];unfold fileDats;rw [hoa];exact hz
 refine Zm (Zb (Zb (Ze (fin_n ?_))))
 refine ⟨rfl,_,ResL.nil,?_⟩
 exact ⟨z,hz,rfl,Lh⟩
theorem bind_wr (l:List ApiObject) (s:ByteArray):bindR l s=if (wrongR l).1≠0 then wrongR l else if (fnd l s).2.2=false∨(symOf l (fnd l s).1 (fnd l s).2.1).fSort≠1∨1<(symOf l (fnd l s).1 (fnd l s).2.1).fKind then (15,-1,-1) else (0,0,0):=by
 unfold bindR wrongR
 split
 · rw [if_pos (by decide)]
 · split
   · next h1=>
     obtain ⟨i,o,hi,ho,hb⟩:=idxI_at h1
     rw [if_pos]
     rw [hi,Int.toNat_natCast,objAt_eq ho]
     exact of_decide_eq_true hb
   · rfl
theorem wrong_ok {l:List ApiObject}(hf:FewO l) (h:(wrongR l).1=0):OkL l:=by
 unfold wrongR at h
 split at h
 · exact absurd h (by decide)
 · split at h
   · next h1=>
     obtain ⟨i,o,hi,ho,hb⟩:=idxI_at h1
     rw [hi,Int.toNat_natCast,objAt_eq ho] at h
     exact absurd h (of_decide_eq_true hb)
   · next h1=>
     refine ⟨hf,fun o ho=>?_,h⟩
     have hn:¬ l.any badB=true:=fun h2=>h1 (idxI_iff.2 h2)
     have h3:badB o=false:=by
      cases hb:badB o with
      | false=>rfl
      | true=>exact absurd (List.any_eq_true.2 ⟨o,ho,hb⟩) hn
     exact Classical.not_not.1 (of_decide_eq_false h3)
theorem bind_Bind {B:Base}{w:World}(hS:St B [] w) (A:Option Addr) (cp:Nat) (l:List ApiObject) (hC:kApiObject.C B.e A l) (hv:∀ o ∈ l,vApiObject o) (hfew:FewO l) (s:ByteArray) (W0:World) :
 CW 18 #[.slice A l.length cp,.string s] w (Ret B (fun z:PR=>z.ok (bindP l s).fFuns (bindP l s).fDats) (fun z=>.tuple #[.agg (z.cells (bindP l s).fEntry).toArray,.agg (rejL (bindR l s)).toArray]) (fun z=>[row (kRaw 13) W0 59 (.slice z.Af z.rf.length z.cf) z.rf,row (kRaw 7) W0 64 (.slice z.Ad z.rd.length z.cd) z.rd,bun z.Ψ])):=by
 have hln:=hfew.len
 have hsm:Go.Proofs.YtafiabekcekdbaaGreatS.Small l:=⟨by omega,fun o ho=>by have:=(hfew.one hv ho).syms;omega⟩
 have hbw:=bind_wr l s
 refine ZX Tryz.func18 hS ?_
 refine Zh (Zi (oAlloc J ZP (fun b4=>?_)))
 refine oAlloc J ZP (fun b5=>?_)
 refine Zn (Za (Zh (Zh (Zi (Zo J ?_)))))
 (refine ZC0 rfl ZK (fun w hS=>frame hS ZQ (fun B' hB hS'=>bind_wrong hS' A cp l (Kd.C_grow hB hC) (fun o ho=>hfew.one hv ho) ZO)) ?_;rintro ⟨⟩ -)
 refine oAlloc J ZP (fun b6=>?_)
 refine Zsa ?_
 refine Zn (Za (Zh (Zi (Zz (n:=0) (m:=0) J J J (Zld ?_)))))
 refine Z0 J J (Zn (Za (wC (fun h17=>?_) (fun h17=>?_))))
 refine Zh (wDrawN J J (ZM (i:=0) (rs:=[1]) ZK ?_))
 refine ZA J ?_ ?_
 refine oBuild Parts.nil J J Built.nil (Z7 (ZM (i:=1) (rs:=[2]) ZK ?_))
 refine ZA J ?_ ?_
 refine Zla ?_
 refine Z7 (ZM (i:=2) (rs:=[]) ZK ?_)
 refine ZA J ?_ ?_
 refine Zsa ?_
 refine Z7 (ZM (i:=3) (rs:=[]) ZK ?_)
 refine ZA J ?_ ?_
 refine Zsa ?_
 refine Z7 (anNil ZK ?_)
 refine Za (Zl (Zc (Zw ?_)))
 refine ⟨rfl,_,(ResL.cons (by first | exact ResR.cell rfl ZP rfl | exact ResR.agg rfl ZP rfl rfl) (ResL.cons (by first | exact ResR.cell rfl ZP rfl | exact ResR.agg rfl ZP rfl rfl) ResL.nil)),?_⟩
 have hR:bindR l s=wrongR l:=by rw [hbw,if_pos h17]
 have hP:bindP l s=⟨[],[],0⟩:=by unfold bindP;rw [hR,if_neg (by first | decide | exact h17)]
 exact ⟨⟨none,0,[],none,0,[],[]⟩,by rw [hP];exact fun w _=>⟨rfl,rfl⟩,by rw [hR,hP];rfl,(Leads.nilrow.trans (bun_nil.trans (Leads.nilrow.trans Lh)))⟩
 exact ZB
 exact ZB
 refine ZA J ?_ ?_
 refine Zsa ?_
 refine Z7 (ZM (i:=1) (rs:=[]) ZK ?_)
 refine ZA J ?_ ?_
 refine Zla ?_
 refine Z7 (ZM (i:=3) (rs:=[]) ZK ?_)
 refine ZA J ?_ ?_
 refine Zsa ?_
 refine Z7 (anNil ZK ?_)
 refine Za (Zl (Zc (Zw ?_)))
 refine ⟨rfl,_,(ResL.cons (by first | exact ResR.cell rfl ZP rfl | exact ResR.agg rfl ZP rfl rfl) (ResL.cons (by first | exact ResR.cell rfl ZP rfl | exact ResR.agg rfl ZP rfl rfl) ResL.nil)),?_⟩
 have hR:bindR l s=wrongR l:=by rw [hbw,if_pos h17]
 have hP:bindP l s=⟨[],[],0⟩:=by unfold bindP;rw [hR,if_neg (by first | decide | exact h17)]
 exact ⟨⟨none,0,[],none,0,[],[]⟩,by rw [hP];exact fun w _=>⟨rfl,rfl⟩,by rw [hR,hP];rfl,(Leads.nilrow.trans (bun_nil.trans (Leads.nilrow.trans Lh)))⟩
 exact ZB
 exact ZB
 exact ZB
 refine ZA J ?_ ?_
 refine Zla ?_
 refine Z7 (ZM (i:=0) (rs:=[]) ZK ?_)
 refine ZA J ?_ ?_
 refine oBuild Parts.nil J J Built.nil (Z7 (ZM (i:=2) (rs:=[]) ZK ?_))
 refine ZA J ?_ ?_
 refine Zsa ?_
 refine Z7 (ZM (i:=3) (rs:=[]) ZK ?_)
 refine ZA J ?_ ?_
 refine Zsa ?_
 refine Z7 (anNil ZK ?_)
 refine Za (Zl (Zc (Zw ?_)))
 refine ⟨rfl,_,(ResL.cons (by first | exact ResR.cell rfl ZP rfl | exact ResR.agg rfl ZP rfl rfl) (ResL.cons (by first | exact ResR.cell rfl ZP rfl | exact ResR.agg rfl ZP rfl rfl) ResL.nil)),?_⟩
 have hR:bindR l s=wrongR l:=by rw [hbw,if_pos h17]
 have hP:bindP l s=⟨[],[],0⟩:=by unfold bindP;rw [hR,if_neg (by first | decide | exact h17)]
 exact ⟨⟨none,0,[],none,0,[],[]⟩,by rw [hP];exact fun w _=>⟨rfl,rfl⟩,by rw [hR,hP];rfl,(Leads.nilrow.trans (bun_nil.trans (Leads.nilrow.trans Lh)))⟩
 exact ZB
 exact ZB
 exact ZB
 exact ZB
 have hok:OkL l:=wrong_ok hfew (Classical.not_not.1 h17)
 rw [if_neg h17] at hbw
 refine Zj (Zzv ?_)
 (refine ZC0 rfl ZK (fun w hS=>frame hS ZQ (fun B' hB hS'=>Go.Proofs.YtafiabekcekdbaaGreatS.find_any hS' A cp l s (Kd.C_grow hB hC) hsm)) ?_;rintro ⟨⟩ -)
 rw [show ((((Go.Proofs.YtafiabekcekdbaaGreatS.firstOf l s).getD (0,0)).1:Nat):Int)=(fnd l s).1 by rw [fnd_eq];cases Go.Proofs.YtafiabekcekdbaaGreatS.firstOf l s <;> rfl,show ((((Go.Proofs.YtafiabekcekdbaaGreatS.firstOf l s).getD (0,0)).2:Nat):Int)=(fnd l s).2.1 by rw [fnd_eq];cases Go.Proofs.YtafiabekcekdbaaGreatS.firstOf l s <;> rfl,show (Go.Proofs.YtafiabekcekdbaaGreatS.firstOf l s).isSome=(fnd l s).2.2 by rw [fnd_eq];cases Go.Proofs.YtafiabekcekdbaaGreatS.firstOf l s <;> rfl]
 refine Zo J (oExt J ZP ?_)
 refine oExt J ZP ?_
 refine oExt J ZP ?_
 refine Zp J (Zp J (Zp J (Zn (Za (Zh (Zh (Zi (Zo J (Zno ?_)))))))))
 refine Zo J (ZS (ZT 29) (fun h29=>?_) (fun h29=>?_))
 refine Zr J J J J (Zr J J J J (Zr J J J J (Zr J J J J (Zr J J J J (Zr J J J J (Zr J J J J (Zr J J J J (Zr J J J J (Zr J J J J (Zt J J (Zo J (Zr J J J J (Zr J J J J (Zr J J J J (Zr J J J J (Zr J J J J (Zr J J J J (Zr J J J J (Zr J J J J (Zr J J J J (Zr J J J J (Zt J J (Zn (Za (wCondT J (Zh (Zi (oBuild Parts.nil J J Built.nil (oBuild (Parts.cons J (Parts.cons J (Parts.cons J Parts.nil))) J J (Built.cons (off:=0) (s:=1) J ZP J ZP (Built.cons (off:=1) (s:=1) J ZP J ZP (Built.cons (off:=2) (s:=1) J ZP J ZP Built.nil))) ?_)))))))))))))))))))))))))))))
 refine Zsa ?_
 refine Zsa ?_
 refine Zn (Za (Zl (Zc (Zw ?_))))
 refine ⟨rfl,_,(ResL.cons (by first | exact ResR.cell rfl ZP rfl | exact ResR.agg rfl ZP rfl rfl) (ResL.cons (by first | exact ResR.cell rfl ZP rfl | exact ResR.agg rfl ZP rfl rfl) ResL.nil)),?_⟩
 have hR:bindR l s=(15,-1,-1):=by rw [hbw,if_pos (.inl (by simpa using h29))]
 have hP:bindP l s=⟨[],[],0⟩:=by unfold bindP;rw [hR,if_neg (by first | decide | exact absurd rfl)]
 exact ⟨⟨none,0,[],none,0,[],[]⟩,by rw [hP];exact fun w _=>⟨rfl,rfl⟩,by rw [hR,hP];rfl,(Leads.nilrow.trans (bun_nil.trans (Leads.nilrow.trans Lh)))⟩
 obtain ⟨i,k,o,x,hfe,ho,hx,hgx⟩:=fnd_some (show (fnd l s).2.2=true by simpa using h29)
 have hso:=symOf_eq ho hx
 have hil:=(List.getElem?_eq_some_iff.1 ho).1
 have hkl:=(List.getElem?_eq_some_iff.1 hx).1
 obtain ⟨e3,cs3,hE3⟩:=hC.elm ho
 obtain ⟨C0,f0,C1,f1,C2,f2,rfl,n0,r0,n1,r1,n2,r2⟩:=kApiObject_open hE3.K
 obtain ⟨e4,cs4,hE4⟩:=r0.elm hx
 obtain rfl:=kApiSymbol_open hE4.K
 rw [hfe] at hbw ⊢
 dsimp only at hbw ⊢
 rw [hso] at hbw
 refine Zq J J (Zo J (Zq J J (Zo J (Zq J J (oIdxE J J (hE3) ZO J J ?_)))))
 have hc32:=(hE3).cell
 refine Zq J J (ZF (ZT 0) (ZT 0) ?_)
 refine Zq J J (Zlx hc32 ?_)
 refine Zq J J (Zo J (Zq J J (oIdxE J J (hE4) ZO J J ?_)))
 have hc36:=(hE4).cell
 refine Zq J J (ZF (ZT 2) (ZT 2) ?_)
 refine Zq J J (Zlx hc36 ?_)
 refine Zq J J (Z0 J J (Zu J J (Zo J (ZS (ZT 41) (fun h41=>?_) (fun h41=>?_)))))
 refine Zr J J J J (Zr J J J J (Zr J J J J (Zr J J J J (Zr J J J J (Zr J J J J (Zr J J J J (Zr J J J J (Zr J J J J (Zr J J J J (Zt J J (Zn (Za (wCondT J (Zh (Zi (oBuild Parts.nil J J Built.nil (oBuild (Parts.cons J (Parts.cons J (Parts.cons J Parts.nil))) J J (Built.cons (off:=0) (s:=1) J ZP J ZP (Built.cons (off:=1) (s:=1) J ZP J ZP (Built.cons (off:=2) (s:=1) J ZP J ZP Built.nil))) ?_)))))))))))))))))
 refine Zsa ?_
 refine Zsa ?_
 refine Zn (Za (Zl (Zc (Zw ?_))))
 refine ⟨rfl,_,(ResL.cons (by first | exact ResR.cell rfl ZP rfl | exact ResR.agg rfl ZP rfl rfl) (ResL.cons (by first | exact ResR.cell rfl ZP rfl | exact ResR.agg rfl ZP rfl rfl) ResL.nil)),?_⟩
 have hR:bindR l s=(15,-1,-1):=by rw [hbw,if_pos ZO]
 have hP:bindP l s=⟨[],[],0⟩:=by unfold bindP;rw [hR,if_neg (by first | decide | exact absurd rfl)]
 exact ⟨⟨none,0,[],none,0,[],[]⟩,by rw [hP];exact fun w _=>⟨rfl,rfl⟩,by rw [hR,hP];rfl,(Leads.nilrow.trans (bun_nil.trans (Leads.nilrow.trans Lh)))⟩
 refine Zq J J (Zo J (Zq J J (Zo J (Zq J J (oIdxE J J (hE3) ZO J J ?_)))))
 have hc44:=(hE3).cell
 refine Zq J J (ZF (ZT 0) (ZT 0) ?_)
 refine Zq J J (Zlx hc44 ?_)
 refine Zq J J (Zo J (Zq J J (oIdxE J J (hE4) ZO J J ?_)))
 have hc48:=(hE4).cell
 refine Zq J J (ZF (ZT 3) (ZT 3) ?_)
 refine Zq J J (Zlx hc48 ?_)
 refine Zq J J (Z1 J J (Zu J J (Zn (Za (wC (fun h52=>?_) (fun h52=>?_))))))
 refine Zh (Zi (oBuild Parts.nil J J Built.nil (oBuild (Parts.cons J (Parts.cons J (Parts.cons J Parts.nil))) J J (Built.cons (off:=0) (s:=1) J ZP J ZP (Built.cons (off:=1) (s:=1) J ZP J ZP (Built.cons (off:=2) (s:=1) J ZP J ZP Built.nil))) ?_)))
 refine Zsa ?_
 refine Zsa ?_
 refine Zn (Za (Zl (Zc (Zw ?_))))
 refine ⟨rfl,_,(ResL.cons (by first | exact ResR.cell rfl ZP rfl | exact ResR.agg rfl ZP rfl rfl) (ResL.cons (by first | exact ResR.cell rfl ZP rfl | exact ResR.agg rfl ZP rfl rfl) ResL.nil)),?_⟩
 have hR:bindR l s=(15,-1,-1):=by rw [hbw,if_pos ZO]
 have hP:bindP l s=⟨[],[],0⟩:=by unfold bindP;rw [hR,if_neg (by first | decide | exact absurd rfl)]
 exact ⟨⟨none,0,[],none,0,[],[]⟩,by rw [hP];exact fun w _=>⟨rfl,rfl⟩,by rw [hR,hP];rfl,(Leads.nilrow.trans (bun_nil.trans (Leads.nilrow.trans Lh)))⟩
 have hR:bindR l s=(0,0,0):=by rw [hbw,if_neg (by simp;omega)]
 refine Zj (Za (Zh (Zi (oAlloc J ZP (fun b10=>?_)))))
 refine Zn (Zzm ?_)
 (refine ZC0 rfl ZK (fun w hS=>frame hS ZQ (fun B' hB hS'=>bind_number hS' A cp l (Kd.C_grow hB hC) hfew)) ?_;rintro ⟨b13,b11⟩ -)
 refine Zp J (Zn (Za (Zh (Zh (Zi (Zo J (Zv J J (Zo J (Zn (Za (Zk (wLoop (ι:=Nat×PR) (fun x=>[(0,.slice A l.length cp),(1,.string s),(4,.pointer (some ⟨b4,0,none⟩)),(5,.pointer (some ⟨b5,0,none⟩)),(7,.int .i64 (i:Int)),(8,.int .i64 (k:Int)),(10,.pointer (some ⟨b10,0,none⟩)),(11,.pointer (some ⟨b13,0,none⟩)),(58,.int .i64 (l.length:Int)),(59,.int .i64 (x.1:Int))]) (fun x=>[blk b4 43 [.slice none 0 0,.slice none 0 0,.int .i64 0],blk b5 45 [.int .i64 0,.int .i64 0,.int .i64 0],blk b13 119 [.slice A l.length cp,.map (some b11)],kmap itemV (Value.int .i64) b11 (numM l l.length 0 0),blk b10 43 (x.2.cells 0),row (kRaw 13) W0 59 (.slice x.2.Af x.2.rf.length x.2.cf) x.2.rf,row (kRaw 7) W0 64 (.slice x.2.Ad x.2.rd.length x.2.cd) x.2.rd,bun x.2.Ψ]) (fun x=>x.1≤l.length∧x.2.ok (funsTo l x.1) (datsTo l x.1)) (fun x=>l.length-x.1) (0,⟨none,0,[],none,0,[],[]⟩) ?_ cv (Leads.nilrow.trans (bun_nil.trans (Leads.nilrow.trans Lh))) ?_))))))))))))
 exact ⟨Nat.zero_le _,fun w _=>⟨rfl,rfl⟩⟩
 rintro ⟨j,z⟩ ⟨hj,hz⟩
 dsimp only at hj hz
 try dsimp only
 refine Zh (Zi (Zx J J (Zn (Za (Zh (wC (fun h60=>?_) (fun h60=>?_)))))))
 obtain ⟨o2,ho2⟩:∃ o,l[j]?=some o:=⟨_,List.getElem?_eq_getElem ZO⟩
 refine Zj (Za (Zh (Zk (Zh (Zi (Zo J (Zp J (Zn (Za (Zi (Zo J (Zo J ?_))))))))))))
 (refine ZC0 rfl ZK (fun w hS=>frame hS ZQ (fun B' hB hS'=>binder_file A cp l b13 b11 b10 z W0 hS' (Kd.C_grow hB hC) hv hok j o2 ho2 hz)) ?_;rintro z' hz')
 refine Zn (Zzi ?_)
 refine Zo J (Zn (Za ?_))
 exact ⟨rfl,(j+1,z'),⟨by show j+1≤_;omega,hz'⟩,by show l.length-(j+1)<l.length-j;omega,cv,Lh⟩
 obtain rfl:j=l.length:=by omega
 obtain ⟨i2,k2,o2,y,hb,ho2,hy,h1,h2⟩:=hok.bnd ho hkl
 refine Zm (Zb (Zb (Ze (Za (Zh (Zi (Zo J (Zo J (Zo J ?_)))))))))
 (refine ZC0 rfl ZK (fun w hS=>frame hS ZQ (fun B' hB hS'=>binder_of A cp l b13 b11 hS' (Kd.C_grow hB hC) hsm i k i2 k2 o2 y hb ho2 hy (sym_sort ((obj_zero (hok.objs o2 (List.mem_of_getElem? ho2))).2.1 k2 (List.getElem?_eq_some_iff.1 hy).1) hy) h1 h2)) ?_;rintro ⟨⟩ -)
 refine Zz (n:=2) (m:=2) J J J (Zst ?_)
 refine Zn (Za (Zzs ?_))
 refine oBuild Parts.nil J J Built.nil (Zsa ?_)
 refine Zsa ?_
 refine Zn (Za (Zl (Zw ?_)))
 refine ⟨rfl,_,(ResL.cons (by first | exact ResR.cell rfl ZP rfl | exact ResR.agg rfl ZP rfl rfl) (ResL.cons (by first | exact ResR.cell rfl ZP rfl | exact ResR.agg rfl ZP rfl rfl) ResL.nil)),?_⟩
 have hP:bindP l s=⟨funsTo l l.length,datsTo l l.length,numberF l i k⟩:=by unfold bindP;rw [hR,if_pos rfl,hfe]
 exact ⟨z,by rw [hP];exact hz,by rw [hR,hP];rfl,Lh⟩
def isF (file item:Int) (f:ApiFun):Bool:=decide (f.fFile=file) && decide (f.fItem=item)
def funN (p:ApiProgram) (file item:Int):Int:=idxI (isF file item) p.fFuns
def ovr (l most:List Int) (i:Nat):Bool:=decide (0≤most.getD i 0) && decide (most.getD i 0≤l.getD i 0)
def refsE (l most:List Int):Int:=if l.length≠most.length∨l.any (fun n=>decide (n < -1))=true then 2 else if (List.range l.length).any (ovr l most)=true then 9 else 0
def mostI (p:ApiProgram) (o:Int):Int:=if needF o=0 then -1 else if needF o=3∨needF o=4 then (p.fDats.length:Int) else (p.fFuns.length:Int)
def mostF (p:ApiProgram) (f:ApiFun):List Int:=f.fF.fCode.map fun x=>mostI p x.fOp
def mostD (p:ApiProgram) (d:ApiDat):List Int:=d.fD.fWords.map fun _=>(p.fFuns.length:Int)
def funsE (p:ApiProgram):List Int:=p.fFuns.map fun f=>refsE f.fRefs (mostF p f)
def datsE (p:ApiProgram):List Int:=p.fDats.map fun d=>refsE d.fRefs (mostD p d)
def progE (p:ApiProgram):Int:=if p.fEntry<0∨(p.fFuns.length:Int)≤p.fEntry then 2 else if fstE (funsE p)≠0 then fstE (funsE p) else fstE (datsE p)
theorem mapG {α:Type}{e:α→Int}{l:List α}{i:Nat}{x:α}(h:l[i]?=some x):(l.map e).getD i 0=e x:=by rw [List.getD_eq_getElem?_getD,List.getElem?_map,h];rfl
theorem mapA {α β:Type}{e:α→β}{l:List α}{i:Nat}{x:α}(h:l[i]?=some x):(l.map e)[i]?=some (e x):=by rw [List.getElem?_map,h];rfl
theorem mapT {α β:Type}{e:α→β}{l:List α}{i:Nat}{x:α}(h:l[i]?=some x):(l.map e).take (i+1)=(l.map e).take i++[e x]:=by rw [List.take_add_one,mapA h];rfl
theorem getG {l:List Int}{i:Nat}{x:Int}(h:l[i]?=some x):l.getD i 0=x:=by rw [List.getD_eq_getElem?_getD,h];rfl
theorem indexFunc_fun {B:Base}{w:World}{R1 R2:Res}(hS:St B [R1,R2] w) (l:List ApiFun) (A:Option Addr) (cp:Nat) (hC:kApiFun.C B.e A l) (gf:Nat) (lb:Array Value) (p:ApiFun→Bool) (hg:goodF Tryz.prog gf=true)
 (hh:∀ B' w (x:ApiFun) (xc:List Value),Grow B.e B'.e→kApiFun.K B'.e x xc→St B' [R1,R2] w→CW gf (#[]++[Value.agg xc.toArray].toArray++lb) w (Ret B' (fun _:Unit=>True) (fun _=>.bool (p x)) (fun _=>[R1,R2]))) :
 CW 51 #[.slice A l.length cp,.func (.func gf) #[] lb] w (Ret B (fun _:Unit=>True) (fun _=>.int .i64 (idxI p l)) (fun _=>[R1,R2])):=by
 have hl:=hC.1
 refine ZX Tryz.func51 hS ?_
 refine Zh (Zi (Zp J (Zn (Za (Zh (Zh (Zi (Zo J (Zv J J (Zo J (Zn (Za (Zk (wLoop (ι:=Nat) (fun i=>[(0,.slice A l.length cp),(1,.func (.func gf) #[] lb),(7,.int .i64 (l.length:Int)),(8,.int .i64 (i:Int))]) (fun i=>[R1,R2]) (fun i=>i≤l.length∧∀ y ∈ l.take i,p y=false) (fun i=>l.length-i) 0 ?_ cv (Leads.has ZQ) ?_))))))))))))))
 exact ⟨Nat.zero_le _,by simp⟩
 rintro i ⟨hi,hs⟩
 try dsimp only
 refine Zh (Zi (Zx J J (Zn (Za (Zh (wC (fun h9=>?_) (fun h9=>?_)))))))
 obtain ⟨f,hx⟩:∃ x,l[i]?=some x:=⟨_,List.getElem?_eq_getElem ZO⟩
 obtain ⟨e1,cs1,hE⟩:=hC.elm hx
 have hfK:=hE.K
 obtain ⟨F0,f0,F1,f1,F2,f2,F3,f3,F4,f4,rfl,n0,r0,n1,r1,n2,r2,n3,r3,n4,r4⟩:=kApiFun_open hE.K
 refine Zj (Za (Zh (Zk (Zh (Zi (Zo J (Zp J (Zn (Za (Zh (Zi (Zo J (Zo J (Zo J (oIdxE J J (hE) ZO J J ?_)))))))))))))))
 have hc14:=(hE).cell
 refine Zlx hc14 ?_
 (refine oCallV rfl rfl rfl hg (fun w hS=>frame hS ZQ (fun B' hB hS'=>hh B' w f _ hB (kApiFun.K_grow hB hfK) hS')) ?_;rintro ⟨⟩ -)
 refine Zn (Za (wC (fun h16=>?_) (fun h16=>?_)))
 refine Zh (Zzz ?_)
 exact ⟨(),trivial,by rw [idxI_stop hs hx (by simpa using h16)];rfl,Lh⟩
 refine Zj (Zzi ?_)
 refine Zo J (Zn (Za ?_))
 exact ⟨rfl,i+1,⟨by omega,take_not hs hx (by simpa using h16)⟩,by omega,cv,Lh⟩
 refine Zm (Zzg ?_)
 obtain rfl:i=l.length:=by omega
 rw [List.take_length] at hs
 exact ⟨(),trivial,by rw [idxI_none hs];rfl,Lh⟩
theorem bind_Fun1 {B:Base}{w:World}{b4 b5:Nat}{file item:Int}(hS:St B [blk b4 3 [.int .i64 file],blk b5 3 [.int .i64 item]] w) (f:ApiFun) (fc:List Value) (hf:kApiFun.K B.e f fc) :
 CW 52 #[.agg fc.toArray,.pointer (some ⟨b4,0,none⟩),.pointer (some ⟨b5,0,none⟩)] w (Ret B (fun _:Unit=>True) (fun _=>.bool (isF file item f)) (fun _=>[blk b4 3 [.int .i64 file],blk b5 3 [.int .i64 item]])):=by
 obtain ⟨F0,f0,F1,f1,F2,f2,F3,f3,F4,f4,rfl,n0,r0,n1,r1,n2,r2,n3,r3,n4,r4⟩:=kApiFun_open hf
 refine ZX Tryz.func52 hS ?_
 refine Zh (Zi (oBox J ZP (fun b3=>?_)))
 refine Zp J (Zn (Za (Zh (Zi (Zz (n:=0) (m:=0) J J J (Zld ?_))))))
 refine Zld ?_
 refine Zy J J (Zo J (ZS (ZT 9) (fun h9=>?_) (fun h9=>?_)))
 refine Zq J J (Zz (n:=1) (m:=1) J J J (Zzf ?_))
 refine Zq J J (Zld ?_)
 refine Zq J J (Zy J J (Zt J J (Zza ?_)))
 exact ⟨(),trivial,by unfold isF;simp [resVal,show f.fFile=file from h9],Lh⟩
 refine Zr J J J J (Zr J J J J (Zzp ?_))
 exact ⟨(),trivial,by unfold isF;simp [resVal,show ¬ f.fFile=file from h9],Lh⟩
theorem bind_Fun {B:Base}{w:World}(hS:St B [] w) (p:ApiProgram) (pc:List Value) (hp:kApiProgram.K B.e p pc) (file item:Int) :
 CW 21 #[.agg pc.toArray,.int .i64 file,.int .i64 item] w (Ret B (fun _:Unit=>True) (fun _=>.int .i64 (funN p file item)) (fun _=>[])):=by
 obtain ⟨A0,c0,A1,c1,rfl,m0,q0,m1,q1⟩:=kApiProgram_open hp
 refine ZX Tryz.func21 hS ?_
 refine Zh (Zi (oBox J ZP (fun b3=>?_)))
 refine oBox J ZP (fun b4=>?_)
 refine oBox J ZP (fun b5=>?_)
 refine Zp J (Zn (Za (Zh (Zi (Zz (n:=0) (m:=0) J J J (Zld ?_))))))
 refine oMakeFunc J ?_
 (refine ZC0 rfl ZK (fun w hS=>frame hS ZQ (fun B' hB hS'=>indexFunc_fun hS' p.fFuns A0 c0 (Kd.C_grow hB q0) 52 #[.pointer (some ⟨b4,0,none⟩),.pointer (some ⟨b5,0,none⟩)] (isF file item) ZK (fun B2 w2 x xc hB2 hxK hS2=>bind_Fun1 hS2 x xc hxK))) ?_;rintro ⟨⟩ -)
 refine Zp J (Zzk ?_)
 exact ⟨(),trivial,rfl,Lh⟩
theorem ref24_Fun {B:Base}{w:World}(hS:St B [] w) (p:ApiProgram) (pc:List Value) (hp:kApiProgram.K B.e p pc) (file item:Int) :
 CW 22 #[.agg pc.toArray,.int .i64 file,.int .i64 item] w (Ret B (fun _:Unit=>True) (fun _=>.int .i64 (funN p file item)) (fun _=>[])):=by
 obtain ⟨A0,c0,A1,c1,rfl,m0,q0,m1,q1⟩:=kApiProgram_open hp
 have hl:=q0.1
 refine ZX Tryz.func22 hS ?_
 refine Zh (Zi (oBox J ZP (fun b3=>?_)))
 refine Zp J (Zn (Za (Zh (Zh (Zi (Zp J (Zn (Za (Zk (wLoop (ι:=Nat) (fun i=>[(1,.int .i64 file),(2,.int .i64 item),(3,.pointer (some ⟨b3,0,none⟩)),(7,.int .i64 (i:Int))]) (fun i=>[blk b3 43 (pcL p A0 c0 A1 c1)]) (fun i=>i≤p.fFuns.length∧∀ y ∈ p.fFuns.take i,isF file item y=false) (fun i=>p.fFuns.length-i) 0 ?_ cv (Leads.has ZQ) ?_))))))))))
 exact ⟨Nat.zero_le _,by simp⟩
 rintro i ⟨hi,hs⟩
 try dsimp only
 refine Zh (Zh (Zi (Zo J (Zz (n:=0) (m:=0) J J J (Zld ?_)))))
 refine Zv J J (Zx J J (Zn (Za (wC (fun h12=>?_) (fun h12=>?_)))))
 obtain ⟨f,hx⟩:∃ x,p.fFuns[i]?=some x:=⟨_,List.getElem?_eq_getElem ZO⟩
 obtain ⟨e1,cs1,hE⟩:=q0.elm hx
 obtain ⟨F0,f0,F1,f1,F2,f2,F3,f3,F4,f4,rfl,n0,r0,n1,r1,n2,r2,n3,r3,n4,r4⟩:=kApiFun_open hE.K
 refine Zj (Za (Zh (Zk (Zh (Zi (Zz (n:=0) (m:=0) J J J (Zld ?_)))))))
 refine Zo J (oIdxE J J (hE) ZO J J ?_)
 have hc18:=(hE).cell
 refine ZF (ZT 0) (ZT 0) ?_
 refine Zlx hc18 ?_
 refine Zo J (Zy J J (Zo J (ZS (ZT 23) (fun h23=>?_) (fun h23=>?_))))
 refine Zq J J (Zz (n:=0) (m:=0) J J J (Zzf ?_))
 refine Zq J J (Zo J (Zq J J (oIdxE J J (hE) ZO J J ?_)))
 have hc27:=(hE).cell
 refine Zq J J (ZF (ZT 1) (ZT 1) ?_)
 refine Zq J J (Zlx hc27 ?_)
 refine Zq J J (Zo J (Zq J J (Zy J J (Zt J J (Zn (Za (wC (fun h32=>?_) (fun h32=>?_))))))))
 refine Zh (Zzz ?_)
 exact ⟨(),trivial,by unfold funN;rw [idxI_stop hs hx (by unfold isF;simp_all)];rfl,Lh⟩
 refine Zj (Zze ?_)
 refine Zp J (Zn (Za ?_))
 exact ⟨rfl,i+1,⟨by omega,take_not hs hx (by unfold isF;simp_all)⟩,by omega,cv,Lh⟩
 refine Zr J J J J (Zr J J J J (Zr J J J J (Zr J J J J (Zr J J J J (Zr J J J J (Zr J J J J (Zr J J J J (Zu J J (Zn (Za (wCondF J (Zj (Zze ?_)))))))))))))
 refine Zp J (Zn (Za ?_))
 exact ⟨rfl,i+1,⟨by omega,take_not hs hx (by unfold isF;simp_all)⟩,by omega,cv,Lh⟩
 refine Zm (Zzg ?_)
 obtain rfl:i=p.fFuns.length:=by omega
 rw [List.take_length] at hs
 exact ⟨(),trivial,by unfold funN;rw [idxI_none hs];rfl,Lh⟩
theorem bind_neg {B:Base}{w:World}{R:Res}(hS:St B [R] w) (x:Int) :
 CW 93 #[.int .i64 x] w (Ret B (fun _:Unit=>True) (fun _=>.bool (decide (x < -1))) (fun _=>[R])):=by
 refine ZX Tryz.func93 hS ?_
 refine Zh (Zi (Zp J (Zn (Za (Zh (Zi (Zo J (Zx J J (Zza ?_)))))))))
 exact ⟨(),trivial,rfl,Lh⟩
theorem bind_refs {B:Base}{w:World}{R:Res}(hS:St B [R] w) (l:List Int) (A:Option Addr) (cp:Nat) (hC:(Kd.int .i64).C B.e A l) (most:List Int) (n:Int) (hn:n=(most.length:Int)) (gf:Nat) (lb:Array Value) (hg:goodF Tryz.prog gf=true)
 (hh:∀ B' w (i:Nat),Grow B.e B'.e→i<most.length→St B' [R] w→CW gf (#[]++[Value.int .i64 (i:Int)].toArray++lb) w (Ret B' (fun _:Unit=>True) (fun _=>.int .i64 (most.getD i 0)) (fun _=>[R]))) :
 CW 53 #[.slice A l.length cp,.int .i64 n,.func (.func gf) #[] lb] w (Ret B (fun _:Unit=>True) (fun _=>.int .i64 (refsE l most)) (fun _=>[R])):=by
 subst hn
 have hl:=hC.1
 refine ZX Tryz.func53 hS ?_
 refine Zh (Zi (Zp J (Zn (Za (Zh (Zh (Zi (Zo J (Zv J J (Zo J (Z0 J J (Zo J (ZS (ZT 14) (fun h14=>?_) (fun h14=>?_))))))))))))))
 refine Zr J J J J (Zr J J J J (Zt J J (Zn (Za (wCondT J (Zh (Zi (Zzc ?_))))))))
 exact ⟨(),trivial,by unfold refsE;rw [if_pos (.inl ZO)];rfl,Lh⟩
 refine Zq J J (Zo J (Zq J J ?_))
 (refine ZC0 rfl ZK (fun w hS=>frame hS ZQ (fun B' hB hS'=>Go.Proofs.YtafiabekcekdbaaGreatV.containsFunc_int hS' l A cp (Kd.C_grow hB hC) 93 #[] (fun n=>decide (n < -1)) ZK (fun B2 w2 x hB2 hx hS2=>bind_neg hS2 x))) ?_;rintro ⟨⟩ -)
 refine Zu J J (Zn (Za (wC (fun h17=>?_) (fun h17=>?_))))
 refine Zh (Zi (Zzc ?_))
 exact ⟨(),trivial,by unfold refsE;rw [if_pos (.inr h17)];rfl,Lh⟩
 have hn2:¬ (l.length≠most.length∨l.any (fun n=>decide (n < -1))=true):=by rintro (a | a);exact a ZO;rw [h17] at a;cases a
 refine Zj (Za (Zh (Zh (Zi (Zo J (Zv J J (Zo J (Zn (Za (Zk (wLoop (ι:=Nat) (fun i=>[(2,.func (.func gf) #[] lb),(18,.slice A l.length cp),(19,.int .i64 (l.length:Int)),(20,.int .i64 (i:Int))]) (fun i=>[R]) (fun i=>i≤l.length∧∀ j,j<i→ovr l most j=false) (fun i=>l.length-i) 0 ?_ cv (Leads.has ZQ) ?_)))))))))))
 exact ⟨Nat.zero_le _,fun j hj=>by omega⟩
 rintro i ⟨hi,hs⟩
 try dsimp only
 refine Zh (Zi (Zx J J (Zn (Za (Zh (wC (fun h21=>?_) (fun h21=>?_)))))))
 obtain ⟨x,hx⟩:∃ x,l[i]?=some x:=⟨_,List.getElem?_eq_getElem ZO⟩
 obtain ⟨e1,cs1,hE⟩:=hC.elm hx
 obtain rfl:=(show cs1=[Value.int .i64 x] from hE.K)
 have hov:ovr l most i=(decide (0≤most.getD i 0) && decide (most.getD i 0≤x)):=by unfold ovr;rw [getG hx]
 refine Zj (Za (Zh (Zk (Zh (Zi (Zo J (oIdxE J J (hE) ZO J J ?_)))))))
 have hc23:=(hE).cell
 refine Zlx hc23 ?_
 refine Zp J (Zp J (Zn (Zzv ?_)))
 (refine oCallV rfl rfl rfl hg (fun w hS=>frame hS ZQ (fun B' hB hS'=>hh B' w i hB ZO hS')) ?_;rintro ⟨⟩ -)
 refine Zp J (Zn (Za (Zh (Zi (Zo J (Z2 J J (Zo J (ZS (ZT 30) (fun h30=>?_) (fun h30=>?_)))))))))
 refine Zq J J (Zo J (Zq J J (Zo J (Zq J J (Z2 J J (Zt J J (Zn (Za (wC (fun h34=>?_) (fun h34=>?_))))))))))
 refine Zh (Zi (Zzb ?_))
 exact ⟨(),trivial,by unfold refsE;rw [if_neg hn2,if_pos (List.any_eq_true.2 ⟨i,List.mem_range.2 ZO,by rw [hov,Bool.and_eq_true,decide_eq_true_eq,decide_eq_true_eq];omega⟩)];rfl,Lh⟩
 refine Zj (Zzi ?_)
 refine Zo J (Zn (Za ?_))
 exact ⟨rfl,i+1,⟨by omega,fun j hj=>by
 by_cases e:j=i
 · subst e;rw [hov,Bool.and_eq_false_iff,decide_eq_false_iff_not,decide_eq_false_iff_not];omega
 · exact hs j ZO⟩,by omega,cv,Lh⟩
 refine Zr J J J J (Zr J J J J (Zr J J J J (Zu J J (Zn (Za (wCondF J (Zj (Zzi ?_))))))))
 refine Zo J (Zn (Za ?_))
 exact ⟨rfl,i+1,⟨by omega,fun j hj=>by
 by_cases e:j=i
 · subst e;rw [hov,Bool.and_eq_false_iff,decide_eq_false_iff_not,decide_eq_false_iff_not];omega
 · exact hs j ZO⟩,by omega,cv,Lh⟩
 refine Zm (Zzg ?_)
 obtain rfl:i=l.length:=by omega
 exact ⟨(),trivial,by unfold refsE;rw [if_neg hn2,if_neg (by intro h;obtain ⟨j,hj,hh⟩:=List.any_eq_true.1 h;rw [hs j (List.mem_range.1 hj)] at hh;cases hh)];rfl,Lh⟩
theorem bind_refs2 {B:Base}{w:World}{R1 R2:Res}(hS:St B [R1,R2] w) (l:List Int) (A:Option Addr) (cp:Nat) (hC:(Kd.int .i64).C B.e A l) (most:List Int) (n:Int) (hn:n=(most.length:Int)) (gf:Nat) (lb:Array Value) (hg:goodF Tryz.prog gf=true)
 (hh:∀ B' w (i:Nat),Grow B.e B'.e→i<most.length→St B' [R1,R2] w→CW gf (#[]++[Value.int .i64 (i:Int)].toArray++lb) w (Ret B' (fun _:Unit=>True) (fun _=>.int .i64 (most.getD i 0)) (fun _=>[R1,R2]))) :
 CW 53 #[.slice A l.length cp,.int .i64 n,.func (.func gf) #[] lb] w (Ret B (fun _:Unit=>True) (fun _=>.int .i64 (refsE l most)) (fun _=>[R1,R2])):=by
 refine (bind_refs (R:=bun [R1,R2]) (St.pack (Ψ:=[R1,R2]) hS) l A cp hC most n hn gf lb hg (fun B' w' i hB hi hS'=>(hh B' w' i hB hi hS'.unpack).mono ?_)).mono ?_
 · rintro e w2 ⟨i,hi,he,hw⟩
   exact ⟨i,hi,he,St.pack (Ψ:=[R1,R2]) hw⟩
 · rintro e w2 ⟨i,hi,he,hw⟩
   exact ⟨i,hi,he,hw.unpack⟩
theorem ref24_refs {B:Base}{w:World}(hS:St B [] w) (l:List Int) (A:Option Addr) (cp:Nat) (hC:(Kd.int .i64).C B.e A l) (most:List Int) (A1:Option Addr) (cp1:Nat) (hC1:(Kd.int .i64).C B.e A1 most) :
 CW 58 #[.slice A l.length cp,.slice A1 most.length cp1] w (Ret B (fun _:Unit=>True) (fun _=>.int .i64 (refsE l most)) (fun _=>[])):=by
 have hl:=hC.1
 refine ZX Tryz.func58 hS ?_
 refine Zh (Zi (Zp J (Zn (Za (Zh (Zh (Zi (Zo J (Zv J J (Zo J (Zv J J (Z0 J J (Zn (Za (wC (fun h11=>?_) (fun h11=>?_))))))))))))))))
 refine Zh (Zi (Zzc ?_))
 exact ⟨(),trivial,by unfold refsE;rw [if_pos (.inl ZO)];rfl,Lh⟩
 refine Zj (Za (Zh (Zh (Zi (Zp J (Zn (Za (Zk (wLoop (ι:=Nat) (fun i=>[(0,.slice A l.length cp),(1,.slice A1 most.length cp1),(5,.int .i64 (i:Int))]) (fun i=>[]) (fun i=>i≤l.length∧∀ y ∈ l.take i,decide (y < -1)=false) (fun i=>l.length-i) 0 ?_ cv (Leads.has ZQ) ?_)))))))))
 exact ⟨Nat.zero_le _,by simp⟩
 rintro i ⟨hi,hs⟩
 try dsimp only
 refine Zh (Zh (Zi (Zo J (Zo J (Zv J J (Zx J J (Zn (Za (wC (fun h15=>?_) (fun h15=>?_))))))))))
 obtain ⟨x,hx⟩:∃ x,l[i]?=some x:=⟨_,List.getElem?_eq_getElem ZO⟩
 obtain ⟨e1,cs1,hE⟩:=hC.elm hx
 obtain rfl:=(show cs1=[Value.int .i64 x] from hE.K)
 refine Zj (Za (Zh (Zk (Zh (Zi (Zo J (Zo J (oIdxE J J (hE) ZO J J ?_))))))))
 have hc20:=(hE).cell
 refine Zlx hc20 ?_
 refine Zx J J (Zn (Za (wC (fun h22=>?_) (fun h22=>?_))))
 refine Zh (Zi (Zzb ?_))
 exact ⟨(),trivial,by unfold refsE;rw [if_pos (.inr (List.any_eq_true.2 ⟨x,List.mem_of_getElem? hx,by simpa using h22⟩))];rfl,Lh⟩
 refine Zj (Zze ?_)
 refine Zp J (Zn (Za ?_))
 exact ⟨rfl,i+1,⟨by omega,take_not (p:=fun y=>decide (y < -1)) hs hx (by simpa using h22)⟩,by omega,cv,Lh⟩
 obtain rfl:i=l.length:=by omega
 rw [List.take_length] at hs
 have hn2:¬ (l.length≠most.length∨l.any (fun n=>decide (n < -1))=true):=by rintro (a | a);exact a ZO;obtain ⟨y,hy,hq⟩:=List.any_eq_true.1 a;rw [hs y hy] at hq;cases hq
 refine Zm (Zb (Zb (Ze (Za (Zh (Zh (Zi (Zp J (Zn (Za (Zk (wLoop (ι:=Nat) (fun i=>[(0,.slice A l.length cp),(1,.slice A1 most.length cp1),(6,.int .i64 (i:Int))]) (fun i=>[]) (fun i=>i≤l.length∧∀ j,j<i→ovr l most j=false) (fun i=>l.length-i) 0 ?_ cv (Leads.has ZQ) ?_))))))))))))
 exact ⟨Nat.zero_le _,fun j hj=>by omega⟩
 rintro i ⟨hi,hs⟩
 try dsimp only
 refine Zh (Zh (Zi (Zo J (Zo J (Zv J J (Zx J J (Zn (Za (wC (fun h26=>?_) (fun h26=>?_))))))))))
 obtain ⟨x,hx⟩:∃ x,l[i]?=some x:=⟨_,List.getElem?_eq_getElem ZO⟩
 obtain ⟨e1,cs1,hE⟩:=hC.elm hx
 obtain rfl:=(show cs1=[Value.int .i64 x] from hE.K)
 obtain ⟨m,hm⟩:∃ x,most[i]?=some x:=⟨_,List.getElem?_eq_getElem ZO⟩
 obtain ⟨e2,cs2,hE2⟩:=hC1.elm hm
 obtain rfl:=(show cs2=[Value.int .i64 m] from hE2.K)
 have hov:ovr l most i=(decide (0≤m) && decide (m≤x)):=by unfold ovr;rw [getG hx,getG hm]
 have hil:i<l.length:=by omega
 have him:i<most.length:=by omega
 refine Zj (Za (Zh (Zk (Zh (wDrawG J [0,1,2,3,4,5,6,7,8,9,10,11,12,13,14,15] [] [] 24 ZK J J (fun w0=>?_))))))
 refine Zo J (Zo J (oIdxE J J (hE2) ZO J J ?_))
 have hc31:=(hE2).cell
 refine Zlx hc31 ?_
 refine Z2 J J (Zo J (ZS (ZT 34) (fun h34=>?_) (fun h34=>?_)))
 refine Zq J J (Zo J (Zq J J (Zo J (Zq J J (oIdxE J J (hE) ZO J J ?_)))))
 have hc37:=(hE).cell
 refine Zq J J (Zlx hc37 ?_)
 refine Zq J J (Zo J (Zq J J (Zo J (Zq J J (oIdxE J J (hE2) ZO J J ?_)))))
 have hc41:=(hE2).cell
 refine Zq J J (Zlx hc41 ?_)
 refine Zq J J (Z2 J J (Zt J J (Z6 (Zn (Za (wC (fun h44=>?_) (fun h44=>?_)))))))
 refine Zh (Zi (Zzb ?_))
 exact ⟨(),trivial,by unfold refsE;rw [if_neg hn2,if_pos (List.any_eq_true.2 ⟨i,List.mem_range.2 ZO,by rw [hov,Bool.and_eq_true,decide_eq_true_eq,decide_eq_true_eq];omega⟩)];rfl,Lh⟩
 refine Zj (Zze ?_)
 refine Zp J (Zn (Za ?_))
 exact ⟨rfl,i+1,⟨by omega,fun j hj=>by
 by_cases e:j=i
 · subst e;rw [hov,Bool.and_eq_false_iff,decide_eq_false_iff_not,decide_eq_false_iff_not];omega
 · exact hs j ZO⟩,by omega,cv,Lh⟩
 refine Zr J J J J (Zr J J J J (Zr J J J J (Zr J J J J (Zr J J J J (Zr J J J J (Zr J J J J (Zr J J J J (Zr J J J J (Zu J J (Z6 (Zn (Za (wCondF J (Zj (Zze ?_)))))))))))))))
 refine Zp J (Zn (Za ?_))
 exact ⟨rfl,i+1,⟨by omega,fun j hj=>by
 by_cases e:j=i
 · subst e;rw [hov,Bool.and_eq_false_iff,decide_eq_false_iff_not,decide_eq_false_iff_not];omega
 · exact hs j ZO⟩,by omega,cv,Lh⟩
 refine Zm (Zzg ?_)
 obtain rfl:i=l.length:=by omega
 exact ⟨(),trivial,by unfold refsE;rw [if_neg hn2,if_neg (by intro h;obtain ⟨j,hj,hh⟩:=List.any_eq_true.1 h;rw [hs j (List.mem_range.1 hj)] at hh;cases hh)];rfl,Lh⟩
theorem bind_mostF {B:Base}{w:World}(p:ApiProgram) (A0 A1:Option Addr) (c0 c1 b1 b4:Nat) (f:ApiFun) (F0 F1 F2 F3 F4:Option Addr) (f0 f1 f2 f3 f4:Nat) (hS:St B [blk b4 59 [.int .i64 f.fFile,.int .i64 f.fItem,.string f.fName,.int .i64 f.fF.fClass,.slice F0 f.fF.fKinds.length f0,.int .i64 f.fF.fPad,.bool f.fF.fNosplit,.int .i64 f.fF.fFrom,.int .i64 f.fF.fTo,.slice F1 f.fF.fLines.length f1,.slice F2 f.fF.fCode.length f2,.slice F3 f.fF.fRelocs.length f3,.slice F4 f.fRefs.length f4],blk b1 43 (pcL p A0 c0 A1 c1)] w) (r2:kApiInstr.C B.e F2 f.fF.fCode) (i:Nat) (hi:i<(mostF p f).length) :
 CW 54 #[.int .i64 (i:Int),.pointer (some ⟨b4,0,none⟩),.pointer (some ⟨b1,0,none⟩)] w (Ret B (fun _:Unit=>True) (fun _=>.int .i64 ((mostF p f).getD i 0)) (fun _=>[blk b4 59 [.int .i64 f.fFile,.int .i64 f.fItem,.string f.fName,.int .i64 f.fF.fClass,.slice F0 f.fF.fKinds.length f0,.int .i64 f.fF.fPad,.bool f.fF.fNosplit,.int .i64 f.fF.fFrom,.int .i64 f.fF.fTo,.slice F1 f.fF.fLines.length f1,.slice F2 f.fF.fCode.length f2,.slice F3 f.fF.fRelocs.length f3,.slice F4 f.fRefs.length f4],blk b1 43 (pcL p A0 c0 A1 c1)])):=by
 unfold mostF at hi ⊢
 rw [List.length_map] at hi
 obtain ⟨x,hx⟩:∃ x,f.fF.fCode[i]?=some x:=⟨_,List.getElem?_eq_getElem hi⟩
 rw [mapG hx]
 obtain ⟨e1,cs1,hE⟩:=r2.elm hx
 obtain rfl:=kApiInstr_open hE.K
 refine ZX Tryz.func54 hS ?_
 refine Zh (Zi (Zp J (Zn (Za (Zh (Zh (Zi (Zz (n:=3) (m:=3) J J J (Zz (n:=7) (m:=10) J J J (Zld ?_))))))))))
 refine Zo J (oIdxE J J (hE) ZO J J ?_)
 have hc9:=(hE).cell
 refine ZF (ZT 0) (ZT 0) ?_
 refine Zlx hc9 ?_
 (refine ZC0 rfl ZK (fun w hS=>frame hS ZQ (fun B' hB hS'=>op_Need hS' x.fOp)) ?_;rintro ⟨⟩ -)
 refine Zn (Za (Zk (Zh (Zi (Zy J J (Zp J (Zn (Za (wC (fun h13=>?_) (fun h13=>?_))))))))))
 refine Zh (Zi (Zzh ?_))
 exact ⟨(),trivial,by unfold mostI;rw [if_pos h13];rfl,Lh⟩
 refine Zh (Zh (Zi (Zy J J (Zp J (Zn (Za (wC (fun h15=>?_) (fun h15=>?_))))))))
 refine Zj (Za (ZY h15 ?_))
 refine Zh (Zi (Zz (n:=1) (m:=1) J J J (Zld ?_)))
 refine Zv J J (Zzh ?_)
 exact ⟨(),trivial,by unfold mostI;rw [if_neg h13,if_pos (by first | exact .inl h15 | exact .inr h15)];rfl,Lh⟩
 refine Zi (Zy J J (Zp J (Zn (Za (wC (fun h15=>?_) (fun h15=>?_))))))
 refine Zh (Zi (Zz (n:=1) (m:=1) J J J (Zld ?_)))
 refine Zv J J (Zzh ?_)
 exact ⟨(),trivial,by unfold mostI;rw [if_neg h13,if_pos (by first | exact .inl h15 | exact .inr h15)];rfl,Lh⟩
 refine Zj (Zd (Za (Zh (Zi (Zz (n:=0) (m:=0) J J J (Zld ?_))))))
 refine Zv J J (Zza ?_)
 exact ⟨(),trivial,by unfold mostI;rw [if_neg h13,if_neg ZO];rfl,Lh⟩
theorem bind_mostD {B:Base}{w:World}(p:ApiProgram) (A0 A1:Option Addr) (c0 c1 b1:Nat) (d:ApiDat) (hS:St B [blk b1 43 (pcL p A0 c0 A1 c1)] w) (i:Nat) (hi:i<(mostD p d).length) :
 CW 56 #[.int .i64 (i:Int),.pointer (some ⟨b1,0,none⟩)] w (Ret B (fun _:Unit=>True) (fun _=>.int .i64 ((mostD p d).getD i 0)) (fun _=>[blk b1 43 (pcL p A0 c0 A1 c1)])):=by
 unfold mostD at hi ⊢
 rw [List.length_map] at hi
 obtain ⟨x,hx⟩:∃ x,d.fD.fWords[i]?=some x:=⟨_,List.getElem?_eq_getElem hi⟩
 rw [mapG hx]
 refine ZX Tryz.func56 hS ?_
 refine Zh (Zi (Zp J (Zn (Za (Zh (Zi (Zz (n:=0) (m:=0) J J J (Zld ?_))))))))
 refine Zv J J (Zza ?_)
 exact ⟨(),trivial,rfl,Lh⟩
theorem bind_Check {B:Base}{w:World}(hS:St B [] w) (p:ApiProgram) (pc:List Value) (hp:kApiProgram.K B.e p pc) :
    CW 23 #[.agg pc.toArray] w (Ret B (fun _:Unit=>True) (fun _=>.int .i64 (progE p)) (fun _=>[])):=by
  obtain ⟨A0,c0,A1,c1,rfl,m0,q0,m1,q1⟩:=kApiProgram_open hp
  have hl:=q0.1
  have hl1:=q1.1
  refine ZX Tryz.func23 hS ?_
  refine Zh (Zi (oBox J ZP (fun b1=>?_)))
  refine Zp J (Zn (Za (Zh (Zh (Zi (Zz (n:=2) (m:=2) J J J (Zld ?_)))))))
  refine Zx J J (Zo J (ZS (ZT 12) (fun h12=>?_) (fun h12=>?_)))
  refine Zr J J J J (Zr J J J J (Zr J J J J (Zr J J J J (Zr J J J J (Zr J J J J (Zt J J (Zn (Za (wCondT J (Zh (Zi (Zzc ?_))))))))))))
  exact ⟨(),trivial,by unfold progE;rw [if_pos ZO];rfl,Lh⟩
  refine Zq J J (Zz (n:=2) (m:=2) J J J (Zzf ?_))
  refine Zq J J (Zz (n:=0) (m:=0) J J J (Zzf ?_))
  refine Zq J J (Zv J J (Zq J J (Z2 J J (Zu J J (Zn (Za (wC (fun h19=>?_) (fun h19=>?_))))))))
  refine Zh (Zi (Zzc ?_))
  exact ⟨(),trivial,by unfold progE;rw [if_pos ZO];rfl,Lh⟩
  have hen:¬ (p.fEntry<0∨(p.fFuns.length:Int)≤p.fEntry):=by omega
  refine Zj (Za (Zh (Zh (Zi (Zz (n:=0) (m:=0) J J J (Zld ?_))))))
  refine Zv J J (Zo J (Zn (Za (Zk (wLoop (ι:=Nat) (fun i=>[(1,.pointer (some ⟨b1,0,none⟩)),(21,.slice A0 p.fFuns.length c0),(22,.int .i64 (p.fFuns.length:Int)),(23,.int .i64 (i:Int))]) (fun i=>[blk b1 43 (pcL p A0 c0 A1 c1)]) (fun i=>i≤p.fFuns.length∧fstE ((funsE p).take i)=0) (fun i=>p.fFuns.length-i) 0 ?_ cv (Leads.has ZQ) ?_)))))
  exact ⟨Nat.zero_le _,rfl⟩
  rintro i ⟨hi,hs⟩
  try dsimp only
  refine Zh (Zi (Zx J J (Zn (Za (Zh (wC (fun h24=>?_) (fun h24=>?_)))))))
  obtain ⟨f,hx⟩:∃ x,p.fFuns[i]?=some x:=⟨_,List.getElem?_eq_getElem ZO⟩
  obtain ⟨e1,cs1,hE⟩:=q0.elm hx
  obtain ⟨F0,f0,F1,f1,F2,f2,F3,f3,F4,f4,rfl,n0,r0,n1,r1,n2,r2,n3,r3,n4,r4⟩:=kApiFun_open hE.K
  refine Zj (Za (Zh (Zk (Zh (Zi (oIdxE J J (hE) ZO J J ?_))))))
  have hc25:=(hE).cell
  refine Zlx hc25 ?_
  refine oAlloc J ZP (fun b4=>?_)
  refine Zsa ?_
  refine Zn (Za (Zh (Zi (Zz (n:=12) (m:=12) J J J (Zld ?_)))))
  refine Zz (n:=3) (m:=3) J J J (Zz (n:=7) (m:=10) J J J (Zld ?_))
  refine Zv J J (oMakeFunc J ?_)
  (refine ZC0 rfl ZK (fun w hS=>frame hS ZQ (fun B' hB hS'=>bind_refs2 hS' f.fRefs F4 f4 (Kd.C_grow hB r4) (mostF p f) _ (by unfold mostF;rw [List.length_map]) 54 #[.pointer (some ⟨b4,0,none⟩),.pointer (some ⟨b1,0,none⟩)] ZK (fun B2 w2 i hB2 hi hS2=>bind_mostF p A0 A1 c0 c1 b1 b4 f F0 F1 F2 F3 F4 f0 f1 f2 f3 f4 hS2 (Kd.C_grow (hB.trans hB2) r2) i hi))) ?_;rintro ⟨⟩ -)
  refine Zp J (Zn (Za (Zh (Zi (Zo J (Z0 J J (Zn (Za (wC (fun h36=>?_) (fun h36=>?_))))))))))
  refine Zh (Zzz ?_)
  have hfe:fstE (funsE p)=refsE f.fRefs (mostF p f):=fstE_stop hs (mapA (e:=fun f:ApiFun=>refsE f.fRefs (mostF p f)) hx) h36
  exact ⟨(),trivial,by unfold progE;rw [if_neg hen,hfe,if_pos h36];rfl,Lh⟩
  refine Zj (Zzi ?_)
  refine Zo J (Zn (Za ?_))
  exact ⟨rfl,i+1,⟨by omega,fstE_next hs (mapA (e:=fun f:ApiFun=>refsE f.fRefs (mostF p f)) hx) (Classical.not_not.1 h36)⟩,by omega,cv,Lh⟩
  obtain rfl:i=p.fFuns.length:=by omega
  have hf0 : fstE (funsE p) = 0 := by have : (funsE p).take p.fFuns.length = funsE p := by unfold funsE; rw [← List.length_map (f := fun f : ApiFun => refsE f.fRefs (mostF p f)), List.take_length]
                                      rw [← this]; exact hs
  refine Zm (Zb (Zb (Ze (Za (Zh (Zh (Zi (Zz (n:=1) (m:=1) J J J (Zld ?_)))))))))
  refine Zv J J (Zo J (Zn (Za (Zk (wLoop (ι:=Nat) (fun i=>[(1,.pointer (some ⟨b1,0,none⟩)),(40,.slice A1 p.fDats.length c1),(41,.int .i64 (p.fDats.length:Int)),(42,.int .i64 (i:Int))]) (fun i=>[blk b1 43 (pcL p A0 c0 A1 c1)]) (fun i=>i≤p.fDats.length∧fstE ((datsE p).take i)=0) (fun i=>p.fDats.length-i) 0 ?_ cv (Leads.has ZQ) ?_)))))
  exact ⟨Nat.zero_le _,rfl⟩
  rintro i ⟨hi,hs⟩
  try dsimp only
  refine Zh (Zi (Zx J J (Zn (Za (Zh (wC (fun h43=>?_) (fun h43=>?_)))))))
  obtain ⟨d,hx⟩:∃ x,p.fDats[i]?=some x:=⟨_,List.getElem?_eq_getElem ZO⟩
  obtain ⟨e1,cs1,hE⟩:=q1.elm hx
  obtain ⟨F0,f0,F1,f1,F2,f2,rfl,n0,r0,n1,r1,n2,r2⟩:=kApiDat_open hE.K
  refine Zj (Za (Zh (Zk (Zh (Zi (oIdxE J J (hE) ZO J J ?_))))))
  have hc44:=(hE).cell
  refine Zlx hc44 ?_
  refine oAlloc J ZP (fun b7=>?_)
  refine Zsa ?_
  refine Zn (Za (Zh (Zi (Zz (n:=6) (m:=6) J J J (Zld ?_)))))
  refine Zz (n:=3) (m:=3) J J J (Zz (n:=1) (m:=4) J J J (Zld ?_))
  refine Zv J J (oMakeFunc J ?_)
  (refine ZC0 rfl ZK (fun w hS=>frame hS ZQ (fun B' hB hS'=>bind_refs hS' d.fRefs F2 f2 (Kd.C_grow hB r2) (mostD p d) _ (by unfold mostD;rw [List.length_map]) 56 #[.pointer (some ⟨b1,0,none⟩)] ZK (fun B2 w2 i hB2 hi hS2=>bind_mostD p A0 A1 c0 c1 b1 d hS2 i hi))) ?_;rintro ⟨⟩ -)
  refine Zp J (Zn (Za (Zh (Zi (Zo J (Z0 J J (Zn (Za (wC (fun h55=>?_) (fun h55=>?_))))))))))
  refine Zh (Zzz ?_)
  have hfe:fstE (datsE p)=refsE d.fRefs (mostD p d):=fstE_stop hs (mapA (e:=fun d:ApiDat=>refsE d.fRefs (mostD p d)) hx) h55
  exact ⟨(),trivial,by unfold progE;rw [if_neg hen,hf0,if_neg (by simp),hfe];rfl,Lh⟩
  refine Zj (Zzi ?_)
  refine Zo J (Zn (Za ?_))
  exact ⟨rfl,i+1,⟨by omega,fstE_next hs (mapA (e:=fun d:ApiDat=>refsE d.fRefs (mostD p d)) hx) (Classical.not_not.1 h55)⟩,by omega,cv,Lh⟩
  refine Zm (Zzg ?_)
  obtain rfl:i=p.fDats.length:=by omega
  have hd0 : fstE (datsE p) = 0 := by have : (datsE p).take p.fDats.length = datsE p := by unfold datsE; rw [← List.length_map (f := fun d : ApiDat => refsE d.fRefs (mostD p d)), List.take_length]
                                      rw [← this]; exact hs
  exact ⟨(),trivial,by unfold progE;rw [if_neg hen,hf0,if_neg (by simp),hd0];rfl,Lh⟩
theorem ref24_Check {B:Base}{w:World}(hS:St B [] w) (p:ApiProgram) (pc:List Value) (hp:kApiProgram.K B.e p pc) (hf:∀ f ∈ p.fFuns,f.fF.fCode.length≤1000) (hd:∀ d ∈ p.fDats,d.fD.fWords.length≤1000) :
    CW 24 #[.agg pc.toArray] w (Ret B (fun _:Unit=>True) (fun _=>.int .i64 (progE p)) (fun _=>[])):=by
  obtain ⟨A0,c0,A1,c1,rfl,m0,q0,m1,q1⟩:=kApiProgram_open hp
  have hl:=q0.1
  have hl1:=q1.1
  refine ZX Tryz.func24 hS ?_
  refine Zh (Zi (oBox J ZP (fun b1=>?_)))
  refine Zp J (Zn (Za (Zh (Zh (Zi (Zz (n:=2) (m:=2) J J J (Zld ?_)))))))
  refine Zx J J (Zo J (ZS (ZT 16) (fun h16=>?_) (fun h16=>?_)))
  refine Zr J J J J (Zr J J J J (Zr J J J J (Zr J J J J (Zr J J J J (Zr J J J J (Zt J J (Zn (Za (wCondT J (Zh (Zi (Zzc ?_))))))))))))
  exact ⟨(),trivial,by unfold progE;rw [if_pos ZO];rfl,Lh⟩
  refine Zq J J (Zz (n:=2) (m:=2) J J J (Zzf ?_))
  refine Zq J J (Zz (n:=0) (m:=0) J J J (Zzf ?_))
  refine Zq J J (Zv J J (Zq J J (Z2 J J (Zu J J (Zn (Za (wC (fun h23=>?_) (fun h23=>?_))))))))
  refine Zh (Zi (Zzc ?_))
  exact ⟨(),trivial,by unfold progE;rw [if_pos ZO];rfl,Lh⟩
  have hen:¬ (p.fEntry<0∨(p.fFuns.length:Int)≤p.fEntry):=by omega
  refine Zj (Za (Zh (Zh (Zi (Zp J (Zn (Za (Zk (wLoop (ι:=Nat) (fun i=>[(1,.pointer (some ⟨b1,0,none⟩)),(3,.int .i64 (i:Int))]) (fun i=>[blk b1 43 (pcL p A0 c0 A1 c1)]) (fun i=>i≤p.fFuns.length∧fstE ((funsE p).take i)=0) (fun i=>p.fFuns.length-i) 0 ?_ cv (Leads.has ZQ) ?_)))))))))
  exact ⟨Nat.zero_le _,rfl⟩
  rintro i ⟨hi,hs⟩
  try dsimp only
  refine Zh (Zh (Zi (Zo J (Zz (n:=0) (m:=0) J J J (Zld ?_)))))
  refine Zv J J (Zx J J (Zn (Za (wC (fun h28=>?_) (fun h28=>?_)))))
  obtain ⟨f,hx⟩:∃ x,p.fFuns[i]?=some x:=⟨_,List.getElem?_eq_getElem ZO⟩
  have hfl:=hf f (List.mem_of_getElem? hx)
  obtain ⟨e1,cs1,hE⟩:=q0.elm hx
  obtain ⟨F0,f0,F1,f1,F2,f2,F3,f3,F4,f4,rfl,n0,r0,n1,r1,n2,r2,n3,r3,n4,r4⟩:=kApiFun_open hE.K
  refine Zj (Za (Zh (Zk (Zh (Zi (Zp J (Zn (Za (Zh (Zh (Zi (Zp J (Zn (Za (Zk (wLoop (ι:=Nat×Option Addr×Nat) (fun x=>[(1,.pointer (some ⟨b1,0,none⟩)),(3,.int .i64 (i:Int)),(4,.slice x.2.1 ((mostF p f).take x.1).length x.2.2),(5,.int .i64 (x.1:Int))]) (fun x=>[blk b1 43 (pcL p A0 c0 A1 c1),row (Kd.int .i64) B.e 3 (.slice x.2.1 ((mostF p f).take x.1).length x.2.2) ((mostF p f).take x.1)]) (fun x=>x.1≤f.fF.fCode.length) (fun x=>f.fF.fCode.length-x.1) (0,none,0) ?_ cv (Leads.nilrow.trans Lh) ?_))))))))))))))))
  exact Nat.zero_le _
  rintro ⟨j,A4,c4⟩ hj
  dsimp only at hj
  have htl:((mostF p f).take j).length≤1000:=by unfold mostF;rw [List.length_take,List.length_map];omega
  try dsimp only
  refine Zh (Zh (Zi (Zo J (Zz (n:=0) (m:=0) J J J (Zld ?_)))))
  refine Zo J (oIdxE J J (hE) ZO J J ?_)
  have hc35:=(hE).cell
  refine ZF (ZT 3) (ZT 3) ?_
  refine ZF (ZT 7) (ZT 10) ?_
  refine Zlx hc35 ?_
  refine Zv J J (Zx J J (Zn (Za (wC (fun h40=>?_) (fun h40=>?_)))))
  obtain ⟨x,hj2⟩:∃ x,f.fF.fCode[j]?=some x:=⟨_,List.getElem?_eq_getElem ZO⟩
  have hmt:(mostF p f).take (j+1)=(mostF p f).take j++[mostI p x.fOp]:=mapT (e:=fun x:ApiInstr=>mostI p x.fOp) hj2
  obtain ⟨e2,cs2,hE2⟩:=r2.elm hj2
  obtain rfl:=kApiInstr_open hE2.K
  refine Zj (Za (Zh (Zk (Zh (Zi (Zz (n:=0) (m:=0) J J J (Zld ?_)))))))
  refine Zv J J (Zp J (Zn (Za (Zh (Zh (Zi (Zz (n:=0) (m:=0) J J J (Zld ?_))))))))
  refine Zo J (oIdxE J J (hE) ZO J J ?_)
  have hc49:=(hE).cell
  refine ZF (ZT 3) (ZT 3) ?_
  refine ZF (ZT 7) (ZT 10) ?_
  refine Zlx hc49 ?_
  refine Zo J (oIdxE J J (hE2) ZO J J ?_)
  have hc54:=(hE2).cell
  refine ZF (ZT 0) (ZT 0) ?_
  refine Zlx hc54 ?_
  (refine ZC0 rfl ZK (fun w hS=>frame hS ZQ (fun B' hB hS'=>ref7_Need hS' x.fOp)) ?_;rintro ⟨⟩ -)
  refine Zp J (Zn (Za (Zh (Zi (Zo J (Zy J J (Zo J (ZS (ZT 60) (fun h60=>?_) (fun h60=>?_)))))))))
  refine Zr J J J J (Zr J J J J (Zt J J (Zn (Za (wCondT J (Zi (Zz (n:=1) (m:=1) J J J (Zld ?_))))))))
  refine Zv J J (Zp J (Zn (Za (Zi (Zo J (Zo J ?_))))))
  refine ZS0 (t:=70) (v':=.int .i64 (mostI p x.fOp)) J (by unfold mostI;rw [if_neg ZO,if_pos ZO]) ?_
  refine oBuildSlice1 J J J J J ZP J (fun b71=>?_)
  refine oApp1 (mostI p x.fOp) J J J J ZP ZP J ZO J (fun g72 cp72=>?_)
  rw [show ((mostF p f).take j).length+1=((mostF p f).take (j+1)).length by rw [hmt,List.length_append];rfl,← hmt]
  refine Zp J (Zn (Zze ?_))
  refine Zp J (Zn (Za ?_))
  exact ⟨rfl,(j+1,some ⟨g72,0,none⟩,cp72),by show j+1≤_;omega,by show f.fF.fCode.length-(j+1)<f.fF.fCode.length-j;omega,cv,Lh⟩
  refine Zq J J (Zo J (Zq J J (Zy J J (Zu J J (Zn (Za (wC (fun h63=>?_) (fun h63=>?_))))))))
  refine Zi (Zz (n:=1) (m:=1) J J J (Zld ?_))
  refine Zv J J (Zp J (Zn (Za (Zi (Zo J (Zo J ?_))))))
  refine ZS0 (t:=70) (v':=.int .i64 (mostI p x.fOp)) J (by unfold mostI;rw [if_neg ZO,if_pos ZO]) ?_
  refine oBuildSlice1 J J J J J ZP J (fun b71=>?_)
  refine oApp1 (mostI p x.fOp) J J J J ZP ZP J ZO J (fun g72 cp72=>?_)
  rw [show ((mostF p f).take j).length+1=((mostF p f).take (j+1)).length by rw [hmt,List.length_append];rfl,← hmt]
  refine Zp J (Zn (Zze ?_))
  refine Zp J (Zn (Za ?_))
  exact ⟨rfl,(j+1,some ⟨g72,0,none⟩,cp72),by show j+1≤_;omega,by show f.fF.fCode.length-(j+1)<f.fF.fCode.length-j;omega,cv,Lh⟩
  refine Zh (Zi (Zo J (Zy J J (Zn (Za (wC (fun h68=>?_) (fun h68=>?_)))))))
  refine Zi (Zp J (Zn (Za (Zi (Zo J (Zo J ?_))))))
  refine ZS0 (t:=70) (v':=.int .i64 (mostI p x.fOp)) J (by unfold mostI;rw [if_pos ZO]) ?_
  refine oBuildSlice1 J J J J J ZP J (fun b71=>?_)
  refine oApp1 (mostI p x.fOp) J J J J ZP ZP J ZO J (fun g72 cp72=>?_)
  rw [show ((mostF p f).take j).length+1=((mostF p f).take (j+1)).length by rw [hmt,List.length_append];rfl,← hmt]
  refine Zp J (Zn (Zze ?_))
  refine Zp J (Zn (Za ?_))
  exact ⟨rfl,(j+1,some ⟨g72,0,none⟩,cp72),by show j+1≤_;omega,by show f.fF.fCode.length-(j+1)<f.fF.fCode.length-j;omega,cv,Lh⟩
  refine Zj (Za (Zi (Zo J (Zo J ?_))))
  refine ZS0 (t:=70) (v':=.int .i64 (mostI p x.fOp)) J (by unfold mostI;rw [if_neg ZO,if_neg ZO]) ?_
  refine oBuildSlice1 J J J J J ZP J (fun b71=>?_)
  refine oApp1 (mostI p x.fOp) J J J J ZP ZP J ZO J (fun g72 cp72=>?_)
  rw [show ((mostF p f).take j).length+1=((mostF p f).take (j+1)).length by rw [hmt,List.length_append];rfl,← hmt]
  refine Zp J (Zn (Zze ?_))
  refine Zp J (Zn (Za ?_))
  exact ⟨rfl,(j+1,some ⟨g72,0,none⟩,cp72),by show j+1≤_;omega,by show f.fF.fCode.length-(j+1)<f.fF.fCode.length-j;omega,cv,Lh⟩
  obtain rfl:j=f.fF.fCode.length:=by omega
  rw [show (mostF p f).take f.fF.fCode.length=mostF p f by unfold mostF;rw [← List.length_map (f:=fun x:ApiInstr=>mostI p x.fOp),List.take_length]]
  refine Zm (Zb (Zb (Ze (Za (Zh (Zi (Zz (n:=0) (m:=0) J J J (Zld ?_))))))))
  refine Zo J (oIdxE J J (hE) ZO J J ?_)
  have hc76:=(hE).cell
  refine ZF (ZT 12) (ZT 12) ?_
  refine Zlx hc76 ?_
  refine Zo J ?_
  (refine ZD J (fun w B' hB hR hS'=>ref24_refs hS' f.fRefs F4 f4 (Kd.C_grow hB r4) (mostF p f) A4 c4 (row_Cs (W:=B.e) (e:=3) (n:=(mostF p f).length) (cp:=c4) (hR _ _ ZP))) ?_;rintro ⟨⟩ -)
  refine Zp J (Zn (Za (Zh (Zi (Zo J (Z0 J J (Zn (Za (wC (fun h82=>?_) (fun h82=>?_))))))))))
  refine Zh (Zzz ?_)
  have hfe:fstE (funsE p)=refsE f.fRefs (mostF p f):=fstE_stop hs (mapA (e:=fun f:ApiFun=>refsE f.fRefs (mostF p f)) hx) h82
  exact ⟨(),trivial,by unfold progE;rw [if_neg hen,hfe,if_pos h82];rfl,Lh⟩
  refine Zj (Zze ?_)
  refine Zp J (Zn (Za ?_))
  exact ⟨rfl,i+1,⟨by omega,fstE_next hs (mapA (e:=fun f:ApiFun=>refsE f.fRefs (mostF p f)) hx) (Classical.not_not.1 h82)⟩,by omega,cv,Lh⟩
  obtain rfl:i=p.fFuns.length:=by omega
  have hf0 : fstE (funsE p) = 0 := by have : (funsE p).take p.fFuns.length = funsE p := by unfold funsE; rw [← List.length_map (f := fun f : ApiFun => refsE f.fRefs (mostF p f)), List.take_length]
                                      rw [← this]; exact hs
  refine Zm (Zb (Zb (Ze (Za (Zh (Zh (Zi (Zp J (Zn (Za (Zk (wLoop (ι:=Nat) (fun i=>[(1,.pointer (some ⟨b1,0,none⟩)),(9,.int .i64 (i:Int))]) (fun i=>[blk b1 43 (pcL p A0 c0 A1 c1)]) (fun i=>i≤p.fDats.length∧fstE ((datsE p).take i)=0) (fun i=>p.fDats.length-i) 0 ?_ cv (Leads.has ZQ) ?_))))))))))))
  exact ⟨Nat.zero_le _,rfl⟩
  rintro i ⟨hi,hs⟩
  try dsimp only
  refine Zh (Zh (Zi (Zo J (Zz (n:=1) (m:=1) J J J (Zld ?_)))))
  refine Zv J J (Zx J J (Zn (Za (wC (fun h88=>?_) (fun h88=>?_)))))
  obtain ⟨d,hx⟩:∃ x,p.fDats[i]?=some x:=⟨_,List.getElem?_eq_getElem ZO⟩
  have hdl:=hd d (List.mem_of_getElem? hx)
  obtain ⟨e1,cs1,hE⟩:=q1.elm hx
  obtain ⟨F0,f0,F1,f1,F2,f2,rfl,n0,r0,n1,r1,n2,r2⟩:=kApiDat_open hE.K
  refine Zj (Za (Zh (Zk (Zh (Zi (Zp J (Zn (Za (Zh (Zh (Zi (Zp J (Zn (Za (Zk (wLoop (ι:=Nat×Option Addr×Nat) (fun x=>[(1,.pointer (some ⟨b1,0,none⟩)),(9,.int .i64 (i:Int)),(10,.slice x.2.1 ((mostD p d).take x.1).length x.2.2),(11,.int .i64 (x.1:Int))]) (fun x=>[blk b1 43 (pcL p A0 c0 A1 c1),row (Kd.int .i64) B.e 3 (.slice x.2.1 ((mostD p d).take x.1).length x.2.2) ((mostD p d).take x.1)]) (fun x=>x.1≤d.fD.fWords.length) (fun x=>d.fD.fWords.length-x.1) (0,none,0) ?_ cv (Leads.nilrow.trans Lh) ?_))))))))))))))))
  exact Nat.zero_le _
  rintro ⟨j,A4,c4⟩ hj
  dsimp only at hj
  have htl:((mostD p d).take j).length≤1000:=by unfold mostD;rw [List.length_take,List.length_map];omega
  try dsimp only
  refine Zh (Zh (Zi (Zo J (Zz (n:=1) (m:=1) J J J (Zld ?_)))))
  refine Zo J (oIdxE J J (hE) ZO J J ?_)
  have hc95:=(hE).cell
  refine ZF (ZT 3) (ZT 3) ?_
  refine ZF (ZT 1) (ZT 4) ?_
  refine Zlx hc95 ?_
  refine Zv J J (Zx J J (Zn (Za (wC (fun h100=>?_) (fun h100=>?_)))))
  obtain ⟨x,hj2⟩:∃ x,d.fD.fWords[j]?=some x:=⟨_,List.getElem?_eq_getElem ZO⟩
  have hmt:(mostD p d).take (j+1)=(mostD p d).take j++[(p.fFuns.length:Int)]:=mapT (e:=fun _:Int=>(p.fFuns.length:Int)) hj2
  refine Zj (Za (Zh (Zk (Zi (Zo J (Zz (n:=0) (m:=0) J J J (Zld ?_)))))))
  refine Zv J J (oBuildSlice1 J J J J J ZP J (fun b107=>?_))
  refine oApp1 (p.fFuns.length:Int) J J J J ZP ZP J ZO J (fun g108 cp108=>?_)
  rw [show ((mostD p d).take j).length+1=((mostD p d).take (j+1)).length by rw [hmt,List.length_append];rfl,← hmt]
  refine Zp J (Zn (Zze ?_))
  refine Zp J (Zn (Za ?_))
  exact ⟨rfl,(j+1,some ⟨g108,0,none⟩,cp108),by show j+1≤_;omega,by show d.fD.fWords.length-(j+1)<d.fD.fWords.length-j;omega,cv,Lh⟩
  obtain rfl:j=d.fD.fWords.length:=by omega
  rw [show (mostD p d).take d.fD.fWords.length=mostD p d by unfold mostD;rw [← List.length_map (f:=fun _:Int=>(p.fFuns.length:Int)),List.take_length]]
  refine Zm (Zb (Zb (Ze (Za (Zh (Zi (Zz (n:=1) (m:=1) J J J (Zld ?_))))))))
  refine Zo J (oIdxE J J (hE) ZO J J ?_)
  have hc112:=(hE).cell
  refine ZF (ZT 6) (ZT 6) ?_
  refine Zlx hc112 ?_
  refine Zo J ?_
  (refine ZD J (fun w B' hB hR hS'=>ref24_refs hS' d.fRefs F2 f2 (Kd.C_grow hB r2) (mostD p d) A4 c4 (row_Cs (W:=B.e) (e:=3) (n:=(mostD p d).length) (cp:=c4) (hR _ _ ZP))) ?_;rintro ⟨⟩ -)
  refine Zp J (Zn (Za (Zh (Zi (Zo J (Z0 J J (Zn (Za (wC (fun h118=>?_) (fun h118=>?_))))))))))
  refine Zh (Zzz ?_)
  have hfe:fstE (datsE p)=refsE d.fRefs (mostD p d):=fstE_stop hs (mapA (e:=fun d:ApiDat=>refsE d.fRefs (mostD p d)) hx) h118
  exact ⟨(),trivial,by unfold progE;rw [if_neg hen,hf0,if_neg (by simp),hfe];rfl,Lh⟩
  refine Zj (Zze ?_)
  refine Zp J (Zn (Za ?_))
  exact ⟨rfl,i+1,⟨by omega,fstE_next hs (mapA (e:=fun d:ApiDat=>refsE d.fRefs (mostD p d)) hx) (Classical.not_not.1 h118)⟩,by omega,cv,Lh⟩
  refine Zm (Zzg ?_)
  obtain rfl:i=p.fDats.length:=by omega
  have hd0 : fstE (datsE p) = 0 := by have : (datsE p).take p.fDats.length = datsE p := by unfold datsE; rw [← List.length_map (f := fun d : ApiDat => refsE d.fRefs (mostD p d)), List.take_length]
                                      rw [← this]; exact hs
  exact ⟨(),trivial,by unfold progE;rw [if_neg hen,hf0,if_neg (by simp),hd0];rfl,Lh⟩
theorem rel_ne (x:ApiReloc) (w:World):(binOp .neq 103 (.agg #[.int .i64 x.fAt,.int .i64 x.fSym,.bool x.fWide]) (.agg #[.int .i64 x.fAt,.int .i64 x.fSym,.bool x.fWide])).run Tryz.prog w=.ok (.bool false) w:=by
 simp [go_sem,binOp,Op.equal,Op.maxDepth]
theorem lin_ne (x:ApiLine) (w:World):(binOp .neq 134 (.agg #[.int .i64 x.fAt,.int .i64 x.fLine]) (.agg #[.int .i64 x.fAt,.int .i64 x.fLine])).run Tryz.prog w=.ok (.bool false) w:=by
 simp [go_sem,binOp,Op.equal,Op.maxDepth]
theorem ins_ne (x:ApiInstr) (w:World):(binOp .neq 67 (.agg #[.int .i64 x.fOp,.int .i64 x.fA,.int .i64 x.fB,.int .i64 x.fC,.int .i64 x.fN]) (.agg #[.int .i64 x.fOp,.int .i64 x.fA,.int .i64 x.fB,.int .i64 x.fC,.int .i64 x.fN])).run Tryz.prog w=.ok (.bool false) w:=by
 simp [go_sem,binOp,Op.equal,Op.maxDepth]
theorem ref15_SameRelocs {B:Base}{w:World}(hS:St B [] w) (l:List ApiReloc) (A:Option Addr) (cp:Nat) (hC:kApiReloc.C B.e A l) (A1:Option Addr) (cp1:Nat) (hC1:kApiReloc.C B.e A1 l) :
 CW 91 #[.slice A l.length cp,.slice A1 l.length cp1] w (Ret B (fun _:Unit=>True) (fun _=>.bool true) (fun _=>[])):=by
 have hl:=hC.1
 refine ZX Tryz.func91 hS ?_
 refine Zh (Zi (Zp J (Zn (Za (Zh (Zh (Zi (Zo J (Zv J J (Zo J (Zv J J (Z0 J J (ZS0 (t:=10) (v':=.bool false) J (by simp) ?_)))))))))))))
 refine Zn (Za (wCondF J (Zj (Za (Zh (Zh (Zi (Zp J (Zn (Za (Zk (wLoop (ι:=Nat) (fun i=>[(0,.slice A l.length cp),(1,.slice A1 l.length cp1),(5,.int .i64 (i:Int))]) (fun i=>[]) (fun i=>i≤l.length) (fun i=>l.length-i) 0 ?_ cv (Leads.has ZQ) ?_))))))))))))
 exact Nat.zero_le _
 rintro i hi
 try dsimp only
 refine Zh (Zh (Zi (Zo J (Zo J (Zv J J (Zx J J (Zn (Za (wC (fun h14=>?_) (fun h14=>?_))))))))))
 obtain ⟨x,hx⟩:∃ x,l[i]?=some x:=⟨_,List.getElem?_eq_getElem ZO⟩
 obtain ⟨e1,cs1,hE⟩:=hC.elm hx
 obtain rfl:=kApiReloc_open hE.K
 obtain ⟨e2,cs2,hE2⟩:=hC1.elm hx
 obtain rfl:=kApiReloc_open hE2.K
 have hil:i<l.length:=by omega
 refine Zj (Za (Zh (Zk (Zh (wDrawG J [0,1,2,3,4,5,6,7,8] [] [] 24 ZK J J (fun w0=>?_))))))
 refine Zo J (Zo J (oIdxE J J (hE) ZO J J ?_))
 have hc19:=(hE).cell
 refine Zlx hc19 ?_
 refine Zo J (Zo J (oIdxE J J (hE2) ZO J J ?_))
 have hc23:=(hE2).cell
 refine Zlx hc23 ?_
 refine Go.Proofs.YtafiabekcekdbaaGreatS.oBinV (r:=.bool false) J J (fun w=>run_eqGuard_agg w .neq _ _ _ _ _ Tryz.eqGuardType103) (fun w=>rel_ne _ w) ?_
 refine Z6 (Zn (Za (wCondF J (Zj (Zze ?_)))))
 refine Zp J (Zn (Za ?_))
 exact ⟨rfl,i+1,by omega,by omega,cv,Lh⟩
 refine Zm (Zzg ?_)
 exact ⟨(),trivial,rfl,Lh⟩
theorem ref15_Same {B:Base}{w:World}(hS:St B [] w) (d:ApiData) (dc ec:List Value) (hd:kApiData.K B.e d dc) (he:kApiData.K B.e d ec) :
 CW 50 #[.agg dc.toArray,.agg ec.toArray] w (Ret B (fun _:Unit=>True) (fun _=>.bool true) (fun _=>[])):=by
 obtain ⟨A0,a0,A1,a1,rfl,l0,g0,l1,g1⟩:=kApiData_open hd
 obtain ⟨D0,d0,D1,d1,rfl,m0,q0,m1,q1⟩:=kApiData_open he
 have hl:=g0.1
 refine ZX Tryz.func50 hS ?_
 refine Zh (Zi (oBox J ZP (fun b2=>?_)))
 refine oBox J ZP (fun b3=>?_)
 refine Zp J (Zn (Za (Zh (Zh (Zi (Zz (n:=0) (m:=0) J J J (Zld ?_)))))))
 refine Zz (n:=0) (m:=0) J J J (Zld ?_)
 refine Z0 J J (ZS0 (t:=10) (v':=.bool false) J (by simp) ?_)
 refine Zo J (Zq J J (Zz (n:=1) (m:=1) J J J (Zzf ?_)))
 refine Zq J J (Zv J J (Zq J J (Zz (n:=1) (m:=1) J J J (Zzf ?_))))
 refine Zq J J (Zv J J (Zq J J (Z0 J J (ZS0 (t:=18) (v':=.bool false) J (by simp) ?_))))
 refine Zu J J (Zo J (Zq J J (Zz (n:=2) (m:=2) J J J (Zzf ?_))))
 refine Zq J J (Zz (n:=2) (m:=2) J J J (Zzf ?_))
 refine Zq J J ?_
 (refine ZC0 rfl ZK (fun w hS=>frame hS ZQ (fun B' hB hS'=>ref15_SameRelocs hS' d.fRelocs A1 a1 (Kd.C_grow hB g1) D1 d1 (Kd.C_grow hB q1))) ?_;rintro ⟨⟩ -)
 refine Zq J J (Zno ?_)
 refine ZS0 (t:=26) (v':=.bool false) J (by simp) ?_
 refine Zu J J (Zn (Za (wCondF J (Zj (Za (Zh (Zh (Zi (Zp J (Zn (Za (Zk (wLoop (ι:=Nat) (fun i=>[(2,.pointer (some ⟨b2,0,none⟩)),(3,.pointer (some ⟨b3,0,none⟩)),(5,.int .i64 (i:Int))]) (fun i=>[blk b2 62 [.int .i64 d.fKind,.slice A0 d.fWords.length a0,.slice A1 d.fRelocs.length a1],blk b3 62 [.int .i64 d.fKind,.slice D0 d.fWords.length d0,.slice D1 d.fRelocs.length d1]]) (fun i=>i≤d.fWords.length) (fun i=>d.fWords.length-i) 0 ?_ cv (Leads.has ZQ) ?_)))))))))))))
 exact Nat.zero_le _
 rintro i hi
 try dsimp only
 refine Zh (Zh (Zi (Zo J (Zz (n:=1) (m:=1) J J J (Zld ?_)))))
 refine Zv J J (Zx J J (Zn (Za (wC (fun h32=>?_) (fun h32=>?_)))))
 obtain ⟨x,hx⟩:∃ x,d.fWords[i]?=some x:=⟨_,List.getElem?_eq_getElem ZO⟩
 obtain ⟨e1,cs1,hE⟩:=g0.elm hx
 obtain rfl:=(show cs1=[Value.int .i64 x] from hE.K)
 obtain ⟨e2,cs2,hE2⟩:=q0.elm hx
 obtain rfl:=(show cs2=[Value.int .i64 x] from hE2.K)
 have hil:i<d.fWords.length:=by omega
 refine Zj (Za (Zh (Zk (Zh (wDrawG J [0,1,2,3,4,5,6,7,8,9,10] [] [] 24 ZK J J (fun w0=>?_))))))
 refine Zz (n:=1) (m:=1) J J J (Zld ?_)
 refine Zo J (oIdxE J J (hE) ZO J J ?_)
 have hc38:=(hE).cell
 refine Zlx hc38 ?_
 refine Zz (n:=1) (m:=1) J J J (Zld ?_)
 refine Zo J (oIdxE J J (hE2) ZO J J ?_)
 have hc43:=(hE2).cell
 refine Zlx hc43 ?_
 refine Z0 J J (ZS0 (t:=45) (v':=.bool false) J (by simp) ?_)
 refine Z6 (Zn (Za (wCondF J (Zj (Zze ?_)))))
 refine Zp J (Zn (Za ?_))
 exact ⟨rfl,i+1,by omega,by omega,cv,Lh⟩
 refine Zm (Zzg ?_)
 exact ⟨(),trivial,rfl,Lh⟩
theorem ref16_Same {B:Base}{w:World}(hS:St B [] w) (f:ApiFunc) (fc gc:List Value) (hf:kApiFunc.K B.e f fc) (hg:kApiFunc.K B.e f gc) :
 CW 48 #[.agg fc.toArray,.agg gc.toArray] w (Ret B (fun _:Unit=>True) (fun _=>.bool true) (fun _=>[])):=by
 obtain ⟨A0,a0,A1,a1,A2,a2,A3,a3,rfl,l0,g0,l1,g1,l2,g2,l3,g3⟩:=kApiFunc_open hf
 obtain ⟨D0,d0,D1,d1,D2,d2,D3,d3,rfl,m0,q0,m1,q1,m2,q2,m3,q3⟩:=kApiFunc_open hg
 have hl1:=g1.1
 have hl2:=g2.1
 refine ZX Tryz.func48 hS ?_
 refine Zh (Zi (oBox J ZP (fun b2=>?_)))
 refine oBox J ZP (fun b3=>?_)
 refine Zp J (Zn (Za (Zh (Zh (Zi ?_)))))
 simp only [List.append_eq,List.cons_append,List.nil_append]
 refine Zz (n:=0) (m:=0) J J J (Zld ?_)
 refine Zz (n:=0) (m:=0) J J J (Zld ?_)
 refine Z0 J J (ZS0 (t:=11) (v':=.bool false) J (by simp) ?_)
 refine Zo J (Zq J J (Zz (n:=1) (m:=1) J J J (Zzf ?_)))
 refine Zq J J (Zz (n:=1) (m:=1) J J J (Zzf ?_))
 refine Zq J J ?_
 (refine ZC0 rfl ZK (fun w hS=>frame hS ZQ (fun B' hB hS'=>Go.Proofs.YtafiabekcekdbaaGreatG.ints_any hS' A0 a0 f.fKinds (Kd.C_grow hB g0) D0 d0 f.fKinds (Kd.C_grow hB q0))) ?_;rintro ⟨⟩ -)
 refine Zq J J (Zno ?_)
 refine ZS0 (t:=18) (v':=.bool false) J (by simp) ?_
 refine Zu J J (Zo J (Zq J J (Zz (n:=2) (m:=2) J J J (Zzf ?_))))
 refine Zq J J (Zz (n:=2) (m:=2) J J J (Zzf ?_))
 refine Zq J J (Z0 J J (ZS0 (t:=25) (v':=.bool false) J (by simp) ?_))
 refine Zu J J (Zo J (Zq J J (Zz (n:=3) (m:=3) J J J (Zzf ?_))))
 refine Zq J J (Zz (n:=3) (m:=3) J J J (Zzf ?_))
 refine Zq J J (oNeqBool J J J (ZS0 (t:=32) (v':=.bool false) J (by simp) ?_))
 refine Zu J J (Zo J (Zq J J (Zz (n:=4) (m:=4) J J J (Zzf ?_))))
 refine Zq J J (Zz (n:=4) (m:=4) J J J (Zzf ?_))
 refine Zq J J (Z0 J J (ZS0 (t:=39) (v':=.bool false) J (by simp) ?_))
 refine Zu J J (Zo J (Zq J J (Zz (n:=5) (m:=5) J J J (Zzf ?_))))
 refine Zq J J (Zz (n:=5) (m:=5) J J J (Zzf ?_))
 refine Zq J J (Z0 J J (ZS0 (t:=46) (v':=.bool false) J (by simp) ?_))
 refine Zu J J (Zo J (Zq J J (Zz (n:=6) (m:=6) J J J (Zzf ?_))))
 refine Zq J J (Zv J J (Zq J J (Zz (n:=6) (m:=6) J J J (Zzf ?_))))
 refine Zq J J (Zv J J (Zq J J (Z0 J J (ZS0 (t:=55) (v':=.bool false) J (by simp) ?_))))
 refine Zu J J (Zo J (Zq J J (Zz (n:=7) (m:=7) J J J (Zzf ?_))))
 refine Zq J J (Zv J J (Zq J J (Zz (n:=7) (m:=7) J J J (Zzf ?_))))
 refine Zq J J (Zv J J (Zq J J (Z0 J J (ZS0 (t:=64) (v':=.bool false) J (by simp) ?_))))
 refine Zu J J (Zo J (Zq J J (Zz (n:=8) (m:=8) J J J (Zzf ?_))))
 refine Zq J J (Zz (n:=8) (m:=8) J J J (Zzf ?_))
 refine Zq J J ?_
 (refine ZC0 rfl ZK (fun w hS=>frame hS ZQ (fun B' hB hS'=>ref15_SameRelocs hS' f.fRelocs A3 a3 (Kd.C_grow hB g3) D3 d3 (Kd.C_grow hB q3))) ?_;rintro ⟨⟩ -)
 refine Zq J J (Zno ?_)
 refine ZS0 (t:=72) (v':=.bool false) J (by simp) ?_
 refine Zu J J (Zn (Za (wCondF J (Zj (Za (Zh (Zh (Zi (Zp J (Zn (Za (Zk (wLoop (ι:=Nat) (fun i=>[(2,.pointer (some ⟨b2,0,none⟩)),(3,.pointer (some ⟨b3,0,none⟩)),(5,.int .i64 (i:Int))]) (fun i=>[blk b2 57 [.int .i64 f.fClass,.slice A0 f.fKinds.length a0,.int .i64 f.fPad,.bool f.fNosplit,.int .i64 f.fFrom,.int .i64 f.fTo,.slice A1 f.fLines.length a1,.slice A2 f.fCode.length a2,.slice A3 f.fRelocs.length a3],blk b3 57 [.int .i64 f.fClass,.slice D0 f.fKinds.length d0,.int .i64 f.fPad,.bool f.fNosplit,.int .i64 f.fFrom,.int .i64 f.fTo,.slice D1 f.fLines.length d1,.slice D2 f.fCode.length d2,.slice D3 f.fRelocs.length d3]]) (fun i=>i≤f.fLines.length) (fun i=>f.fLines.length-i) 0 ?_ cv (Leads.has ZQ) ?_)))))))))))))
 exact Nat.zero_le _
 rintro i hi
 try dsimp only
 refine Zh (Zh (Zi (Zo J (Zz (n:=6) (m:=6) J J J (Zld ?_)))))
 refine Zv J J (Zx J J (Zn (Za (wC (fun h78=>?_) (fun h78=>?_)))))
 obtain ⟨x,hx⟩:∃ x,f.fLines[i]?=some x:=⟨_,List.getElem?_eq_getElem ZO⟩
 obtain ⟨e1,cs1,hE⟩:=g1.elm hx
 obtain rfl:=kApiLine_open hE.K
 obtain ⟨e2,cs2,hE2⟩:=q1.elm hx
 obtain rfl:=kApiLine_open hE2.K
 have hil:i<f.fLines.length:=by omega
 refine Zj (Za (Zh (Zk (Zh (wDrawG J [0,1,2,3,4,5,6,7,8,9,10] [] [] 24 ZK J J (fun w0=>?_))))))
 refine Zz (n:=6) (m:=6) J J J (Zld ?_)
 refine Zo J (oIdxE J J (hE) ZO J J ?_)
 have hc84:=(hE).cell
 refine Zlx hc84 ?_
 refine Zz (n:=6) (m:=6) J J J (Zld ?_)
 refine Zo J (oIdxE J J (hE2) ZO J J ?_)
 have hc89:=(hE2).cell
 refine Zlx hc89 ?_
 refine Go.Proofs.YtafiabekcekdbaaGreatS.oBinV (r:=.bool false) J J (fun w=>run_eqGuard_agg w .neq _ _ _ _ _ Tryz.eqGuardType134) (fun w=>lin_ne _ w) ?_
 refine Z6 (Zn (Za (wCondF J (Zj (Zze ?_)))))
 refine Zp J (Zn (Za ?_))
 exact ⟨rfl,i+1,by omega,by omega,cv,Lh⟩
 refine Zm (Zb (Zb (Ze (Za (Zh (Zh (Zi (Zp J (Zn (Za (Zk (wLoop (ι:=Nat) (fun i=>[(2,.pointer (some ⟨b2,0,none⟩)),(3,.pointer (some ⟨b3,0,none⟩)),(6,.int .i64 (i:Int))]) (fun i=>[blk b2 57 [.int .i64 f.fClass,.slice A0 f.fKinds.length a0,.int .i64 f.fPad,.bool f.fNosplit,.int .i64 f.fFrom,.int .i64 f.fTo,.slice A1 f.fLines.length a1,.slice A2 f.fCode.length a2,.slice A3 f.fRelocs.length a3],blk b3 57 [.int .i64 f.fClass,.slice D0 f.fKinds.length d0,.int .i64 f.fPad,.bool f.fNosplit,.int .i64 f.fFrom,.int .i64 f.fTo,.slice D1 f.fLines.length d1,.slice D2 f.fCode.length d2,.slice D3 f.fRelocs.length d3]]) (fun i=>i≤f.fCode.length) (fun i=>f.fCode.length-i) 0 ?_ cv (Leads.has ZQ) ?_))))))))))))
 exact Nat.zero_le _
 rintro i hi
 try dsimp only
 refine Zh (Zh (Zi (Zo J (Zz (n:=7) (m:=7) J J J (Zld ?_)))))
 refine Zv J J (Zx J J (Zn (Za (wC (fun h96=>?_) (fun h96=>?_)))))
 obtain ⟨x,hx⟩:∃ x,f.fCode[i]?=some x:=⟨_,List.getElem?_eq_getElem ZO⟩
 obtain ⟨e1,cs1,hE⟩:=g2.elm hx
 obtain rfl:=kApiInstr_open hE.K
 obtain ⟨e2,cs2,hE2⟩:=q2.elm hx
 obtain rfl:=kApiInstr_open hE2.K
 have hil:i<f.fCode.length:=by omega
 refine Zj (Za (Zh (Zk (Zh (wDrawG J [0,1,2,3,4,5,6,7,8,9,10] [] [] 24 ZK J J (fun w0=>?_))))))
 refine Zz (n:=7) (m:=7) J J J (Zld ?_)
 refine Zo J (oIdxE J J (hE) ZO J J ?_)
 have hc102:=(hE).cell
 refine Zlx hc102 ?_
 refine Zz (n:=7) (m:=7) J J J (Zld ?_)
 refine Zo J (oIdxE J J (hE2) ZO J J ?_)
 have hc107:=(hE2).cell
 refine Zlx hc107 ?_
 refine Go.Proofs.YtafiabekcekdbaaGreatS.oBinV (r:=.bool false) J J (fun w=>run_eqGuard_agg w .neq _ _ _ _ _ Tryz.eqGuardType67) (fun w=>ins_ne _ w) ?_
 refine Z6 (Zn (Za (wCondF J (Zj (Zze ?_)))))
 refine Zp J (Zn (Za ?_))
 exact ⟨rfl,i+1,by omega,by omega,cv,Lh⟩
 refine Zm (Zzg ?_)
 exact ⟨(),trivial,rfl,Lh⟩
end Go.Proofs.YtafiabekcekdbaaGreatO
namespace Go.Proofs.YtafiabekcekdbaaGreatK
open Go.RowKit
section
variable {c : Cx} {Q : Post} {E E' : Env} {D : List Deferred} {H : List Res} {P : Program} {ops : Array Oper} {a A : Act} {w w' w0 : World}
variable {ts : List Nat} {listed : Array Bool} {f : Nat}
def statT (ops:Array Oper) (ts:List Nat) (f:Nat):Bool:=
  plainB ops && Region.noSelect ops && ts.all (fun t=>Nat.blt t ops.size) && (List.range ops.size).all (fun i=>match ops[i]? with
    | some o => o.after.all (fun e => !(Region.binds .any e) || Nat.blt e.on i) && (ts.contains i || ((match o.guard with | none => true | some g => !(ts.contains g.1) && waitsP .any ops f i g.1) && (List.range ops.size).all (fun j => match ops[j]? with
        | some o'=>ts.contains j || ((Nat.beq i j || o'.dst != o.dst || o.dst.isNone) && (opTmps o).all (fun t=>o'.dst != some t || waitsP .any ops f i j))
        | none=>true)))
    | none=>true) && ts.all (fun t=>(List.range ops.size).all fun i=>ts.contains i || waitsP .any ops f t i)
theorem stat_opT (hB:statT ops ts f=true) {i:Nat}{o:Oper}(ho:ops[i]?=some o) (hit:i ∉ ts):(∀ g,o.guard=some g→g.1 ∉ ts∧waitsP .any ops f i g.1=true)∧(∀ j o',ops[j]?=some o'→j ∉ ts→j≠i→o.dst≠none→o'.dst≠o.dst)∧(∀ t ∈ opTmps o,∀ j o',ops[j]?=some o'→j ∉ ts→o'.dst=some t→waitsP .any ops f i j=true):=by
 simp only [statT,Bool.and_eq_true] at hB
 have hi:=(Array.getElem?_eq_some_iff.1 ho).1
 have h1:=List.all_eq_true.1 hB.1.2 i (List.mem_range.2 hi)
 rw [ho] at h1
 simp only [Bool.and_eq_true,Bool.or_eq_true] at h1
 rcases h1.2 with h2 | ⟨h2,h4⟩
 · exact absurd (by simpa using h2) hit
 · refine ⟨fun g hg=>?_,fun j o' ho' hjt hji hdn=>?_,fun t ht j o' ho' hjt hd=>?_⟩
   · rw [hg] at h2
     simp only [Bool.and_eq_true] at h2
     exact ⟨by simpa using h2.1,h2.2⟩
   · have hj:=(Array.getElem?_eq_some_iff.1 ho').1
     have h5:=List.all_eq_true.1 h4 j (List.mem_range.2 hj)
     rw [ho'] at h5
     simp only [Bool.or_eq_true,Bool.and_eq_true,Nat.beq_eq,bne_iff_ne,ne_eq] at h5
     rcases h5 with h5 | ⟨h5,_⟩
     · exact absurd (by simpa using h5) hjt
     · rcases h5 with (h5 | h5) | h5
       · exact absurd h5.symm hji
       · exact h5
       · exact absurd (by simpa using h5) hdn
   · have hj:=(Array.getElem?_eq_some_iff.1 ho').1
     have h5:=List.all_eq_true.1 h4 j (List.mem_range.2 hj)
     rw [ho'] at h5
     simp only [Bool.or_eq_true,Bool.and_eq_true] at h5
     rcases h5 with h5 | ⟨_,h5⟩
     · exact absurd (by simpa using h5) hjt
     · have h6:=List.all_eq_true.1 h5 t ht
       simp only [Bool.or_eq_true,bne_iff_ne,ne_eq] at h6
       rcases h6 with h6 | h6
       · exact absurd hd h6
       · exact h6
theorem inv_execT (hB:statT ops ts f=true) {A a:Act}(inv:Inv ops ts A listed a) {i:Nat}{o:Oper}(ho:ops[i]?=some o) (hit:i ∉ ts) (hr:i ∈ Region.ready .any ops listed):execOp a.eval o=execOp A.eval o:=by
 obtain ⟨_,_,h4⟩:=stat_opT hB ho hit
 have hsel:Region.noSelect ops=true:=by simp only [statT,Bool.and_eq_true] at hB;exact hB.1.1.1.2
 refine execOp_congr o (fun cs b=>Region.noSelect_spec hsel i o cs b ho) (fun x hx=>?_)
 cases x with
 | tmp t=>
  show a.tmps.getD t undef=A.tmps.getD t undef
  have ht:t ∈ opTmps o:=List.mem_filterMap.2 ⟨.tmp t,by simpa using hx,rfl⟩
  by_cases h:∃ j o',ops[j]?=some o'∧j ∉ ts∧o'.dst=some t
  · obtain ⟨j,o',ho',hjt,hd⟩:=h
    exact inv.v1 j o' t ho' hjt hd (waitsP_ready inv.hi.closed hr (h4 t ht j o' ho' hjt hd))
  · exact inv.v2 t (fun j o' ho' hjt hd=>h ⟨j,o',ho',hjt,hd⟩)
 | const v=>rfl
 | global g=>rfl
 | func g=>rfl
theorem inv_wantedT (hB:statT ops ts f=true) {A a:Act}(inv:Inv ops ts A listed a) {i:Nat}{o:Oper}(ho:ops[i]?=some o) (hit:i ∉ ts) (hr:i ∈ Region.ready .any ops listed):Region.wanted o (yielded ops a.tmps)=Region.wanted o (yielded ops A.tmps):=by
 obtain ⟨h1,_,_⟩:=stat_opT hB ho hit
 unfold Region.wanted
 cases hg:o.guard with
 | none=>rfl
 | some g=>
  obtain ⟨h2,h3⟩:=h1 g hg
  simp only
  congr 1
  unfold yielded
  cases hog:ops[g.1]? with
  | none=>rfl
  | some og=>
   simp only [Option.bind_some]
   cases hd:og.dst with
   | none=>rfl
   | some d=>
    have:=inv.v1 g.1 og d hog h2 hd (waitsP_ready inv.hi.closed hr h3)
    simp only [Option.bind_some]
    rw [get_eq inv.size d this]
theorem inv_turnT (hB:statT ops ts f=true) {A a:Act}(inv:Inv ops ts A listed a) {i d:Nat}{o:Oper}{v:Value}(ho:ops[i]?=some o) (hit:i ∉ ts) (hr:i ∈ Region.ready .any ops listed) (hd:o.dst=some d) (hdl:d<A.tmps.size):Inv ops ts (A.put o.dst v) (listed.setIfInBounds i true) (a.put o.dst v):=by
 obtain ⟨_,h3,_⟩:=stat_opT hB ho hit
 rw [hd]
 refine ⟨inv.hi.set hr hit,by simp [Act.put,inv.size],inv.dfr,fun j o' d' ho' hjt hd' hl=>?_,fun t ht=>?_⟩
 · by_cases hji:j=i
   · subst hji
     have:o'=o:=Option.some.inj (ho'.symm.trans ho)
     subst this
     have:d'=d:=Option.some.inj (hd'.symm.trans hd)
     subst this
     simp [Act.put,inv.size,hdl]
   · rw [getD_set_ne false (Ne.symm hji)] at hl
     have hne:d≠d':=by rintro rfl;exact h3 j o' ho' hjt hji (by rw [hd];simp) (hd'.trans hd.symm)
     have:=inv.v1 j o' d' ho' hjt hd' hl
     simp only [Act.put,Array.getD_eq_getD_getElem?,Array.getElem?_setIfInBounds,if_neg hne] at this ⊢
     exact this
 · have hne:d≠t:=by rintro rfl;exact ht i o ho hit hd
   have:=inv.v2 t ht
   simp only [Act.put,Array.getD_eq_getD_getElem?,Array.getElem?_setIfInBounds,if_neg hne] at this ⊢
   exact this
theorem inv_putT (hB:statT ops ts f=true) {A a:Act}(inv:Inv ops ts A listed a) {i d:Nat}{o:Oper}(ho:ops[i]?=some o) (hit:i ∉ ts) (hr:i ∈ Region.ready .any ops listed) (hd:o.dst=some d) (hdl:d<A.tmps.size):Inv ops ts A (listed.setIfInBounds i true) (a.put o.dst (A.tmps.getD d undef)):=by
 have h:=inv_turnT (v:=A.tmps.getD d undef) hB inv ho hit hr hd hdl
 have e:A.put o.dst (A.tmps.getD d undef)=A:=by
  rw [hd]
  obtain ⟨At,Ad⟩:=A
  show Act.mk _ _=_
  congr 1
  exact put_same hdl
 rw [e] at h
 exact h
theorem step_valT (hB:statT ops ts f=true) {A a:Act}(inv:Inv ops ts A listed a) {Q':Exit→Act→World→Prop}{i:Nat}(hit:i ∉ ts) (hr:i ∈ Region.ready .any ops listed) {w:World}(hdl:∀ (i:Nat) (o:Oper) (d:Nat),ops[i]?=some o→o.dst=some d→d<A.tmps.size) (h:lkG c.P ops A w i) {K:Act→World→Prop}
 (hK:∀ a',Inv ops ts A (listed.setIfInBounds i true) a'→K a' w):wpOpIn c.F 0 c.P ops Q' i K a w:=by
 obtain ⟨o,d,ho,hd,hrun⟩:=h
 have hpl:plainB ops=true:=by simp only [statT,Bool.and_eq_true] at hB;exact hB.1.1.1.1
 unfold wpOpIn
 simp only [ho]
 have hp:=inv_putT hB inv ho hit hr hd (hdl i o d ho hd)
 rw [inv_wantedT hB inv ho hit hr]
 by_cases hwd:Region.wanted o (yielded ops A.tmps)=true
 · rw [if_pos hwd] at hrun ⊢
   refine ⟨fun g _=>c.fn g,?_⟩
   rw [semAt_plain' _ _ _ (plain_at hpl ho),inv_execT hB inv ho hit hr,hrun]
   exact hK _ hp
 · rw [if_neg hwd] at hrun ⊢
   refine ⟨fun g _=>c.fn g,?_⟩
   rw [hrun] at hp
   exact hK _ hp
theorem step_turnT (hB:statT ops ts f=true) {A a:Act}(inv:Inv ops ts A listed a) {Q':Exit→Act→World→Prop}{i:Nat}{o:Oper}(ho:ops[i]?=some o) (hit:i ∉ ts) (hr:i ∈ Region.ready .any ops listed) {w:World}{K K':Act→World→Prop}(h:rnC c.P ops K [o] A w) (hK:∀ v w',K (A.put o.dst v) w'→K' (a.put o.dst v) w'):wpOpIn c.F 0 c.P ops Q' i K' a w:=by
 have hpl:plainB ops=true:=by simp only [statT,Bool.and_eq_true] at hB;exact hB.1.1.1.1
 simp only [rnC] at h
 unfold wpOpIn
 simp only [ho]
 rw [inv_wantedT hB inv ho hit hr]
 by_cases hwd:Region.wanted o (yielded ops A.tmps)=true
 · rw [if_pos hwd] at h ⊢
   refine ⟨fun g _=>c.fn g,?_⟩
   rw [semAt_plain' _ _ _ (plain_at hpl ho),inv_execT hB inv ho hit hr]
   rcases h with ⟨v,w',h1,h2⟩ | ⟨w',h1,h2⟩ | ⟨g,args,w1,h1,h2⟩
   · rw [h1];exact hK _ _ h2
   · rw [h1];exact hK _ _ h2
   · rw [h1]
     refine ⟨fun h=>(by rw [c.dp] at h;cases h),c.call (h2.mono ?_)⟩
     rintro e w2 ⟨v,rfl,h3⟩
     exact hK _ _ h3
 · rw [if_neg hwd] at h ⊢
   exact ⟨fun g _=>c.fn g,hK _ _ h⟩
theorem inv_turnN {A a:Act}(inv:Inv ops ts A listed a) {i:Nat}{o:Oper}{v:Value}(ho:ops[i]?=some o) (hit:i ∉ ts) (hr:i ∈ Region.ready .any ops listed) (hd:o.dst=none):Inv ops ts (A.put o.dst v) (listed.setIfInBounds i true) (a.put o.dst v):=by
 rw [hd]
 refine ⟨inv.hi.set hr hit,inv.size,inv.dfr,fun j o' d' ho' hjt hd' hl=>?_,fun t ht=>inv.v2 t ht⟩
 by_cases hji:j=i
 · subst hji
   have:o'=o:=Option.some.inj (ho'.symm.trans ho)
   subst this
   rw [hd] at hd';cases hd'
 · rw [getD_set_ne false (Ne.symm hji)] at hl
   exact inv.v1 j o' d' ho' hjt hd' hl
theorem inv_turnA (hB:statT ops ts f=true) {A a:Act}(inv:Inv ops ts A listed a) {i:Nat}{o:Oper}{v:Value}(ho:ops[i]?=some o) (hit:i ∉ ts) (hr:i ∈ Region.ready .any ops listed) (hdl:∀ d,o.dst=some d→d<A.tmps.size):Inv ops ts (A.put o.dst v) (listed.setIfInBounds i true) (a.put o.dst v):=by
 cases hd:o.dst with
 | none=>have:=inv_turnN (v:=v) inv ho hit hr hd;rw [hd] at this;exact this
 | some d=>have:=inv_turnT (v:=v) hB inv ho hit hr hd (hdl d hd);rw [hd] at this;exact this
inductive TreeG where
  | tail
  | stop
  | alt (e:Nat) (res nw:List Nat) (sub more:TreeG)
def TreeG.alts:TreeG→List Nat
  | .alt e _ _ _ more=>e :: more.alts
  | _=>[]
def segT (c:Cx) (ops:Array Oper) (Q:Post) (tl:List Oper):TreeG→Act→World→Prop
  | .tail,a,w=>wpListIn c.F 0 c.P ops (lift c Q) tl a w
  | .stop,_,_=>True
  | .alt e res nw sub more,a,w=>(∃ o,ops[e]?=some o∧rnC c.P ops (fun a' w'=>(∀ i ∈ res,lkG c.P ops a' w' i)∧∃ l,nw.mapM (fun k=>ops[k]?)=some l∧lkX c.P ops w' (fun a''=>segT c ops Q tl sub a'' w') l a') [o] a w)∧segT c ops Q tl more a w
def altB (ops:Array Oper) (N:Nat) (ts lks:List Nat) (f:Nat) (es:List Nat) (e:Nat) (res nw:List Nat):Bool:=
  !(ts.contains e) && !(lks.contains e) && !(es.contains e) && Nat.blt e ops.size && orderG ops N nw && (res.all fun i=>lks.contains i && nw.all fun j=>keepG ops i j) && (nw.all fun i=>!(ts.contains i) && lks.contains i && waitsP .any ops f i e)
def covB (ops:Array Oper) (ts:List Nat) (f:Nat) (es ls al:List Nat):Bool:=(List.range ops.size).all fun i=>ts.contains i || ls.contains i || al.contains i || es.any (fun e=>Nat.beq e i || waitsP .any ops f e i) || al.any (fun e=>waitsP .any ops f i e)
def phT (ops:Array Oper) (N:Nat) (ts lks:List Nat) (f:Nat):Bool→List Nat→List Nat→TreeG→Bool
  | true,es,ls,.tail=>covB ops ts f es ls []
  | false,_,_,.tail=>false
  | true,_,_,.stop=>false
  | false,_,_,.stop=>true
  | b,es,ls,.alt e res nw sub more=>(!b || covB ops ts f es ls (e :: more.alts)) && altB ops N ts lks f es e res nw && phT ops N ts lks f true (e :: es) (res++nw) sub && phT ops N ts lks f false es ls more
theorem alt_of {N:Nat}{lks es ls:List Nat}{tl:List Oper}{A:Act}{w:World}{i:Nat} : ∀ {T:TreeG}{b:Bool},i ∈ T.alts→phT ops N ts lks f b es ls T=true→segT c ops Q tl T A w→∃ res nw sub o,altB ops N ts lks f es i res nw=true∧phT ops N ts lks f true (i :: es) (res++nw) sub=true∧ops[i]?=some o∧rnC c.P ops (fun a' w'=>(∀ i ∈ res,lkG c.P ops a' w' i)∧∃ l,nw.mapM (fun k=>ops[k]?)=some l∧lkX c.P ops w' (fun a''=>segT c ops Q tl sub a'' w') l a') [o] A w
 | .tail,_,hi,_,_=>by simp [TreeG.alts] at hi
 | .stop,_,hi,_,_=>by simp [TreeG.alts] at hi
 | .alt e res nw sub more,b,hi,hp,hs=>by
  simp only [phT,Bool.and_eq_true] at hp
  obtain ⟨⟨o,ho,hr⟩,hm⟩:=hs
  rcases List.mem_cons.1 hi with rfl | hi
  · exact ⟨res,nw,sub,o,hp.1.1.2,hp.1.2,ho,hr⟩
  · exact alt_of hi hp.2 hm
theorem alt_B {N:Nat}{lks es ls:List Nat}{i:Nat} : ∀ {T:TreeG}{b:Bool},i ∈ T.alts→phT ops N ts lks f b es ls T=true→∃ res nw,altB ops N ts lks f es i res nw=true
 | .tail,_,hi,_=>by simp [TreeG.alts] at hi
 | .stop,_,hi,_=>by simp [TreeG.alts] at hi
 | .alt e res nw sub more,b,hi,hp=>by
  simp only [phT,Bool.and_eq_true] at hp
  rcases List.mem_cons.1 hi with rfl | hi
  · exact ⟨res,nw,hp.1.1.2⟩
  · exact alt_B hi hp.2
theorem phT_cov {N:Nat}{lks es ls:List Nat}{T:TreeG}(h:phT ops N ts lks f true es ls T=true):covB ops ts f es ls T.alts=true∧(T=.tail∨T.alts≠[]):=by
 cases T with
 | tail=>exact ⟨h,.inl rfl⟩
 | stop=>cases h
 | alt e res nw sub more=>
  simp only [phT,Bool.and_eq_true,Bool.not_true,Bool.false_or] at h
  exact ⟨h.1.1.1,.inr (by simp [TreeG.alts])⟩
theorem phasesT (hB:statT ops ts f=true) {tl:List Oper}(htl:ts.mapM (fun t=>ops[t]?)=some tl) (hseq:seqT .any ops ts (doneL ops ts)=true) {M:Nat}{lks:List Nat}(hlkt:∀ i ∈ lks,i ∉ ts) (hdl:∀ (i:Nat) (o:Oper) (d:Nat),ops[i]?=some o→o.dst=some d→d<M) :
 ∀ (n:Nat) (T:TreeG) (ls es:List Nat) (listed:Array Bool) (A a:Act) (w:World),cnt ops ts listed=n→A.tmps.size=M→Inv ops ts A listed a→(∀ i ∈ ls,i ∈ lks∧lkG c.P ops A w i)→segT c ops Q tl T A w→phT ops M ts lks f true es ls T=true→
  (∀ e ∈ es,listed.getD e false=true)→(∀ i,listed.getD i false=true→i ∈ es∨i ∈ lks)→wpAnyIn c.F 0 c.P .any ops (lift c Q) (n+ts.length) listed a w:=by
 have hB':=hB
 simp only [statT,Bool.and_eq_true] at hB'
 have unl:∀ {T:TreeG}{es ls:List Nat}{listed:Array Bool}{i:Nat},phT ops M ts lks f true es ls T=true→(∀ i,listed.getD i false=true→i ∈ es∨i ∈ lks)→i ∈ T.alts→i ∉ ts∧i<ops.size∧listed.getD i false=false:=by
  intro T es ls listed i hph hli hi
  obtain ⟨res,nw,hb⟩:=alt_B hi hph
  simp only [altB,Bool.and_eq_true,Nat.blt_eq] at hb
  refine ⟨by simpa using hb.1.1.1.1.1.1,hb.1.1.1.2,?_⟩
  cases hl:listed.getD i false with
  | false=>rfl
  | true=>
   have h1:i ∉ lks:=by simpa using hb.1.1.1.1.1.2
   have h2:i ∉ es:=by simpa using hb.1.1.1.1.2
   exact ((hli i hl).elim h2 h1).elim
 intro n
 induction n with
 | zero=>
  intro T ls es listed A a w hc hM inv hl hcan hph hes hli
  have hlist:∀ i,i<ops.size→i ∉ ts→listed.getD i true=true:=fun i hi hit=>by
   cases hv:listed.getD i true with
   | true=>rfl
   | false=>
    have hm:i ∈ (List.range ops.size).filter fun i=>!(ts.contains i) && !(listed.getD i true):=List.mem_filter.2 ⟨List.mem_range.2 hi,by simp [hit,hv]⟩
    unfold cnt at hc
    rw [List.eq_nil_of_length_eq_zero hc] at hm
    cases hm
  rcases (phT_cov hph).2 with rfl | hne
  · have hcan:wpListIn c.F 0 c.P ops (lift c Q) tl A w:=hcan
    have hL:listed=doneL ops ts:=by
     apply Array.ext
     · rw [inv.hi.size];simp [doneL]
     · intro i h1 h2
       have hi:i<ops.size:=by rw [← inv.hi.size];exact h1
       have e1:listed[i]=listed.getD i true:=by simp [h1]
       rw [e1]
       simp only [doneL,List.getElem_toArray,List.getElem_map,List.getElem_range]
       by_cases hit:i ∈ ts
       · rw [inv.hi.tail i hit];simp [hit]
       · rw [hlist i hi hit];simp [hit]
    have hA:a=A:=by
     obtain ⟨at_,ad⟩:=a
     obtain ⟨At,Ad⟩:=A
     have h1:=inv.dfr
     simp only at h1
     subst h1
     congr 1
     apply Array.ext
     · exact inv.size
     · intro t h1 h2
       have key:at_.getD t undef=At.getD t undef:=by
        by_cases h:∃ j o',ops[j]?=some o'∧j ∉ ts∧o'.dst=some t
        · obtain ⟨j,o',ho',hjt,hd⟩:=h
          exact inv.v1 j o' t ho' hjt hd (by
           have hj:=(Array.getElem?_eq_some_iff.1 ho').1
           have:=hlist j hj hjt
           simp [inv.hi.size,hj] at this ⊢
           exact this)
        · exact inv.v2 t (fun j o' ho' hjt hd=>h ⟨j,o',ho',hjt,hd⟩)
       simpa [h1,h2] using key
    subst hA
    rw [Nat.zero_add]
    exact wpAnyIn_of_seqT ts tl listed a w htl (by rw [hL];exact hseq) hcan
  · obtain ⟨e,he⟩:=List.exists_mem_of_ne_nil _ hne
    obtain ⟨h1,h2,h3⟩:=unl hph hli he
    have h4:=hlist e h2 h1
    have h5:e<listed.size:=by rw [inv.hi.size];exact h2
    simp [h5] at h3 h4
    rw [h3] at h4;cases h4
 | succ n ih=>
  intro T ls es listed A a w hc hM inv hl hcan hph hes hli
  have hdl':∀ (i:Nat) (o:Oper) (d:Nat),ops[i]?=some o→o.dst=some d→d<A.tmps.size:=fun i o d h1 h2=>hM ▸ hdl i o d h1 h2
  rw [show n+1+ts.length=(n+ts.length)+1 by omega]
  have hne:Region.ready .any ops listed≠[]:=by
   have hex:∃ i,i<ops.size∧listed.getD i true=false:=by
    apply Classical.byContradiction
    intro h
    have:(List.range ops.size).filter (fun i=>!(ts.contains i) && !(listed.getD i true))=[]:=List.filter_eq_nil_iff.2 (fun i hi=>by
     have:=List.mem_range.1 hi
     cases hv:listed.getD i true with
     | true=>simp
     | false=>exact absurd ⟨i,this,hv⟩ h)
    unfold cnt at hc
    rw [this] at hc
    cases hc
   have hmin:∀ n i,i<n→i<ops.size→listed.getD i true=false→Region.ready .any ops listed≠[]:=by
    intro n
    induction n with
    | zero=>intro i hi;omega
    | succ n ihn=>
     intro i hin hi hun
     by_cases hlow:∃ k,k<i∧listed.getD k true=false
     · obtain ⟨k,hk,hku⟩:=hlow
       exact ihn k (by omega) (by omega) hku
     · intro hr
       have:i ∈ Region.ready .any ops listed:=mem_ready.2 ⟨hun,ops[i],Array.getElem?_eq_getElem hi,fun e he hb=>by
        have h1:=List.all_eq_true.1 hB'.1.2 i (List.mem_range.2 hi)
        rw [Array.getElem?_eq_getElem hi] at h1
        simp only [Bool.and_eq_true] at h1
        have h2:=Array.all_eq_true'.1 h1.1 e he
        rw [hb] at h2
        have h3:e.on<i:=by simpa [Nat.blt_eq] using h2
        have h4:listed.getD e.on true≠false:=fun h=>hlow ⟨e.on,h3,h⟩
        have h5:e.on<listed.size:=by rw [inv.hi.size];omega
        simp [h5] at h4 ⊢
        exact h4⟩
       rw [hr] at this;cases this
   obtain ⟨i,hi,hun⟩:=hex
   exact hmin (i+1) i (by omega) hi hun
  refine ⟨fun h=>absurd h hne,fun i hir=>?_⟩
  obtain ⟨hun,oi,hoi,_⟩:=mem_ready.1 hir
  have hi:=(Array.getElem?_eq_some_iff.1 hoi).1
  have hit:i ∉ ts:=fun h=>by
   have h1:=List.all_eq_true.1 hB'.2 i h
   have hz:cnt ops ts listed=0:=by
    unfold cnt
    rw [List.length_eq_zero_iff,List.filter_eq_nil_iff]
    intro k hk
    have h2:=List.all_eq_true.1 h1 k hk
    rw [Bool.or_eq_true] at h2
    rcases h2 with h2 | h2
    · simp only [h2];simp
    · have h3:=waitsP_ready inv.hi.closed hir h2
      have:listed.getD k true=true:=by
       have hk':=List.mem_range.1 hk
       simp [inv.hi.size,hk'] at h3 ⊢;exact h3
      rw [this];simp
   omega
  have hc':cnt ops ts (listed.setIfInBounds i true)=n:=by have:=cnt_set hi inv.hi.size hit hun;omega
  have hes':∀ es':List Nat,(∀ e ∈ es',listed.getD e false=true)→∀ e ∈ es',(listed.setIfInBounds i true).getD e false=true:=fun es' h e he=>getD_set_true (h e he)
  have nolist:¬ listed.getD i false=true:=fun h=>by rw [getD_both hun] at h;cases h
  have byes:es.any (fun e'=>Nat.beq e' i || waitsP .any ops f e' i)=true→False:=fun h=>by
   obtain ⟨e',he',h⟩:=List.any_eq_true.1 h
   simp only [Bool.or_eq_true,Nat.beq_eq] at h
   rcases h with rfl | h
   · exact nolist (hes _ he')
   · exact nolist (waitsP_listed inv.hi.closed f e' i (hes _ he') h)
  have hli':∀ es':List Nat,(∀ e ∈ es,e ∈ es')→(i ∈ es'∨i ∈ lks)→∀ k,(listed.setIfInBounds i true).getD k false=true→k ∈ es'∨k ∈ lks:=fun es' h0 h1 k hk=>by
   by_cases hki:k=i
   · subst hki;exact h1
   · rw [getD_set_ne false (Ne.symm hki)] at hk
     exact (hli k hk).imp (h0 k) id
  have h1:=List.all_eq_true.1 (phT_cov hph).1 i (List.mem_range.2 hi)
  simp only [Bool.or_eq_true] at h1
  rcases h1 with (((h1 | h1) | h1) | h1) | h1
  · exact absurd (by simpa using h1) hit
  · have hil:i ∈ ls:=by simpa using h1
    exact step_valT hB inv hit hir hdl' (hl i hil).2 (fun a' inv'=>ih T ls es _ A a' w hc' hM inv' hl hcan hph (hes' es hes) (hli' es (fun _ h=>h) (.inr (hl i hil).1)))
  · obtain ⟨res,nw,sub,o,hab,hps,ho,hrn⟩:=alt_of (by simpa using h1) hph hcan
    have hsel:Region.noSelect ops=true:=hB'.1.1.1.2
    simp only [altB,Bool.and_eq_true] at hab
    obtain ⟨⟨⟨-,hn1⟩,hn2⟩,hn3⟩:=hab
    refine step_turnT hB inv ho hit hir hrn (fun v w' hk=>?_)
    obtain ⟨hre,l,hml,hlk⟩:=hk
    have hM':(A.put o.dst v).tmps.size=M:=by cases hd:o.dst <;> simpa [Act.put] using hM
    obtain ⟨A2,hA1,hA2,hA3,hA4,hA5⟩:=lk_canG (c:=c) hsel nw l res (A.put o.dst v) hml hn1 hM' hre (fun i hi j hj=>by
     have h2:=List.all_eq_true.1 hn2 i hi
     rw [Bool.and_eq_true] at h2
     exact List.all_eq_true.1 h2.2 j hj) hlk
    have inv1:=inv_turnA (v:=v) hB inv ho hit hir (fun d hd=>hdl' i o d ho hd)
    have hnw:∀ j ∈ nw,j ∉ ts∧j ∈ lks∧waitsP .any ops f j i=true:=fun j hj=>by
     have h2:=List.all_eq_true.1 hn3 j hj
     simp only [Bool.and_eq_true] at h2
     exact ⟨by simpa using h2.1.1,by simpa using h2.1.2,h2.2⟩
    have hnl:∀ j ∈ nw,j ∉ ts∧(listed.setIfInBounds i true).getD j false=true→False:=fun j hj hl=>by
     have h1:=hnw j hj
     by_cases hji:j=i
     · subst hji
       have:=waitsP_ready inv.hi.closed hir h1.2.2
       exact nolist this
     · have h2:listed.getD j false=true:=by rw [← getD_set_ne false (Ne.symm hji)];exact hl.2
       exact nolist (waitsP_listed inv.hi.closed f j i h2 h1.2.2)
    have inv2:Inv ops ts A2 (listed.setIfInBounds i true) (a.put o.dst v):=by
     refine ⟨inv1.hi,by rw [inv1.size,hA1,hM'],by rw [inv1.dfr,hA2],fun j o' d' ho' hjt hd' hl=>?_,fun t ht=>?_⟩
     · rw [inv1.v1 j o' d' ho' hjt hd' hl]
       refine (hA3 d' (fun k hk ok hok hdk=>?_)).symm
       have hkt:k ∉ ts:=(hnw k hk).1
       by_cases hkj:k=j
       · subst hkj;exact hnl k hk ⟨hjt,hl⟩
       · exact (stat_opT hB ho' hjt).2.1 k ok hok hkt hkj (by rw [hd'];simp) (hdk.trans hd'.symm)
     · rw [inv1.v2 t ht]
       refine (hA3 t (fun k hk ok hok hdk=>?_)).symm
       exact ht k ok hok (hnw k hk).1 hdk
    refine ih sub (res++nw) (i :: es) _ A2 _ w' hc' hA1 inv2 (fun k hk=>⟨?_,hA4 k hk⟩) hA5 hps (fun e he=>?_) (hli' _ (fun _ h=>List.mem_cons_of_mem _ h) (.inl List.mem_cons_self))
    · rcases List.mem_append.1 hk with hk | hk
      · have h2:=List.all_eq_true.1 hn2 k hk
        rw [Bool.and_eq_true] at h2
        simpa using h2.1
      · exact (hnw k hk).2.1
    · rcases List.mem_cons.1 he with rfl | he
      · simp [inv.hi.size,hi]
      · exact getD_set_true (hes e he)
  · exact (byes h1).elim
  · obtain ⟨e,he,hw⟩:=List.any_eq_true.1 h1
    have h2:=waitsP_ready inv.hi.closed hir hw
    have h3:=(unl hph hli he).2.2
    rw [h3] at h2;cases h2
def drawR (ops:Array Oper) (N:Nat) (ks lks:List Nat) (T:TreeG) (ts:List Nat) (f:Nat):Bool:=
  statT ops ts f && orderG ops N ks && phT ops N ts lks f true [] ks T && seqT .any ops ts (doneL ops ts) && ops.all (fun o=>o.dst.all fun d=>Nat.blt d N) &&
    ks.all (fun k=>lks.contains k) && lks.all (fun k=>!(ts.contains k)) && Nat.beq (cnt ops ts (Array.replicate ops.size false)+ts.length) ops.size
theorem wDrawR (hm:c.P.follows .mixedOrders=true) {id:Nat}{l hd tl:List Oper}(ks lks:List Nat) (T:TreeG) (ts:List Nat) (f:Nat) (hB:drawR l.toArray c.N ks lks T ts f=true) (hk:ks.mapM (fun k=>l[k]?)=some hd) (htl:ts.mapM (fun k=>l[k]?)=some tl)
 (h:∀ w0,O (Md.lk c l.toArray w0 (fun a=>segT c l.toArray Q tl T a w0)) hd E D H):W c (.region id l.toArray true) Q E D H:=by
 intro a w ha hw
 refine wpIn_region_any hm ?_
 simp only [drawR,Bool.and_eq_true,decide_eq_true_eq,Nat.beq_eq] at hB
 obtain ⟨⟨⟨⟨⟨⟨⟨hst,hor⟩,hph⟩,hseq⟩,hN⟩,hkl⟩,hlt⟩,hcnt⟩:=hB
 have hst':=hst
 simp only [statT,Bool.and_eq_true] at hst'
 have hsel:Region.noSelect l.toArray=true:=hst'.1.1.1.2
 have htr:=hst'.1.1.2
 have hlt:∀ k ∈ lks,k ∉ ts:=fun k hk=>by simpa using List.all_eq_true.1 hlt k hk
 have hkl:∀ k ∈ ks,k ∈ lks:=fun k hk=>by simpa using List.all_eq_true.1 hkl k hk
 have hks:ks.mapM (fun k=>l.toArray[k]?)=some hd:=by simpa using hk
 have htl':ts.mapM (fun k=>l.toArray[k]?)=some tl:=by simpa using htl
 obtain ⟨A,hA1,hA2,hA3,hA4,hA5⟩:=lk_canG (c:=c) hsel ks hd [] a hks hor ha.size (by simp) (by simp) (h w.drew a w.drew ha hw.drew rfl)
 rw [List.nil_append] at hA4
 have hdl:∀ (i:Nat) (o:Oper) (d:Nat),l.toArray[i]?=some o→o.dst=some d→d<c.N:=fun i o d ho hd=>by
  obtain ⟨hi,he⟩:=Array.getElem?_eq_some_iff.1 ho
  have h1:=Array.all_eq_true.1 hN i hi
  rw [he,hd] at h1
  simpa [Nat.blt_eq] using h1
 have inv:Inv l.toArray ts A (Array.replicate l.toArray.size false) a:=by
  refine ⟨⟨by simp,fun j oj _ hl=>(by rw [getD_replicate_false] at hl;cases hl),fun t ht=>getD_in (by have:=List.all_eq_true.1 htr t ht;simpa [Nat.blt_eq] using this) (getD_replicate_false _ _)⟩,by rw [hA1,ha.size],hA2.symm,fun i o d ho hit hd hl=>(by rw [getD_replicate_false] at hl;cases hl),fun t ht=>(hA3 t (fun j hj o ho hd=>?_)).symm⟩
  exact ht j o ho (hlt j (hkl j hj)) hd
 have hgo:=phasesT (c:=c) (Q:=Q) hst htl' hseq hlt hdl _ T ks [] (Array.replicate l.toArray.size false) A a w.drew rfl hA1 inv (fun i hi=>⟨hkl i hi,hA4 i hi⟩) hA5 hph (by simp) (fun i hl=>(by rw [getD_replicate_false] at hl;cases hl))
 rw [hcnt] at hgo
 exact hgo
theorem oAltT {tl:List Oper}{e:Nat}{res nw:List Nat}{sub more:TreeG}{w0:World}{o:Oper}(he:ops[e]?=some o) (h:O (Me.rnC c ops (fun a' w'=>(∀ i ∈ res,lkG c.P ops a' w' i)∧∃ l,nw.mapM (fun k=>ops[k]?)=some l∧lkX c.P ops w' (fun a''=>segT c ops Q tl sub a'' w') l a')).toMd [o] E D H)
 (k:O (Md.lk c ops w0 (fun a=>segT c ops Q tl more a w0)) [] E D H):O (Md.lk c ops w0 (fun a=>segT c ops Q tl (.alt e res nw sub more) a w0)) [] E D H:=by
 rintro a w ha hw rfl
 exact ⟨⟨o,he,h a w ha hw⟩,k a w ha hw rfl⟩
theorem oStopT {tl:List Oper}{w0:World} : O (Md.lk c ops w0 (fun a=>segT c ops Q tl .stop a w0)) [] E D H:=fun _ _ _ _ _=>trivial
theorem oAgainT {tl:List Oper}{res nw:List Nat}{sub:TreeG}{l:List Oper}(hre:AgainG c ops E D H res) (hl:nw.mapM (fun k=>ops[k]?)=some l) (h:∀ w0,O (Md.lk c ops w0 (fun a''=>segT c ops Q tl sub a'' w0)) l E D H):O (Me.rnC c ops (fun a' w'=>(∀ i ∈ res,lkG c.P ops a' w' i)∧∃ l,nw.mapM (fun k=>ops[k]?)=some l∧lkX c.P ops w' (fun a''=>segT c ops Q tl sub a'' w') l a')).toMd [] E D H:=
 fun a w ha hw=>⟨hre a w ha hw,l,hl,h w a w ha hw rfl⟩
theorem oTailT {tl:List Oper}{w0:World}(h:O (Me.list c ops Q).toMd tl E D H):O (Md.lk c ops w0 (fun a=>segT c ops Q tl .tail a w0)) [] E D H:=by
 rintro a w ha hw rfl
 exact h a w ha hw
end
end Go.Proofs.YtafiabekcekdbaaGreatK
namespace Go.Proofs.YtafiabekcekdbaaGreatO
set_option maxRecDepth 100000
set_option maxHeartbeats 4000000
open Go.RowKit Go.Proofs.YtafiabekcekdbaaGreatK Go.Proofs.YtafiabekcekdbaaGreatT Go.Proofs.YtafiabekcekdbaaGreatL Go.Proofs.YtafiabekcekdbaaGreatV Go.Proofs.YtafiabekcekdbaaGreatG Go.Proofs.YtafiabekcekdbaaGreatW Go.Proofs.YtafiabekcekdbaaGreatU

theorem ref24_Same {B:Base}{w:World}(hS:St B [] w) (p:ApiProgram) (pc rc:List Value) (hp:kApiProgram.K B.e p pc) (hr:kApiProgram.K B.e p rc) :
 CW 20 #[.agg pc.toArray,.agg rc.toArray] w (Ret B (fun _:Unit=>True) (fun _=>.bool true) (fun _=>[])):=by
 obtain ⟨A0,a0,A1,a1,rfl,l0,g0,l1,g1⟩:=kApiProgram_open hp
 obtain ⟨D0,d0,D1,d1,rfl,m0,q0,m1,q1⟩:=kApiProgram_open hr
 have hl0:=g0.1
 have hl1:=g1.1
 refine ZX Tryz.func20 hS ?_
 refine Zh (Zi (oBox J ZP (fun b2=>?_)))
 refine oBox J ZP (fun b3=>?_)
 refine Zp J (Zn (Za (Zh (Zh (Zi (Zz (n:=0) (m:=0) J J J (Zld ?_)))))))
 refine Zv J J (Zz (n:=0) (m:=0) J J J (Zld ?_))
 refine Zv J J (Z0 J J (ZS0 (t:=17) (v':=.bool false) J (by simp) ?_))
 refine Zo J (Zq J J (Zz (n:=1) (m:=1) J J J (Zzf ?_)))
 refine Zq J J (Zv J J (Zq J J (Zz (n:=1) (m:=1) J J J (Zzf ?_))))
 refine Zq J J (Zv J J (Zq J J (Z0 J J (ZS0 (t:=25) (v':=.bool false) J (by simp) ?_))))
 refine Zu J J (Zo J (Zq J J (Zz (n:=2) (m:=2) J J J (Zzf ?_))))
 refine Zq J J (Zz (n:=2) (m:=2) J J J (Zzf ?_))
 refine Zq J J (Z0 J J (ZS0 (t:=32) (v':=.bool false) J (by simp) ?_))
 refine Zu J J (Zn (Za (wCondF J (Zj (Za (Zh (Zh (Zi (Zp J (Zn (Za (Zk (wLoop (ι:=Nat) (fun i=>[(2,.pointer (some ⟨b2,0,none⟩)),(3,.pointer (some ⟨b3,0,none⟩)),(5,.int .i64 (i:Int))]) (fun i=>[blk b2 43 [.slice A0 p.fFuns.length a0,.slice A1 p.fDats.length a1,.int .i64 p.fEntry],blk b3 43 [.slice D0 p.fFuns.length d0,.slice D1 p.fDats.length d1,.int .i64 p.fEntry]]) (fun i=>i≤p.fFuns.length) (fun i=>p.fFuns.length-i) 0 ?_ cv (Leads.has ZQ) ?_)))))))))))))
 exact Nat.zero_le _
 rintro i hi
 try dsimp only
 refine Zh (Zh (Zi (Zo J (Zz (n:=0) (m:=0) J J J (Zld ?_)))))
 refine Zv J J (Zx J J (Zn (Za (wC (fun h38=>?_) (fun h38=>?_)))))
 obtain ⟨f,hx⟩:∃ x,p.fFuns[i]?=some x:=⟨_,List.getElem?_eq_getElem ZO⟩
 obtain ⟨e1,cs1,hE⟩:=g0.elm hx
 obtain ⟨F0,f0,F1,f1,F2,f2,F3,f3,F4,f4,rfl,n0,r0,n1,r1,n2,r2,n3,r3,n4,r4⟩:=kApiFun_open hE.K
 obtain ⟨e2,cs2,hE2⟩:=q0.elm hx
 obtain ⟨G0,g0',G1,g1',G2,g2',G3,g3',G4,g4',rfl,k0,t0,k1,t1,k2,t2,k3,t3,k4,t4⟩:=kApiFun_open hE2.K
 have hil:i<p.fFuns.length:=by omega
 refine Zj (Za (Zh (Zk (Zh (wDrawR J [0,1,2,3,4,5,6,7,8,9] [0,1,2,3,4,5,6,7,8,9] (.alt 10 [0,1,2,3,4,5,6,7,8,9] [] (.alt 11 [0,1,2,3,4,5,6,7,8,9] [] (.alt 12 [5,6,7,8,9] [] .tail .stop) .stop) (.alt 11 [0,1,2,3,4,5,6,7,8,9] [] (.alt 10 [0,1,2,3,4,5,6,7,8,9] [] (.alt 12 [5,6,7,8,9] [] .tail .stop) .stop) .stop)) [13] 24 ZK J J (fun w0=>?_))))))
 refine Zz (n:=0) (m:=0) J J J (Zld ?_)
 refine Zo J (oIdxE J J (hE) ZO J J ?_)
 have hc44:=(hE).cell
 refine Zlx hc44 ?_
 refine Zz (n:=0) (m:=0) J J J (Zld ?_)
 refine Zo J (oIdxE J J (hE2) ZO J J ?_)
 have hc49:=(hE2).cell
 refine Zlx hc49 ?_
 refine oAltT J ?_ ?_
 refine oAlloc J ZP (fun b6=>?_)
 refine oAgainT ?_ J (fun w0=>?_)
 refine Z8 J J J J (fun w0=>?_) ?_
 refine Zz (n:=0) (m:=0) J J J ?_
 exact Z9 rfl
 refine Z8 J J J J (fun w0=>?_) ?_
 refine Zld ?_
 exact Z9 rfl
 refine Z8 J J J J (fun w0=>?_) ?_
 refine Zo J ?_
 exact Z9 rfl
 refine Z8 J J J J (fun w0=>?_) ?_
 refine oIdxE J J (hE) ZO J J ?_
 have hc44:=(hE).cell
 exact Z9 rfl
 refine Z8 J J J J (fun w0=>?_) ?_
 refine Zlx hc44 ?_
 exact Z9 rfl
 refine Z8 J J J J (fun w0=>?_) ?_
 refine Zz (n:=0) (m:=0) J J J ?_
 exact Z9 rfl
 refine Z8 J J J J (fun w0=>?_) ?_
 refine Zld ?_
 exact Z9 rfl
 refine Z8 J J J J (fun w0=>?_) ?_
 refine Zo J ?_
 exact Z9 rfl
 refine Z8 J J J J (fun w0=>?_) ?_
 refine oIdxE J J (hE2) ZO J J ?_
 have hc49:=(hE2).cell
 exact Z9 rfl
 refine Z8 J J J J (fun w0=>?_) ?_
 refine Zlx hc49 ?_
 exact Z9 rfl
 exact AgainG.nil
 refine oAltT J ?_ ?_
 refine oAlloc J ZP (fun b7=>?_)
 refine oAgainT ?_ J (fun w0=>?_)
 refine Z8 J J J J (fun w0=>?_) ?_
 refine Zz (n:=0) (m:=0) J J J ?_
 exact Z9 rfl
 refine Z8 J J J J (fun w0=>?_) ?_
 refine Zld ?_
 exact Z9 rfl
 refine Z8 J J J J (fun w0=>?_) ?_
 refine Zo J ?_
 exact Z9 rfl
 refine Z8 J J J J (fun w0=>?_) ?_
 refine oIdxE J J (hE) ZO J J ?_
 have hc44:=(hE).cell
 exact Z9 rfl
 refine Z8 J J J J (fun w0=>?_) ?_
 refine Zlx hc44 ?_
 exact Z9 rfl
 refine Z8 J J J J (fun w0=>?_) ?_
 refine Zz (n:=0) (m:=0) J J J ?_
 exact Z9 rfl
 refine Z8 J J J J (fun w0=>?_) ?_
 refine Zld ?_
 exact Z9 rfl
 refine Z8 J J J J (fun w0=>?_) ?_
 refine Zo J ?_
 exact Z9 rfl
 refine Z8 J J J J (fun w0=>?_) ?_
 refine oIdxE J J (hE2) ZO J J ?_
 have hc49:=(hE2).cell
 exact Z9 rfl
 refine Z8 J J J J (fun w0=>?_) ?_
 refine Zlx hc49 ?_
 exact Z9 rfl
 exact AgainG.nil
 refine oAltT J ?_ ?_
 refine Zsa ?_
 refine oAgainT ?_ J (fun w0=>?_)
 refine Z8 J J J J (fun w0=>?_) ?_
 refine Zz (n:=0) (m:=0) J J J ?_
 exact Z9 rfl
 refine Z8 J J J J (fun w0=>?_) ?_
 refine Zld ?_
 exact Z9 rfl
 refine Z8 J J J J (fun w0=>?_) ?_
 refine Zo J ?_
 exact Z9 rfl
 refine Z8 J J J J (fun w0=>?_) ?_
 refine oIdxE J J (hE2) ZO J J ?_
 have hc49:=(hE2).cell
 exact Z9 rfl
 refine Z8 J J J J (fun w0=>?_) ?_
 refine Zlx hc49 ?_
 exact Z9 rfl
 exact AgainG.nil
 refine oTailT (Zsa ?_)
 refine Zn (Za (Zh (Zi (Zz (n:=0) (m:=0) J J J (Zld ?_)))))
 refine Zz (n:=0) (m:=0) J J J (Zld ?_)
 refine Z0 J J (ZS0 (t:=55) (v':=.bool false) J (by simp) ?_)
 refine Zo J (Zq J J (Zz (n:=1) (m:=1) J J J (Zzf ?_)))
 refine Zq J J (Zz (n:=1) (m:=1) J J J (Zzf ?_))
 refine Zq J J (Z0 J J (ZS0 (t:=61) (v':=.bool false) J (by simp) ?_))
 refine Zu J J (Zo J (Zq J J (Zz (n:=2) (m:=2) J J J (Zzf ?_))))
 refine Zq J J (Zz (n:=2) (m:=2) J J J (Zzf ?_))
 refine Zq J J (oSNe J J (ZS0 (t:=68) (v':=.bool false) J (by simp) ?_))
 refine Zu J J (Zo J (Zq J J (Zz (n:=3) (m:=3) J J J (Zq J J (Zla ?_)))))
 refine Zq J J (Zz (n:=3) (m:=3) J J J (Zq J J (Zla ?_)))
 refine Zq J J ?_
 (refine ZC0 rfl ZK (fun w hS=>frame hS ZQ (fun B' hB hS'=>ref16_Same hS' f.fF _ _ (kApiFunc_mk _ f.fF n0 (Kd.C_grow hB r0) n1 (Kd.C_grow hB r1) n2 (Kd.C_grow hB r2) n3 (Kd.C_grow hB r3)) (kApiFunc_mk _ f.fF k0 (Kd.C_grow hB t0) k1 (Kd.C_grow hB t1) k2 (Kd.C_grow hB t2) k3 (Kd.C_grow hB t3)))) ?_;rintro ⟨⟩ -)
 refine Zq J J (Zno ?_)
 refine ZS0 (t:=76) (v':=.bool false) J (by simp) ?_
 refine Zu J J (Zo J (Zq J J (Zz (n:=12) (m:=12) J J J (Zzf ?_))))
 refine Zq J J (Zz (n:=12) (m:=12) J J J (Zzf ?_))
 refine Zq J J ?_
 (refine ZC0 rfl ZK (fun w hS=>frame hS ZQ (fun B' hB hS'=>Go.Proofs.YtafiabekcekdbaaGreatG.ints_any hS' F4 f4 f.fRefs (Kd.C_grow hB r4) G4 g4' f.fRefs (Kd.C_grow hB t4))) ?_;rintro ⟨⟩ -)
 refine Zq J J (Zno ?_)
 refine ZS0 (t:=84) (v':=.bool false) J (by simp) ?_
 refine Zu J J (Zn (Za (wCondF J (Zj (Zze ?_)))))
 refine Zp J (Zn (Za ?_))
 exact ⟨rfl,i+1,by omega,by omega,cv,Lh⟩
 exact oStopT
 exact oStopT
 refine oAltT J ?_ ?_
 refine oAlloc J ZP (fun b7=>?_)
 refine oAgainT ?_ J (fun w0=>?_)
 refine Z8 J J J J (fun w0=>?_) ?_
 refine Zz (n:=0) (m:=0) J J J ?_
 exact Z9 rfl
 refine Z8 J J J J (fun w0=>?_) ?_
 refine Zld ?_
 exact Z9 rfl
 refine Z8 J J J J (fun w0=>?_) ?_
 refine Zo J ?_
 exact Z9 rfl
 refine Z8 J J J J (fun w0=>?_) ?_
 refine oIdxE J J (hE) ZO J J ?_
 have hc44:=(hE).cell
 exact Z9 rfl
 refine Z8 J J J J (fun w0=>?_) ?_
 refine Zlx hc44 ?_
 exact Z9 rfl
 refine Z8 J J J J (fun w0=>?_) ?_
 refine Zz (n:=0) (m:=0) J J J ?_
 exact Z9 rfl
 refine Z8 J J J J (fun w0=>?_) ?_
 refine Zld ?_
 exact Z9 rfl
 refine Z8 J J J J (fun w0=>?_) ?_
 refine Zo J ?_
 exact Z9 rfl
 refine Z8 J J J J (fun w0=>?_) ?_
 refine oIdxE J J (hE2) ZO J J ?_
 have hc49:=(hE2).cell
 exact Z9 rfl
 refine Z8 J J J J (fun w0=>?_) ?_
 refine Zlx hc49 ?_
 exact Z9 rfl
 exact AgainG.nil
 refine oAltT J ?_ ?_
 refine oAlloc J ZP (fun b6=>?_)
 refine oAgainT ?_ J (fun w0=>?_)
 refine Z8 J J J J (fun w0=>?_) ?_
 refine Zz (n:=0) (m:=0) J J J ?_
 exact Z9 rfl
 refine Z8 J J J J (fun w0=>?_) ?_
 refine Zld ?_
 exact Z9 rfl
 refine Z8 J J J J (fun w0=>?_) ?_
 refine Zo J ?_
 exact Z9 rfl
 refine Z8 J J J J (fun w0=>?_) ?_
 refine oIdxE J J (hE) ZO J J ?_
 have hc44:=(hE).cell
 exact Z9 rfl
 refine Z8 J J J J (fun w0=>?_) ?_
 refine Zlx hc44 ?_
 exact Z9 rfl
 refine Z8 J J J J (fun w0=>?_) ?_
 refine Zz (n:=0) (m:=0) J J J ?_
 exact Z9 rfl
 refine Z8 J J J J (fun w0=>?_) ?_
 refine Zld ?_
 exact Z9 rfl
 refine Z8 J J J J (fun w0=>?_) ?_
 refine Zo J ?_
 exact Z9 rfl
 refine Z8 J J J J (fun w0=>?_) ?_
 refine oIdxE J J (hE2) ZO J J ?_
 have hc49:=(hE2).cell
 exact Z9 rfl
 refine Z8 J J J J (fun w0=>?_) ?_
 refine Zlx hc49 ?_
 exact Z9 rfl
 exact AgainG.nil
 refine oAltT J ?_ ?_
 refine Zsa ?_
 refine oAgainT ?_ J (fun w0=>?_)
 refine Z8 J J J J (fun w0=>?_) ?_
 refine Zz (n:=0) (m:=0) J J J ?_
 exact Z9 rfl
 refine Z8 J J J J (fun w0=>?_) ?_
 refine Zld ?_
 exact Z9 rfl
 refine Z8 J J J J (fun w0=>?_) ?_
 refine Zo J ?_
 exact Z9 rfl
 refine Z8 J J J J (fun w0=>?_) ?_
 refine oIdxE J J (hE2) ZO J J ?_
 have hc49:=(hE2).cell
 exact Z9 rfl
 refine Z8 J J J J (fun w0=>?_) ?_
 refine Zlx hc49 ?_
 exact Z9 rfl
 exact AgainG.nil
 refine oTailT (Zsa ?_)
 refine Zn (Za (Zh (Zi (Zz (n:=0) (m:=0) J J J (Zld ?_)))))
 refine Zz (n:=0) (m:=0) J J J (Zld ?_)
 refine Z0 J J (ZS0 (t:=55) (v':=.bool false) J (by simp) ?_)
 refine Zo J (Zq J J (Zz (n:=1) (m:=1) J J J (Zzf ?_)))
 refine Zq J J (Zz (n:=1) (m:=1) J J J (Zzf ?_))
 refine Zq J J (Z0 J J (ZS0 (t:=61) (v':=.bool false) J (by simp) ?_))
 refine Zu J J (Zo J (Zq J J (Zz (n:=2) (m:=2) J J J (Zzf ?_))))
 refine Zq J J (Zz (n:=2) (m:=2) J J J (Zzf ?_))
 refine Zq J J (oSNe J J (ZS0 (t:=68) (v':=.bool false) J (by simp) ?_))
 refine Zu J J (Zo J (Zq J J (Zz (n:=3) (m:=3) J J J (Zq J J (Zla ?_)))))
 refine Zq J J (Zz (n:=3) (m:=3) J J J (Zq J J (Zla ?_)))
 refine Zq J J ?_
 (refine ZC0 rfl ZK (fun w hS=>frame hS ZQ (fun B' hB hS'=>ref16_Same hS' f.fF _ _ (kApiFunc_mk _ f.fF n0 (Kd.C_grow hB r0) n1 (Kd.C_grow hB r1) n2 (Kd.C_grow hB r2) n3 (Kd.C_grow hB r3)) (kApiFunc_mk _ f.fF k0 (Kd.C_grow hB t0) k1 (Kd.C_grow hB t1) k2 (Kd.C_grow hB t2) k3 (Kd.C_grow hB t3)))) ?_;rintro ⟨⟩ -)
 refine Zq J J (Zno ?_)
 refine ZS0 (t:=76) (v':=.bool false) J (by simp) ?_
 refine Zu J J (Zo J (Zq J J (Zz (n:=12) (m:=12) J J J (Zzf ?_))))
 refine Zq J J (Zz (n:=12) (m:=12) J J J (Zzf ?_))
 refine Zq J J ?_
 (refine ZC0 rfl ZK (fun w hS=>frame hS ZQ (fun B' hB hS'=>Go.Proofs.YtafiabekcekdbaaGreatG.ints_any hS' F4 f4 f.fRefs (Kd.C_grow hB r4) G4 g4' f.fRefs (Kd.C_grow hB t4))) ?_;rintro ⟨⟩ -)
 refine Zq J J (Zno ?_)
 refine ZS0 (t:=84) (v':=.bool false) J (by simp) ?_
 refine Zu J J (Zn (Za (wCondF J (Zj (Zze ?_)))))
 refine Zp J (Zn (Za ?_))
 exact ⟨rfl,i+1,by omega,by omega,cv,Lh⟩
 exact oStopT
 exact oStopT
 exact oStopT
 refine Zm (Zb (Zb (Ze (Za (Zh (Zh (Zi (Zp J (Zn (Za (Zk (wLoop (ι:=Nat) (fun i=>[(2,.pointer (some ⟨b2,0,none⟩)),(3,.pointer (some ⟨b3,0,none⟩)),(8,.int .i64 (i:Int))]) (fun i=>[blk b2 43 [.slice A0 p.fFuns.length a0,.slice A1 p.fDats.length a1,.int .i64 p.fEntry],blk b3 43 [.slice D0 p.fFuns.length d0,.slice D1 p.fDats.length d1,.int .i64 p.fEntry]]) (fun i=>i≤p.fDats.length) (fun i=>p.fDats.length-i) 0 ?_ cv (Leads.has ZQ) ?_))))))))))))
 exact Nat.zero_le _
 rintro i hi
 try dsimp only
 refine Zh (Zh (Zi (Zo J (Zz (n:=1) (m:=1) J J J (Zld ?_)))))
 refine Zv J J (Zx J J (Zn (Za (wC (fun h90=>?_) (fun h90=>?_)))))
 obtain ⟨d,hx⟩:∃ x,p.fDats[i]?=some x:=⟨_,List.getElem?_eq_getElem ZO⟩
 obtain ⟨e1,cs1,hE⟩:=g1.elm hx
 obtain ⟨F0,f0,F1,f1,F2,f2,rfl,n0,r0,n1,r1,n2,r2⟩:=kApiDat_open hE.K
 obtain ⟨e2,cs2,hE2⟩:=q1.elm hx
 obtain ⟨G0,g0',G1,g1',G2,g2',rfl,k0,t0,k1,t1,k2,t2⟩:=kApiDat_open hE2.K
 have hil:i<p.fDats.length:=by omega
 refine Zj (Za (Zh (Zk (Zh (wDrawR J [0,1,2,3,4,5,6,7,8,9] [0,1,2,3,4,5,6,7,8,9] (.alt 10 [0,1,2,3,4,5,6,7,8,9] [] (.alt 11 [0,1,2,3,4,5,6,7,8,9] [] (.alt 12 [5,6,7,8,9] [] .tail .stop) .stop) (.alt 11 [0,1,2,3,4,5,6,7,8,9] [] (.alt 10 [0,1,2,3,4,5,6,7,8,9] [] (.alt 12 [5,6,7,8,9] [] .tail .stop) .stop) .stop)) [13] 24 ZK J J (fun w0=>?_))))))
 refine Zz (n:=1) (m:=1) J J J (Zld ?_)
 refine Zo J (oIdxE J J (hE) ZO J J ?_)
 have hc96:=(hE).cell
 refine Zlx hc96 ?_
 refine Zz (n:=1) (m:=1) J J J (Zld ?_)
 refine Zo J (oIdxE J J (hE2) ZO J J ?_)
 have hc101:=(hE2).cell
 refine Zlx hc101 ?_
 refine oAltT J ?_ ?_
 refine oAlloc J ZP (fun b9=>?_)
 refine oAgainT ?_ J (fun w0=>?_)
 refine Z8 J J J J (fun w0=>?_) ?_
 refine Zz (n:=1) (m:=1) J J J ?_
 exact Z9 rfl
 refine Z8 J J J J (fun w0=>?_) ?_
 refine Zld ?_
 exact Z9 rfl
 refine Z8 J J J J (fun w0=>?_) ?_
 refine Zo J ?_
 exact Z9 rfl
 refine Z8 J J J J (fun w0=>?_) ?_
 refine oIdxE J J (hE) ZO J J ?_
 have hc96:=(hE).cell
 exact Z9 rfl
 refine Z8 J J J J (fun w0=>?_) ?_
 refine Zlx hc96 ?_
 exact Z9 rfl
 refine Z8 J J J J (fun w0=>?_) ?_
 refine Zz (n:=1) (m:=1) J J J ?_
 exact Z9 rfl
 refine Z8 J J J J (fun w0=>?_) ?_
 refine Zld ?_
 exact Z9 rfl
 refine Z8 J J J J (fun w0=>?_) ?_
 refine Zo J ?_
 exact Z9 rfl
 refine Z8 J J J J (fun w0=>?_) ?_
 refine oIdxE J J (hE2) ZO J J ?_
 have hc101:=(hE2).cell
 exact Z9 rfl
 refine Z8 J J J J (fun w0=>?_) ?_
 refine Zlx hc101 ?_
 exact Z9 rfl
 exact AgainG.nil
 refine oAltT J ?_ ?_
 refine oAlloc J ZP (fun b10=>?_)
 refine oAgainT ?_ J (fun w0=>?_)
 refine Z8 J J J J (fun w0=>?_) ?_
 refine Zz (n:=1) (m:=1) J J J ?_
 exact Z9 rfl
 refine Z8 J J J J (fun w0=>?_) ?_
 refine Zld ?_
 exact Z9 rfl
 refine Z8 J J J J (fun w0=>?_) ?_
 refine Zo J ?_
 exact Z9 rfl
 refine Z8 J J J J (fun w0=>?_) ?_
 refine oIdxE J J (hE) ZO J J ?_
 have hc96:=(hE).cell
 exact Z9 rfl
 refine Z8 J J J J (fun w0=>?_) ?_
 refine Zlx hc96 ?_
 exact Z9 rfl
 refine Z8 J J J J (fun w0=>?_) ?_
 refine Zz (n:=1) (m:=1) J J J ?_
 exact Z9 rfl
 refine Z8 J J J J (fun w0=>?_) ?_
 refine Zld ?_
 exact Z9 rfl
 refine Z8 J J J J (fun w0=>?_) ?_
 refine Zo J ?_
 exact Z9 rfl
 refine Z8 J J J J (fun w0=>?_) ?_
 refine oIdxE J J (hE2) ZO J J ?_
 have hc101:=(hE2).cell
 exact Z9 rfl
 refine Z8 J J J J (fun w0=>?_) ?_
 refine Zlx hc101 ?_
 exact Z9 rfl
 exact AgainG.nil
 refine oAltT J ?_ ?_
 refine Zsa ?_
 refine oAgainT ?_ J (fun w0=>?_)
 refine Z8 J J J J (fun w0=>?_) ?_
 refine Zz (n:=1) (m:=1) J J J ?_
 exact Z9 rfl
 refine Z8 J J J J (fun w0=>?_) ?_
 refine Zld ?_
 exact Z9 rfl
 refine Z8 J J J J (fun w0=>?_) ?_
 refine Zo J ?_
 exact Z9 rfl
 refine Z8 J J J J (fun w0=>?_) ?_
 refine oIdxE J J (hE2) ZO J J ?_
 have hc101:=(hE2).cell
 exact Z9 rfl
 refine Z8 J J J J (fun w0=>?_) ?_
 refine Zlx hc101 ?_
 exact Z9 rfl
 exact AgainG.nil
 refine oTailT (Zsa ?_)
 refine Zn (Za (Zh (Zi (Zz (n:=0) (m:=0) J J J (Zld ?_)))))
 refine Zz (n:=0) (m:=0) J J J (Zld ?_)
 refine Z0 J J (ZS0 (t:=107) (v':=.bool false) J (by simp) ?_)
 refine Zo J (Zq J J (Zz (n:=1) (m:=1) J J J (Zzf ?_)))
 refine Zq J J (Zz (n:=1) (m:=1) J J J (Zzf ?_))
 refine Zq J J (Z0 J J (ZS0 (t:=113) (v':=.bool false) J (by simp) ?_))
 refine Zu J J (Zo J (Zq J J (Zz (n:=2) (m:=2) J J J (Zzf ?_))))
 refine Zq J J (Zz (n:=2) (m:=2) J J J (Zzf ?_))
 refine Zq J J (oSNe J J (ZS0 (t:=120) (v':=.bool false) J (by simp) ?_))
 refine Zu J J (Zo J (Zq J J (Zz (n:=3) (m:=3) J J J (Zq J J (Zla ?_)))))
 refine Zq J J (Zz (n:=3) (m:=3) J J J (Zq J J (Zla ?_)))
 refine Zq J J ?_
 (refine ZC0 rfl ZK (fun w hS=>frame hS ZQ (fun B' hB hS'=>ref15_Same hS' d.fD _ _ (kApiData_mk _ d.fD n0 (Kd.C_grow hB r0) n1 (Kd.C_grow hB r1)) (kApiData_mk _ d.fD k0 (Kd.C_grow hB t0) k1 (Kd.C_grow hB t1)))) ?_;rintro ⟨⟩ -)
 refine Zq J J (Zno ?_)
 refine ZS0 (t:=128) (v':=.bool false) J (by simp) ?_
 refine Zu J J (Zo J (Zq J J (Zz (n:=6) (m:=6) J J J (Zzf ?_))))
 refine Zq J J (Zz (n:=6) (m:=6) J J J (Zzf ?_))
 refine Zq J J ?_
 (refine ZC0 rfl ZK (fun w hS=>frame hS ZQ (fun B' hB hS'=>Go.Proofs.YtafiabekcekdbaaGreatG.ints_any hS' F2 f2 d.fRefs (Kd.C_grow hB r2) G2 g2' d.fRefs (Kd.C_grow hB t2))) ?_;rintro ⟨⟩ -)
 refine Zq J J (Zno ?_)
 refine ZS0 (t:=136) (v':=.bool false) J (by simp) ?_
 refine Zu J J (Zn (Za (wCondF J (Zj (Zze ?_)))))
 refine Zp J (Zn (Za ?_))
 exact ⟨rfl,i+1,by omega,by omega,cv,Lh⟩
 exact oStopT
 exact oStopT
 refine oAltT J ?_ ?_
 refine oAlloc J ZP (fun b10=>?_)
 refine oAgainT ?_ J (fun w0=>?_)
 refine Z8 J J J J (fun w0=>?_) ?_
 refine Zz (n:=1) (m:=1) J J J ?_
 exact Z9 rfl
 refine Z8 J J J J (fun w0=>?_) ?_
 refine Zld ?_
 exact Z9 rfl
 refine Z8 J J J J (fun w0=>?_) ?_
 refine Zo J ?_
 exact Z9 rfl
 refine Z8 J J J J (fun w0=>?_) ?_
 refine oIdxE J J (hE) ZO J J ?_
 have hc96:=(hE).cell
 exact Z9 rfl
 refine Z8 J J J J (fun w0=>?_) ?_
 refine Zlx hc96 ?_
 exact Z9 rfl
 refine Z8 J J J J (fun w0=>?_) ?_
 refine Zz (n:=1) (m:=1) J J J ?_
 exact Z9 rfl
 refine Z8 J J J J (fun w0=>?_) ?_
 refine Zld ?_
 exact Z9 rfl
 refine Z8 J J J J (fun w0=>?_) ?_
 refine Zo J ?_
 exact Z9 rfl
 refine Z8 J J J J (fun w0=>?_) ?_
 refine oIdxE J J (hE2) ZO J J ?_
 have hc101:=(hE2).cell
 exact Z9 rfl
 refine Z8 J J J J (fun w0=>?_) ?_
 refine Zlx hc101 ?_
 exact Z9 rfl
 exact AgainG.nil
 refine oAltT J ?_ ?_
 refine oAlloc J ZP (fun b9=>?_)
 refine oAgainT ?_ J (fun w0=>?_)
 refine Z8 J J J J (fun w0=>?_) ?_
 refine Zz (n:=1) (m:=1) J J J ?_
 exact Z9 rfl
 refine Z8 J J J J (fun w0=>?_) ?_
 refine Zld ?_
 exact Z9 rfl
 refine Z8 J J J J (fun w0=>?_) ?_
 refine Zo J ?_
 exact Z9 rfl
 refine Z8 J J J J (fun w0=>?_) ?_
 refine oIdxE J J (hE) ZO J J ?_
 have hc96:=(hE).cell
 exact Z9 rfl
 refine Z8 J J J J (fun w0=>?_) ?_
 refine Zlx hc96 ?_
 exact Z9 rfl
 refine Z8 J J J J (fun w0=>?_) ?_
 refine Zz (n:=1) (m:=1) J J J ?_
 exact Z9 rfl
 refine Z8 J J J J (fun w0=>?_) ?_
 refine Zld ?_
 exact Z9 rfl
 refine Z8 J J J J (fun w0=>?_) ?_
 refine Zo J ?_
 exact Z9 rfl
 refine Z8 J J J J (fun w0=>?_) ?_
 refine oIdxE J J (hE2) ZO J J ?_
 have hc101:=(hE2).cell
 exact Z9 rfl
 refine Z8 J J J J (fun w0=>?_) ?_
 refine Zlx hc101 ?_
 exact Z9 rfl
 exact AgainG.nil
 refine oAltT J ?_ ?_
 refine Zsa ?_
 refine oAgainT ?_ J (fun w0=>?_)
 refine Z8 J J J J (fun w0=>?_) ?_
 refine Zz (n:=1) (m:=1) J J J ?_
 exact Z9 rfl
 refine Z8 J J J J (fun w0=>?_) ?_
 refine Zld ?_
 exact Z9 rfl
 refine Z8 J J J J (fun w0=>?_) ?_
 refine Zo J ?_
 exact Z9 rfl
 refine Z8 J J J J (fun w0=>?_) ?_
 refine oIdxE J J (hE2) ZO J J ?_
 have hc101:=(hE2).cell
 exact Z9 rfl
 refine Z8 J J J J (fun w0=>?_) ?_
 refine Zlx hc101 ?_
 exact Z9 rfl
 exact AgainG.nil
 refine oTailT (Zsa ?_)
 refine Zn (Za (Zh (Zi (Zz (n:=0) (m:=0) J J J (Zld ?_)))))
 refine Zz (n:=0) (m:=0) J J J (Zld ?_)
 refine Z0 J J (ZS0 (t:=107) (v':=.bool false) J (by simp) ?_)
 refine Zo J (Zq J J (Zz (n:=1) (m:=1) J J J (Zzf ?_)))
 refine Zq J J (Zz (n:=1) (m:=1) J J J (Zzf ?_))
 refine Zq J J (Z0 J J (ZS0 (t:=113) (v':=.bool false) J (by simp) ?_))
 refine Zu J J (Zo J (Zq J J (Zz (n:=2) (m:=2) J J J (Zzf ?_))))
 refine Zq J J (Zz (n:=2) (m:=2) J J J (Zzf ?_))
 refine Zq J J (oSNe J J (ZS0 (t:=120) (v':=.bool false) J (by simp) ?_))
 refine Zu J J (Zo J (Zq J J (Zz (n:=3) (m:=3) J J J (Zq J J (Zla ?_)))))
 refine Zq J J (Zz (n:=3) (m:=3) J J J (Zq J J (Zla ?_)))
 refine Zq J J ?_
 (refine ZC0 rfl ZK (fun w hS=>frame hS ZQ (fun B' hB hS'=>ref15_Same hS' d.fD _ _ (kApiData_mk _ d.fD n0 (Kd.C_grow hB r0) n1 (Kd.C_grow hB r1)) (kApiData_mk _ d.fD k0 (Kd.C_grow hB t0) k1 (Kd.C_grow hB t1)))) ?_;rintro ⟨⟩ -)
 refine Zq J J (Zno ?_)
 refine ZS0 (t:=128) (v':=.bool false) J (by simp) ?_
 refine Zu J J (Zo J (Zq J J (Zz (n:=6) (m:=6) J J J (Zzf ?_))))
 refine Zq J J (Zz (n:=6) (m:=6) J J J (Zzf ?_))
 refine Zq J J ?_
 (refine ZC0 rfl ZK (fun w hS=>frame hS ZQ (fun B' hB hS'=>Go.Proofs.YtafiabekcekdbaaGreatG.ints_any hS' F2 f2 d.fRefs (Kd.C_grow hB r2) G2 g2' d.fRefs (Kd.C_grow hB t2))) ?_;rintro ⟨⟩ -)
 refine Zq J J (Zno ?_)
 refine ZS0 (t:=136) (v':=.bool false) J (by simp) ?_
 refine Zu J J (Zn (Za (wCondF J (Zj (Zze ?_)))))
 refine Zp J (Zn (Za ?_))
 exact ⟨rfl,i+1,by omega,by omega,cv,Lh⟩
 exact oStopT
 exact oStopT
 exact oStopT
 refine Zm (Zzg ?_)
 exact ⟨(),trivial,rfl,Lh⟩
def oneF:ApiFunc:=⟨1,[0,0],0,false,0,0,[],[⟨15,1,0,0,0⟩,⟨24,1,0,0,0⟩],[⟨0,1,true⟩]⟩
def oneD:ApiData:=⟨0,[7],[]⟩
def oneS (x:Int):List ApiSymbol:=[⟨⟨#[109,97,105,110]⟩,false,1,1,0⟩,⟨⟨#[100]⟩,true,2,0,x⟩]
def oneO (x:Int):ApiObject:=⟨oneS x,[oneF],[oneD]⟩
theorem one_K {w:World}{s k c r f w' d:Nat}{x:Int}(h0:(blk s 37 [.string ⟨#[109,97,105,110]⟩,.bool false,.int .i64 1,.int .i64 1,.int .i64 0,.string ⟨#[100]⟩,.bool true,.int .i64 2,.int .i64 0,.int .i64 x]).q w) (h1:(blk k 3 [.int .i64 0,.int .i64 0]).q w) (h2:(blk c 67 [.int .i64 15,.int .i64 1,.int .i64 0,.int .i64 0,.int .i64 0,.int .i64 24,.int .i64 1,.int .i64 0,.int .i64 0,.int .i64 0]).q w) (h3:(blk r 103 [.int .i64 0,.int .i64 1,.bool true]).q w) (h4:(blk f 57 [.int .i64 1,.slice (some ⟨k,0,none⟩) 2 2,.int .i64 0,.bool false,.int .i64 0,.int .i64 0,.slice none 0 0,.slice (some ⟨c,0,none⟩) 2 2,.slice (some ⟨r,0,none⟩) 1 1]).q w) (h5:(blk w' 2 [.int .i64 7]).q w) (h6:(blk d 62 [.int .i64 0,.slice (some ⟨w',0,none⟩) 1 1,.slice none 0 0]).q w):kApiObject.K w (oneO x) [.slice (some ⟨s,0,none⟩) 2 2,.slice (some ⟨f,0,none⟩) 1 1,.slice (some ⟨d,0,none⟩) 1 1]:=
 kApiObject_mk w (oneO x) (A0:=some ⟨s,0,none⟩) (A1:=some ⟨f,0,none⟩) (A2:=some ⟨d,0,none⟩) (c0:=2) (c1:=1) (c2:=1) (by show 2≤2;omega)
  (C_blk (kd:=kApiSymbol) h0 (by show 2≤9223372036854775807;omega) ⟨_,_,rfl,kApiSymbol_mk w ⟨⟨#[109,97,105,110]⟩,false,1,1,0⟩,_,_,rfl,kApiSymbol_mk w ⟨⟨#[100]⟩,true,2,0,x⟩,rfl⟩) (by show 1≤1;omega)
  (C_blk (kd:=kApiFunc) h4 (by show 1≤9223372036854775807;omega) ⟨_,_,rfl,kApiFunc_mk w oneF (c0:=2) (c1:=0) (c2:=2) (c3:=1) (by decide) (C_blk (kd:=Kd.int .i64) h1 (by decide) (cat_scalar.2 rfl)) (by decide) (Kd.C_nil _ _ _) (by decide) (C_blk (kd:=kApiInstr) h2 (by decide) ⟨_,_,rfl,kApiInstr_mk w ⟨15,1,0,0,0⟩,_,_,rfl,kApiInstr_mk w ⟨24,1,0,0,0⟩,rfl⟩) (by decide) (C_blk (kd:=kApiReloc) h3 (by decide) ⟨_,_,rfl,kApiReloc_mk w ⟨0,1,true⟩,rfl⟩),rfl⟩) (by show 1≤1;omega)
  (C_blk (kd:=kApiData) h6 (by show 1≤9223372036854775807;omega) ⟨_,_,rfl,kApiData_mk w oneD (c0:=1) (c1:=0) (by decide) (C_blk (kd:=Kd.int .i64) h5 (by decide) (cat_scalar.2 rfl)) (by decide) (Kd.C_nil _ _ _),rfl⟩)
theorem one_good {x:Int}(hx:in64 x):GoodO (oneO x):=by
 refine ⟨?_,by show 2≤60;omega,by show 1≤20;omega,by show 1≤20;omega,fun f hf=>?_,fun d hd=>?_⟩
 · have s1:(⟨#[109,97,105,110]⟩:ByteArray).size=4:=rfl
   have s2:(⟨#[100]⟩:ByteArray).size=1:=rfl
   unfold vApiObject
   simp [s1,s2,oneO,oneS,oneF,oneD,vApiSymbol,vApiFunc,vApiData,vApiInstr,vApiReloc,vApiLine,in64,maxLen] at hx ⊢
   omega
 · obtain rfl:=List.mem_singleton.1 hf;decide
 · obtain rfl:=List.mem_singleton.1 hd;decide
theorem one_range:rangeF oneF=0:=by
 unfold rangeF
 rw [if_neg]
 rintro ⟨i,hi,hr,-⟩
 have hn:∀ y,¬ RP (rg oneF.fCode) (fromL oneF.fCode (dfrN oneF.fCode)) y:=by
  intro y hy
  induction hy with
  | start h1 h2=>rw [show fromL oneF.fCode (dfrN oneF.fCode)=[] from by decide] at h1;cases h1
  | step h1 h2 ih=>exact ih
 exact hn _ hr
theorem one_fun:funF oneF=0:=by unfold funF codeF;rw [flowF_eq];decide
theorem one_chk:chkE oneF (oneS 0)=0:=by unfold chkE;rw [one_fun];decide
theorem one_syms:symsL (oneO 0)=[0,0]:=by decide
theorem one_it0:itemE (oneO 0) 0=0:=by
 unfold itemE funE
 rw [if_neg (by decide),if_neg (by decide),if_neg (by decide),if_neg (by show ¬ chkE oneF (oneS 0)≠0;rw [one_chk];decide)]
 exact one_range
theorem one_it1:itemE (oneO 0) 1=0:=by
 unfold itemE
 rw [if_neg (by decide),if_pos (by decide),if_neg (by decide)]
 decide
theorem one_its:itsL (oneO 0)=[0,0]:=by
 show [itemE (oneO 0) 0,itemE (oneO 0) 1]=[0,0]
 rw [one_it0,one_it1]
theorem one_E:objE (oneO 0)=0∧objI (oneO 0) = -1:=by
 unfold objE objI
 rw [one_syms,one_its]
 decide
theorem law_One {B:Base}{w:World}(hS:St B [] w) :
 CW 28 #[] w (Ret B (fun _:Nat×Nat×Nat×Nat×Nat×Nat×Nat=>True) (fun z=>.agg #[.slice (some ⟨z.1,0,none⟩) 2 2,.slice (some ⟨z.2.2.2.2.1,0,none⟩) 1 1,.slice (some ⟨z.2.2.2.2.2.2,0,none⟩) 1 1]) (fun z=>[blk z.1 37 [.string ⟨#[109,97,105,110]⟩,.bool false,.int .i64 1,.int .i64 1,.int .i64 0,.string ⟨#[100]⟩,.bool true,.int .i64 2,.int .i64 0,.int .i64 0],blk z.2.1 3 [.int .i64 0,.int .i64 0],blk z.2.2.1 67 [.int .i64 15,.int .i64 1,.int .i64 0,.int .i64 0,.int .i64 0,.int .i64 24,.int .i64 1,.int .i64 0,.int .i64 0,.int .i64 0],blk z.2.2.2.1 103 [.int .i64 0,.int .i64 1,.bool true],blk z.2.2.2.2.1 57 [.int .i64 1,.slice (some ⟨z.2.1,0,none⟩) 2 2,.int .i64 0,.bool false,.int .i64 0,.int .i64 0,.slice none 0 0,.slice (some ⟨z.2.2.1,0,none⟩) 2 2,.slice (some ⟨z.2.2.2.1,0,none⟩) 1 1],blk z.2.2.2.2.2.1 2 [.int .i64 7],blk z.2.2.2.2.2.2 62 [.int .i64 0,.slice (some ⟨z.2.2.2.2.2.1,0,none⟩) 1 1,.slice none 0 0]])):=by
 refine ZX Tryz.func28 hS ?_
 refine Zh (Zi (oAlloc J ZP (fun b0=>?_)))
 refine Zn (Za (Zh (Zi (oBuild (Parts.cons J (Parts.cons J (Parts.cons J Parts.nil))) J J (Built.cons (off:=0) (s:=1) J ZP J ZP (Built.cons (off:=2) (s:=1) J ZP J ZP (Built.cons (off:=3) (s:=1) J ZP J ZP Built.nil))) ?_))))
 refine oBuild (Parts.cons J (Parts.cons J (Parts.cons J Parts.nil))) J J (Built.cons (off:=0) (s:=1) J ZP J ZP (Built.cons (off:=1) (s:=1) J ZP J ZP (Built.cons (off:=2) (s:=1) J ZP J ZP Built.nil))) ?_
 refine oBuildSliceF (Parts.cons J (Parts.cons J Parts.nil)) J J J J J (Fulls.cons ZP J (Fulls.cons ZP J Fulls.nil ap) ap) (fun b3=>?_)
 refine oBuildSliceF (Parts.cons J (Parts.cons J Parts.nil)) J J J J J (Fulls.cons ZP J (Fulls.cons ZP J Fulls.nil ap) ap) (fun b4=>?_)
 refine oBuild (Parts.cons J (Parts.cons J Parts.nil)) J J (Built.cons (off:=0) (s:=1) J ZP J ZP (Built.cons (off:=1) (s:=1) J ZP J ZP Built.nil)) ?_
 refine oBuild (Parts.cons J (Parts.cons J Parts.nil)) J J (Built.cons (off:=0) (s:=1) J ZP J ZP (Built.cons (off:=1) (s:=1) J ZP J ZP Built.nil)) ?_
 refine oBuildSliceF (Parts.cons J (Parts.cons J Parts.nil)) J J J J J (Fulls.cons ZP J (Fulls.cons ZP J Fulls.nil ap) ap) (fun b7=>?_)
 refine oBuild (Parts.cons J (Parts.cons J (Parts.cons J Parts.nil))) J J (Built.cons (off:=0) (s:=1) J ZP J ZP (Built.cons (off:=1) (s:=1) J ZP J ZP (Built.cons (off:=2) (s:=1) J ZP J ZP Built.nil))) ?_
 refine oBuildSlice1 J J J J J ZP J (fun b9=>?_)
 refine oBuild (Parts.cons J (Parts.cons J (Parts.cons J (Parts.cons J Parts.nil)))) J J (Built.cons (off:=0) (s:=1) J ZP J ZP (Built.cons (off:=1) (s:=1) J ZP J ZP (Built.cons (off:=7) (s:=1) J ZP J ZP (Built.cons (off:=8) (s:=1) J ZP J ZP Built.nil)))) ?_
 refine oBuildSlice1 J J J J J ZP J (fun b11=>?_)
 refine oBuildSlice1 J J J J J ZP J (fun b12=>?_)
 refine oBuild (Parts.cons J Parts.nil) J J (Built.cons (off:=1) (s:=1) J ZP J ZP Built.nil) ?_
 refine oBuildSlice1 J J J J J ZP J (fun b14=>?_)
 refine oBuild (Parts.cons J (Parts.cons J (Parts.cons J Parts.nil))) J J (Built.cons (off:=0) (s:=1) J ZP J ZP (Built.cons (off:=1) (s:=1) J ZP J ZP (Built.cons (off:=2) (s:=1) J ZP J ZP Built.nil))) ?_
 refine Zsa ?_
 refine Zn (Za (Zl (Zw (ZI ?_))))
 exact ⟨(b3,b4,b7,b9,b11,b12,b14),trivial,rfl,Lh⟩
abbrev mainB:ByteArray:=⟨#[109,97,105,110]⟩
abbrev dB:ByteArray:=⟨#[100]⟩
def oneFun:ApiFun:=⟨0,0,mainB,oneF,[0,-1]⟩
def oneDat:ApiDat:=⟨0,1,dB,oneD,[-1]⟩
def oneP:ApiProgram:=⟨[oneFun],[oneDat],0⟩
theorem one_chk23:chk23 [oneO 0]=(0,0,0):=by decide
theorem one_wrong:wrongR [oneO 0]=(0,0,0):=by
 unfold wrongR
 rw [if_neg (by decide),idxI_none (by intro y hy;obtain rfl:=List.mem_singleton.1 hy;unfold badB;rw [one_E.1];decide),if_neg (by decide),one_chk23]
theorem one_fnd:fnd [oneO 0] mainB=(0,0,true):=by decide
theorem one_fnd2:fnd [oneO 0] dB=(0,0,false):=by decide
theorem one_bindR:bindR [oneO 0] mainB=(0,0,0):=by
 rw [bind_wr,one_wrong,if_neg (by decide),one_fnd]
 decide
theorem one_bindR2:bindR [oneO 0] dB=(15,-1,-1):=by
 rw [bind_wr,one_wrong,if_neg (by decide),one_fnd2]
 decide
theorem one_bindP:bindP [oneO 0] mainB=oneP:=by
 unfold bindP
 rw [one_bindR,if_pos rfl,one_fnd]
 rfl
theorem one_bindP2:bindP [oneO 0] dB=⟨[],[],0⟩:=by
 unfold bindP
 rw [one_bindR2,if_neg (by decide)]
theorem one_few:FewO [oneO 0]:=by
 refine ⟨by decide,fun o ho=>?_,fun o ho=>?_,fun o ho=>?_,fun o ho f hf=>?_,fun o ho d hd=>?_⟩ <;> obtain rfl:=List.mem_singleton.1 ho
 · decide
 · decide
 · decide
 · obtain rfl:=List.mem_singleton.1 hf;decide
 · obtain rfl:=List.mem_singleton.1 hd;decide
theorem one_vs:∀ o ∈ [oneO 0],vApiObject o:=fun o ho=>by
 obtain rfl:=List.mem_singleton.1 ho
 exact (one_good (by unfold in64;omega)).1
theorem rej_eql (r q:Int×Int×Int) (w:World):(binOp .eql 45 (.agg (rejL r).toArray) (.agg (rejL q).toArray)).run Tryz.prog w=.ok (.bool (decide (r=q))) w:=by
 obtain ⟨a,b,c⟩:=r
 obtain ⟨d,e,f⟩:=q
 simp [go_sem,binOp,Op.equal,Op.maxDepth]
 by_cases h1:a=d
 · subst h1
   by_cases h2:b=e
   · subst h2
     by_cases h3:c=f
     · subst h3;simp
     · simp [h3]
   · simp [h2]
 · simp [h1]
theorem known24 {B:Base}{w:World}(hS:St B [] w) :
 CW 17 #[] w (Ret B (fun _:Unit=>True) (fun _=>.bool true) (fun _=>[])):=by
 refine ZX Tryz.func17 hS ?_
 refine Zh (Zi (Zp J (Zn (Za (Zh (Zi ?_))))))
 (refine ZC0 rfl ZK (fun w hS=>frame hS ZQ (fun B' hB hS'=>law_One hS')) ?_;rintro ⟨x1,x2,x3,x4,x5,x6,x7⟩ -)
 try dsimp only
 refine oBuildSlice1 J J J J J ZP J (fun b7=>?_)
 refine Zp J (Zn (Za (wFreeze [blk x1 37 [.string ⟨#[109,97,105,110]⟩,.bool false,.int .i64 1,.int .i64 1,.int .i64 0,.string ⟨#[100]⟩,.bool true,.int .i64 2,.int .i64 0,.int .i64 0],blk x2 3 [.int .i64 0,.int .i64 0],blk x3 67 [.int .i64 15,.int .i64 1,.int .i64 0,.int .i64 0,.int .i64 0,.int .i64 24,.int .i64 1,.int .i64 0,.int .i64 0,.int .i64 0],blk x4 103 [.int .i64 0,.int .i64 1,.bool true],blk x5 57 [.int .i64 1,.slice (some ⟨x2,0,none⟩) 2 2,.int .i64 0,.bool false,.int .i64 0,.int .i64 0,.slice none 0 0,.slice (some ⟨x3,0,none⟩) 2 2,.slice (some ⟨x4,0,none⟩) 1 1],blk x6 2 [.int .i64 7],blk x7 62 [.int .i64 0,.slice (some ⟨x6,0,none⟩) 1 1,.slice none 0 0],blk b7 26 [.slice (some ⟨x1,0,none⟩) 2 2,.slice (some ⟨x5,0,none⟩) 1 1,.slice (some ⟨x7,0,none⟩) 1 1]] ZQ (fun B1 hB1 hq1=>?_))))
 have hC:kApiObject.C B1.e (some ⟨b7,0,none⟩) [oneO 0]:=C_blk (kd:=kApiObject) (hq1 (blk b7 _ _) _ ZP) (by decide) ⟨_,_,rfl,one_K (x:=0) (s:=x1) (k:=x2) (c:=x3) (r:=x4) (f:=x5) (w':=x6) (d:=x7) (hq1 _ _ ZP) (hq1 _ _ ZP) (hq1 _ _ ZP) (hq1 _ _ ZP) (hq1 _ _ ZP) (hq1 _ _ ZP) (hq1 _ _ ZP),rfl⟩
 refine Zh (Zi (Zo J ?_))
 (refine ZC0 rfl ZK (fun w hS=>frame hS ZQ (fun B' hB hS'=>bind_Bind hS' (some ⟨b7,0,none⟩) 1 [oneO 0] (Kd.C_grow hB hC) one_vs one_few mainB B1.e)) ?_;rintro z hz)
 rw [one_bindP] at hz ⊢
 rw [one_bindR]
 refine Zo J (oExt J ZP ?_)
 refine oExt J ZP ?_
 refine oAlloc J ZP (fun b2=>?_)
 refine oAlloc J ZP (fun b3=>?_)
 refine Zsa ?_
 refine Zsa ?_
 refine Zn (Zzm ?_)
 (refine ZC0 rfl ZK (fun w hS=>frame hS ZQ (fun B' hB hS'=>bind_Bind hS' (some ⟨b7,0,none⟩) 1 [oneO 0] (Kd.C_grow hB hC) one_vs one_few dB B1.e)) ?_;rintro z2 hz2)
 rw [one_bindP2] at hz2 ⊢
 rw [one_bindR2]
 refine Zo J (oExt J ZP ?_)
 refine oExt J ZP ?_
 refine oAlloc J ZP (fun b4=>?_)
 refine oAlloc J ZP (fun b5=>?_)
 refine Zsa ?_
 refine Zsa ?_
 refine Zn (Za (wFreeze [row (kRaw 13) B1.e 59 (.slice z.Af z.rf.length z.cf) z.rf,row (kRaw 7) B1.e 64 (.slice z.Ad z.rd.length z.cd) z.rd,bun z.Ψ] ZQ (fun B2 hB2 hq2=>?_)))
 obtain ⟨k1,k2⟩:=hz _ (hq2 (bun z.Ψ) _ ZP)
 have hp:=PR.K (e:=0) hz (hq2 _ _ ZP) (hq2 _ _ ZP) (hq2 _ _ ZP)
 have q0:=rawrow (kd:=kApiFun) (hq2 (row (kRaw 13) _ _ _ _) _ ZP) rfl k1
 have q1:=rawrow (kd:=kApiDat) (hq2 (row (kRaw 7) _ _ _ _) _ ZP) rfl k2
 have l1:=k1.length
 have l2:=k2.length
 replace l1:z.rf.length=1:=l1
 have lr:oneFun.fRefs.length=2:=rfl
 replace l2:z.rd.length=1:=l2
 obtain ⟨e1,cs1,hE⟩:=q0.elm (i:=0) (u:=oneFun) rfl
 obtain ⟨F0,f0,F1,f1,F2,f2,F3,f3,F4,f4,rfl,n0,r0,n1,r1,n2,r2,n3,r3,n4,r4⟩:=kApiFun_open hE.K
 obtain ⟨e2,cs2,hE2⟩:=r4.elm (i:=0) (u:=0) rfl
 obtain rfl:=(show cs2=[Value.int .i64 0] from hE2.K)
 obtain ⟨e3,cs3,hE3⟩:=r4.elm (i:=1) (u:=-1) rfl
 obtain rfl:=(show cs3=[Value.int .i64 (-1)] from hE3.K)
 obtain ⟨e4,cs4,hE4⟩:=q1.elm (i:=0) (u:=oneDat) rfl
 obtain ⟨G0,g0,G1,g1,G2,g2,rfl,m0,s0,m1,s1,m2,s2⟩:=kApiDat_open hE4.K
 refine Zh (Zi ?_)
 simp only [List.append_eq,List.cons_append,List.nil_append]
 refine Zla ?_
 refine oBuild Parts.nil J J Built.nil (Go.Proofs.YtafiabekcekdbaaGreatS.oBinV (r:=.bool true) J J (fun w=>run_eqGuard_agg w .eql _ _ _ _ _ Tryz.eqGuardType45) (fun w=>rej_eql (0,0,0) (0,0,0) w) ?_)
 refine Zo J (Zq J J (Zz (n:=0) (m:=0) J J J (Zzf ?_)))
 refine Zq J J (Zv J J (Zq J J (Zy J J ?_)))
 refine ZS0 (t:=25) (v':=.bool true) rfl (by first | rfl | decide | (simp;done) | (simp [l1];done) | (simp [l2];done)) ?_
 refine Zt J J (Zo J (Zq J J (Zz (n:=1) (m:=1) J J J (Zzf ?_))))
 refine Zq J J (Zv J J (Zq J J (Zy J J ?_)))
 refine ZS0 (t:=31) (v':=.bool true) rfl (by first | rfl | decide | (simp;done) | (simp [l1];done) | (simp [l2];done)) ?_
 refine Zt J J (Zo J (Zq J J (Zz (n:=0) (m:=0) J J J (Zzf ?_))))
 refine Zq J J ?_
 refine oIdxE rfl rfl (hE) (by rw [l1];decide) rfl rfl ?_
 have hc36:=(hE).cell
 refine Zq J J (ZF (ZT 2) (ZT 2) ?_)
 refine Zq J J (Zlx hc36 ?_)
 refine Zq J J (oSEq J J ?_)
 refine ZS0 (t:=39) (v':=.bool true) rfl (by first | rfl | decide | (simp;done) | (simp [l1];done) | (simp [l2];done)) ?_
 refine Zt J J (Zo J (Zq J J (Zz (n:=0) (m:=0) J J J (Zzf ?_))))
 refine Zq J J ?_
 refine oIdxE rfl rfl (hE) (by rw [l1];decide) rfl rfl ?_
 have hc44:=(hE).cell
 refine Zq J J (ZF (ZT 12) (ZT 12) ?_)
 refine Zq J J (Zlx hc44 ?_)
 refine Zq J J ?_
 refine oIdxE rfl rfl (hE2) (by rw [lr];decide) rfl rfl ?_
 have hc47:=(hE2).cell
 refine Zq J J (Zlx hc47 ?_)
 refine Zq J J (Zy J J ?_)
 refine ZS0 (t:=49) (v':=.bool true) rfl (by first | rfl | decide | (simp;done) | (simp [l1];done) | (simp [l2];done)) ?_
 refine Zt J J (Zo J (Zq J J (Zz (n:=0) (m:=0) J J J (Zzf ?_))))
 refine Zq J J ?_
 refine oIdxE rfl rfl (hE) (by rw [l1];decide) rfl rfl ?_
 have hc54:=(hE).cell
 refine Zq J J (ZF (ZT 12) (ZT 12) ?_)
 refine Zq J J (Zlx hc54 ?_)
 refine Zq J J ?_
 refine oIdxE rfl rfl (hE3) (by rw [lr];decide) rfl rfl ?_
 have hc57:=(hE3).cell
 refine Zq J J (Zlx hc57 ?_)
 refine Zq J J (Zy J J ?_)
 refine ZS0 (t:=59) (v':=.bool true) rfl (by first | rfl | decide | (simp;done) | (simp [l1];done) | (simp [l2];done)) ?_
 refine Zt J J (Zo J (Zq J J (Zz (n:=1) (m:=1) J J J (Zzf ?_))))
 refine Zq J J ?_
 refine oIdxE rfl rfl (hE4) (by rw [l2];decide) rfl rfl ?_
 have hc64:=(hE4).cell
 refine Zq J J (ZF (ZT 1) (ZT 1) ?_)
 refine Zq J J (Zlx hc64 ?_)
 refine Zq J J (Zy J J ?_)
 refine ZS0 (t:=67) (v':=.bool true) rfl (by first | rfl | decide | (simp;done) | (simp [l1];done) | (simp [l2];done)) ?_
 refine Zt J J (Zo J (Zq J J (Zla ?_)))
 refine Zq J J (oBuild (Parts.cons J (Parts.cons J (Parts.cons J Parts.nil))) J J (Built.cons (off:=0) (s:=1) J ZP J ZP (Built.cons (off:=1) (s:=1) J ZP J ZP (Built.cons (off:=2) (s:=1) J ZP J ZP Built.nil))) ?_)
 refine Zq J J (Go.Proofs.YtafiabekcekdbaaGreatS.oBinV (r:=.bool true) J J (fun w=>run_eqGuard_agg w .eql _ _ _ _ _ Tryz.eqGuardType45) (fun w=>rej_eql (15,-1,-1) (15,-1,-1) w) ?_)
 refine Zt J J (Zo J (Zq J J (Zla ?_)))
 refine Zq J J ?_
 (refine ZC0 rfl ZK (fun w hS=>frame hS ZQ (fun B' hB hS'=>bind_Fun hS' oneP _ (gPg hB hp) 0 0)) ?_;rintro ⟨⟩ -)
 refine Zq J J (Zy J J ?_)
 refine ZS0 (t:=77) (v':=.bool true) rfl (by first | rfl | decide | (simp;done) | (simp [l1];done) | (simp [l2];done)) ?_
 refine Zt J J (Zo J (Zq J J (Zla ?_)))
 refine Zq J J ?_
 (refine ZC0 rfl ZK (fun w hS=>frame hS ZQ (fun B' hB hS'=>bind_Fun hS' oneP _ (gPg hB hp) 0 1)) ?_;rintro ⟨⟩ -)
 refine Zq J J (Zy J J ?_)
 refine ZS0 (t:=82) (v':=.bool true) rfl (by first | rfl | decide | (simp;done) | (simp [l1];done) | (simp [l2];done)) ?_
 refine Zt J J (Zo J (Zq J J (Zla ?_)))
 refine Zq J J ?_
 (refine ZC0 rfl ZK (fun w hS=>frame hS ZQ (fun B' hB hS'=>bind_Check hS' oneP _ (gPg hB hp))) ?_;rintro ⟨⟩ -)
 refine Zq J J (Zy J J ?_)
 refine ZS0 (t:=87) (v':=.bool true) rfl (by first | rfl | decide | (simp;done) | (simp [l1];done) | (simp [l2];done)) ?_
 refine Zt J J (Zo J (Zq J J (oBuild Parts.nil J J Built.nil (Zq J J ?_))))
 (refine ZC0 rfl ZK (fun w hS=>frame hS ZQ (fun B' hB hS'=>bind_Check hS' ⟨[],[],0⟩ _ (kApiProgram_mk _ ⟨[],[],0⟩ (c0:=0) (c1:=0) (by decide) (Kd.C_nil _ _ _) (by decide) (Kd.C_nil _ _ _)))) ?_;rintro ⟨⟩ -)
 refine Zq J J (Zy J J ?_)
 refine ZS0 (t:=92) (v':=.bool true) rfl (by first | rfl | decide | (simp;done) | (simp [l1];done) | (simp [l2];done)) ?_
 refine Zt J J (Zza ?_)
 exact ⟨(),trivial,rfl,Lh⟩
end Go.Proofs.YtafiabekcekdbaaGreatO
namespace Go.Proofs.YtafiabekcekdbaaGreatW
set_option maxRecDepth 100000
set_option maxHeartbeats 4000000
open Go.RowKit Go.Proofs.YtafiabekcekdbaaGreatK Go.Proofs.YtafiabekcekdbaaGreatT Go.Proofs.YtafiabekcekdbaaGreatL Go.Proofs.YtafiabekcekdbaaGreatV Go.Proofs.YtafiabekcekdbaaGreatG

theorem ref24_Few {B:Base}{w:World}(hS:St B [] w) (A:Option Addr) (cp:Nat) (l:List ApiObject) (hC:kApiObject.C B.e A l) :
 CW 16 #[.slice A l.length cp] w (Ret B (fun r:Bool=>r=true→FewO l) (fun r=>.bool r) (fun _=>[])):=by
 have hl:=hC.1
 refine ZX Tryz.func16 hS ?_
 refine Zh (Zi (Zp J (Zn (Za (Zh (Zh (Zi (Zp J (Zn (Za (Zk (wLoop (ι:=Nat) (fun i=>[(0,.slice A l.length cp),(3,.int .i64 (i:Int))]) (fun i=>[]) (fun i=>i≤l.length∧∀ o ∈ l.take i,FewB o) (fun i=>l.length-i) 0 ?_ cv (Leads.has ZQ) ?_))))))))))))
 exact ⟨Nat.zero_le _,by simp⟩
 rintro i ⟨hi,hs⟩
 try dsimp only
 refine Zh (Zh (Zi (Zo J (Zo J (Zv J J (Zx J J (Zn (Za (wC (fun h7=>?_) (fun h7=>?_))))))))))
 obtain ⟨o,ho⟩:∃ o,l[i]?=some o:=⟨_,List.getElem?_eq_getElem ZO⟩
 obtain ⟨e1,cs1,hE⟩:=hC.elm ho
 obtain ⟨B0,d0,B1,d1,B2,d2,rfl,m0,q0,m1,q1,m2,q2⟩:=kApiObject_open hE.K
 refine Zj (Za (Zh (Zk (Zh (Zi (Zo J (Zo J (oIdxE J J (hE) ZO J J ?_))))))))
 have hc12:=(hE).cell
 refine Zlx hc12 ?_
 (refine ZC0 rfl ZK (fun w hS=>frame hS ZQ (fun B' hB hS'=>ref19_Few hS' o _ (kApiObject_mk _ o m0 (Kd.C_grow hB q0) m1 (Kd.C_grow hB q1) m2 (Kd.C_grow hB q2)))) ?_;rintro r14 h14)
 refine Zno ?_
 refine Zn (Za (wC (fun h15=>?_) (fun h15=>?_)))
 refine Zh (Zi (Zzb ?_))
 exact ⟨false,(by intro h;cases h),rfl,Lh⟩
 refine Zj (Zze ?_)
 refine Zp J (Zn (Za ?_))
 exact ⟨rfl,i+1,⟨by omega,take_all hs ho (h14 (by simp_all))⟩,by omega,cv,Lh⟩
 refine Zm (Zb (Zb (Ze (Za (Zh (Zi (Zo J (Zv J J (oLeq J J (Zza ?_))))))))))
 obtain rfl:i=l.length:=by omega
 rw [List.take_length] at hs
 exact ⟨_,(by intro h;have:=of_decide_eq_true h;exact ⟨by omega,fun o ho=>(hs o ho).syms,fun o ho=>(hs o ho).funcs,fun o ho=>(hs o ho).datas,fun o ho=>(hs o ho).fun_,fun o ho=>(hs o ho).data⟩),rfl,Lh⟩
theorem ref24_Bind {B:Base}{w:World}(hS:St B [] w) (A:Option Addr) (cp:Nat) (l:List ApiObject) (W0:World) (hW:Grow W0 B.e) (hC0:kApiObject.C W0 A l) (hv:∀ o ∈ l,vApiObject o) (hsm:FewO l) (s:ByteArray) :
 CW 19 #[.slice A l.length cp,.string s] w (Ret B (fun z:PZ=>z.ok∧z.prog (bindP l s).fEntry=bindP l s) (fun z=>.tuple #[.agg (z.cells (bindP l s).fEntry).toArray,.agg (rejL (bindR l s)).toArray]) (fun z=>[row kFunT W0 59 (.slice z.Af z.ft.length z.cf) z.ft,bun (rws (Kd.int .i64) W0 3 (z.ft.map hdT) z.fr),row kDatT W0 64 (.slice z.Ad z.dt.length z.cd) z.dt,bun (rws (Kd.int .i64) W0 3 (z.dt.map hdT) z.dr)])):=by
 have hln:=hsm.len
 have hC:=Kd.C_grow hW hC0
 refine ZX Tryz.func19 hS ?_
 refine Zh (Zi (oAlloc J ZP (fun b4=>?_)))
 refine oAlloc J ZP (fun b5=>?_)
 refine Zn (Za (Zh (Zh (Zi (Zo J (Zv J J (Zy J J (Zo J (ZS (ZT 17) (fun h17=>?_) (fun h17=>?_))))))))))
 refine Zr J J J J (Zr J J J J (Zr J J J J (Zt J J (Zn (Za (wCondT J (Zh (Zi (oBuild Parts.nil J J Built.nil (oBuild (Parts.cons J (Parts.cons J (Parts.cons J Parts.nil))) J J (Built.cons (off:=0) (s:=1) J ZP J ZP (Built.cons (off:=1) (s:=1) J ZP J ZP (Built.cons (off:=2) (s:=1) J ZP J ZP Built.nil))) ?_))))))))))
 refine Zsa ?_
 refine Zsa ?_
 refine Zn (Za (Zl (Zc (Zw ?_))))
 refine ⟨rfl,_,(ResL.cons (by first | exact ResR.cell rfl ZP rfl | exact ResR.agg rfl ZP rfl rfl) (ResL.cons (by first | exact ResR.cell rfl ZP rfl | exact ResR.agg rfl ZP rfl rfl) ResL.nil)),?_⟩
 have hR:bindR l s=(19,-1,-1):=by unfold bindR;rw [if_pos ZO]
 have hP:bindP l s=⟨[],[],0⟩:=by unfold bindP;rw [hR,if_neg (by first | decide | exact absurd rfl)]
 exact ⟨⟨none,0,[],[],none,0,[],[]⟩,⟨⟨rfl,rfl⟩,by rw [hP];rfl⟩,by rw [hR,hP];rfl,(Leads.nilrow.trans (bun_nil.trans (Leads.nilrow.trans (bun_nil.trans Lh))))⟩
 refine Zq J J (Zo J (Zq J J (Zv J J (Zq J J (Z1 J J (Zu J J (Zn (Za (wC (fun h21=>?_) (fun h21=>?_))))))))))
 refine Zh (Zi (oBuild Parts.nil J J Built.nil (oBuild (Parts.cons J (Parts.cons J (Parts.cons J Parts.nil))) J J (Built.cons (off:=0) (s:=1) J ZP J ZP (Built.cons (off:=1) (s:=1) J ZP J ZP (Built.cons (off:=2) (s:=1) J ZP J ZP Built.nil))) ?_)))
 refine Zsa ?_
 refine Zsa ?_
 refine Zn (Za (Zl (Zc (Zw ?_))))
 refine ⟨rfl,_,(ResL.cons (by first | exact ResR.cell rfl ZP rfl | exact ResR.agg rfl ZP rfl rfl) (ResL.cons (by first | exact ResR.cell rfl ZP rfl | exact ResR.agg rfl ZP rfl rfl) ResL.nil)),?_⟩
 have hR:bindR l s=(19,-1,-1):=by unfold bindR;rw [if_pos ZO]
 have hP:bindP l s=⟨[],[],0⟩:=by unfold bindP;rw [hR,if_neg (by first | decide | exact absurd rfl)]
 exact ⟨⟨none,0,[],[],none,0,[],[]⟩,⟨⟨rfl,rfl⟩,by rw [hP];rfl⟩,by rw [hR,hP];rfl,(Leads.nilrow.trans (bun_nil.trans (Leads.nilrow.trans (bun_nil.trans Lh))))⟩
 have hl0:¬ (l.length=0∨6<l.length):=by omega
 refine Zj (Za (Zh (Zh (Zi (Zp J (Zn (Za (Zk (wLoop (ι:=Nat) (fun i=>[(0,.slice A l.length cp),(1,.string s),(4,.pointer (some ⟨b4,0,none⟩)),(5,.pointer (some ⟨b5,0,none⟩)),(6,.int .i64 (i:Int))]) (fun i=>[blk b4 43 [.slice none 0 0,.slice none 0 0,.int .i64 0],blk b5 45 [.int .i64 0,.int .i64 0,.int .i64 0]]) (fun i=>i≤l.length∧∀ o ∈ l.take i,badB o=false) (fun i=>l.length-i) 0 ?_ cv (Leads.has ZQ) ?_)))))))))
 exact ⟨Nat.zero_le _,by simp⟩
 rintro i ⟨hi,hs⟩
 try dsimp only
 refine Zh (Zh (Zi (Zo J (Zo J (Zv J J (Zx J J (Zn (Za (wC (fun h27=>?_) (fun h27=>?_))))))))))
 obtain ⟨o,ho⟩:∃ o,l[i]?=some o:=⟨_,List.getElem?_eq_getElem ZO⟩
 obtain ⟨e1,cs1,hE⟩:=hC.elm ho
 obtain ⟨B0,d0,B1,d1,B2,d2,rfl,m0,q0,m1,q1,m2,q2⟩:=kApiObject_open hE.K
 have hg:=hsm.one hv (List.mem_of_getElem? ho)
 refine Zj (Za (Zh (Zk (Zh (Zi (Zo J (Zo J (oIdxE J J (hE) ZO J J ?_))))))))
 have hc33:=(hE).cell
 refine Zlx hc33 ?_
 (refine ZC0 rfl ZK (fun w hS=>frame hS ZQ (fun B' hB hS'=>ref19_Check hS' o _ (kApiObject_mk _ o m0 (Kd.C_grow hB q0) m1 (Kd.C_grow hB q1) m2 (Kd.C_grow hB q2)) hg)) ?_;rintro ⟨⟩ -)
 refine Zo J (oExt J ZP ?_)
 refine oExt J ZP ?_
 refine Zp J (Zp J (Zn (Za (Zh (Zi (Zo J (Z0 J J (Zn (Za (wC (fun h39=>?_) (fun h39=>?_)))))))))))
 refine Zh (Zi (oBuild Parts.nil J J Built.nil (Zo J (Zo J (Zo J (oBuild (Parts.cons J (Parts.cons J (Parts.cons J Parts.nil))) J J (Built.cons (off:=0) (s:=1) J ZP J ZP (Built.cons (off:=1) (s:=1) J ZP J ZP (Built.cons (off:=2) (s:=1) J ZP J ZP Built.nil))) ?_))))))
 refine Zsa ?_
 refine Zsa ?_
 refine Zn (Za (Zl (Zf (Zc (Zc (Zf (Zc (Zw ?_))))))))
 refine ⟨rfl,_,(ResL.cons (by first | exact ResR.cell rfl ZP rfl | exact ResR.agg rfl ZP rfl rfl) (ResL.cons (by first | exact ResR.cell rfl ZP rfl | exact ResR.agg rfl ZP rfl rfl) ResL.nil)),?_⟩
 have hR:bindR l s=(objE o,(i:Int),objI o):=by have hbi:=idxI_stop hs ho (show badB o=true from decide_eq_true h39);unfold bindR;rw [if_neg hl0,hbi,if_pos ZO,Int.toNat_natCast,objAt_eq ho]
 have hP:bindP l s=⟨[],[],0⟩:=by unfold bindP;rw [hR,if_neg (by first | decide | exact h39)]
 exact ⟨⟨none,0,[],[],none,0,[],[]⟩,⟨⟨rfl,rfl⟩,by rw [hP];rfl⟩,by rw [hR,hP];rfl,(Leads.nilrow.trans (bun_nil.trans (Leads.nilrow.trans (bun_nil.trans Lh))))⟩
 refine Zj (Zze ?_)
 refine Zp J (Zn (Za ?_))
 exact ⟨rfl,i+1,⟨by omega,take_not hs ho (decide_eq_false h39)⟩,by omega,cv,Lh⟩
 obtain rfl:i=l.length:=by omega
 rw [List.take_length] at hs
 have hb:¬ 0≤idxI badB l:=by rw [idxI_none hs];decide
 refine Zm (Zb (Zb (Ze (Za (Zh (Zh (Zi (Zo J ?_))))))))
 (refine ZC0 rfl ZK (fun w hS=>frame hS ZQ (fun B' hB hS'=>ref23_Check hS' A cp l (Kd.C_grow hB hC) hsm)) ?_;rintro ⟨⟩ -)
 refine oAlloc J ZP (fun b9=>?_)
 refine Zsa ?_
 refine Zn (Za (Zh (Zi (Zz (n:=0) (m:=0) J J J (Zld ?_)))))
 refine Z0 J J (Zn (Za (wC (fun h49=>?_) (fun h49=>?_))))
 refine Zh (wDrawN J J (ZM (i:=0) (rs:=[1]) ZK ?_))
 refine ZA J ?_ ?_
 refine oBuild Parts.nil J J Built.nil (Z7 (ZM (i:=1) (rs:=[2]) ZK ?_))
 refine ZA J ?_ ?_
 refine Zla ?_
 refine Z7 (ZM (i:=2) (rs:=[]) ZK ?_)
 refine ZA J ?_ ?_
 refine Zsa ?_
 refine Z7 (ZM (i:=3) (rs:=[]) ZK ?_)
 refine ZA J ?_ ?_
 refine Zsa ?_
 refine Z7 (anNil ZK ?_)
 refine Za (Zl (Zc (Zw ?_)))
 refine ⟨rfl,_,(ResL.cons (by first | exact ResR.cell rfl ZP rfl | exact ResR.agg rfl ZP rfl rfl) (ResL.cons (by first | exact ResR.cell rfl ZP rfl | exact ResR.agg rfl ZP rfl rfl) ResL.nil)),?_⟩
 have hR:bindR l s=chk23 l:=by unfold bindR;rw [if_neg hl0,if_neg hb,if_pos h49]
 have hP:bindP l s=⟨[],[],0⟩:=by unfold bindP;rw [hR,if_neg (by first | decide | exact h49)]
 exact ⟨⟨none,0,[],[],none,0,[],[]⟩,⟨⟨rfl,rfl⟩,by rw [hP];rfl⟩,by rw [hR,hP];rfl,(Leads.nilrow.trans (bun_nil.trans (Leads.nilrow.trans (bun_nil.trans Lh))))⟩
 exact ZB
 exact ZB
 refine ZA J ?_ ?_
 refine Zsa ?_
 refine Z7 (ZM (i:=1) (rs:=[]) ZK ?_)
 refine ZA J ?_ ?_
 refine Zla ?_
 refine Z7 (ZM (i:=3) (rs:=[]) ZK ?_)
 refine ZA J ?_ ?_
 refine Zsa ?_
 refine Z7 (anNil ZK ?_)
 refine Za (Zl (Zc (Zw ?_)))
 refine ⟨rfl,_,(ResL.cons (by first | exact ResR.cell rfl ZP rfl | exact ResR.agg rfl ZP rfl rfl) (ResL.cons (by first | exact ResR.cell rfl ZP rfl | exact ResR.agg rfl ZP rfl rfl) ResL.nil)),?_⟩
 have hR:bindR l s=chk23 l:=by unfold bindR;rw [if_neg hl0,if_neg hb,if_pos h49]
 have hP:bindP l s=⟨[],[],0⟩:=by unfold bindP;rw [hR,if_neg (by first | decide | exact h49)]
 exact ⟨⟨none,0,[],[],none,0,[],[]⟩,⟨⟨rfl,rfl⟩,by rw [hP];rfl⟩,by rw [hR,hP];rfl,(Leads.nilrow.trans (bun_nil.trans (Leads.nilrow.trans (bun_nil.trans Lh))))⟩
 exact ZB
 exact ZB
 exact ZB
 refine ZA J ?_ ?_
 refine Zla ?_
 refine Z7 (ZM (i:=0) (rs:=[]) ZK ?_)
 refine ZA J ?_ ?_
 refine oBuild Parts.nil J J Built.nil (Z7 (ZM (i:=2) (rs:=[]) ZK ?_))
 refine ZA J ?_ ?_
 refine Zsa ?_
 refine Z7 (ZM (i:=3) (rs:=[]) ZK ?_)
 refine ZA J ?_ ?_
 refine Zsa ?_
 refine Z7 (anNil ZK ?_)
 refine Za (Zl (Zc (Zw ?_)))
 refine ⟨rfl,_,(ResL.cons (by first | exact ResR.cell rfl ZP rfl | exact ResR.agg rfl ZP rfl rfl) (ResL.cons (by first | exact ResR.cell rfl ZP rfl | exact ResR.agg rfl ZP rfl rfl) ResL.nil)),?_⟩
 have hR:bindR l s=chk23 l:=by unfold bindR;rw [if_neg hl0,if_neg hb,if_pos h49]
 have hP:bindP l s=⟨[],[],0⟩:=by unfold bindP;rw [hR,if_neg (by first | decide | exact h49)]
 exact ⟨⟨none,0,[],[],none,0,[],[]⟩,⟨⟨rfl,rfl⟩,by rw [hP];rfl⟩,by rw [hR,hP];rfl,(Leads.nilrow.trans (bun_nil.trans (Leads.nilrow.trans (bun_nil.trans Lh))))⟩
 exact ZB
 exact ZB
 exact ZB
 exact ZB
 have hok:OkL l:=⟨hsm,fun o ho=>Classical.not_not.1 (of_decide_eq_false (hs o ho)),Classical.not_not.1 h49⟩
 refine Zj (Zzv ?_)
 (refine ZC0 rfl ZK (fun w hS=>frame hS ZQ (fun B' hB hS'=>ref23_Find hS' A cp l (Kd.C_grow hB hC) hsm s)) ?_;rintro ⟨⟩ -)
 refine Zo J (oExt J ZP ?_)
 refine oExt J ZP ?_
 refine oExt J ZP ?_
 refine Zp J (Zp J (Zp J (Zn (Za (Zh (Zh (Zi (Zo J (Zno ?_)))))))))
 refine Zo J (ZS (ZT 61) (fun h61=>?_) (fun h61=>?_))
 refine Zr J J J J (Zr J J J J (Zr J J J J (Zr J J J J (Zr J J J J (Zr J J J J (Zr J J J J (Zr J J J J (Zr J J J J (Zr J J J J (Zt J J (Zo J (Zr J J J J (Zr J J J J (Zr J J J J (Zr J J J J (Zr J J J J (Zr J J J J (Zr J J J J (Zr J J J J (Zr J J J J (Zr J J J J (Zt J J (Zn (Za (wCondT J (Zh (Zi (oBuild Parts.nil J J Built.nil (oBuild (Parts.cons J (Parts.cons J (Parts.cons J Parts.nil))) J J (Built.cons (off:=0) (s:=1) J ZP J ZP (Built.cons (off:=1) (s:=1) J ZP J ZP (Built.cons (off:=2) (s:=1) J ZP J ZP Built.nil))) ?_)))))))))))))))))))))))))))))
 refine Zsa ?_
 refine Zsa ?_
 refine Zn (Za (Zl (Zc (Zw ?_))))
 refine ⟨rfl,_,(ResL.cons (by first | exact ResR.cell rfl ZP rfl | exact ResR.agg rfl ZP rfl rfl) (ResL.cons (by first | exact ResR.cell rfl ZP rfl | exact ResR.agg rfl ZP rfl rfl) ResL.nil)),?_⟩
 have hR:bindR l s=(15,-1,-1):=by unfold bindR;rw [if_neg hl0,if_neg hb,if_neg h49,if_pos (.inl (by simpa using h61))]
 have hP:bindP l s=⟨[],[],0⟩:=by unfold bindP;rw [hR,if_neg (by first | decide | exact absurd rfl)]
 exact ⟨⟨none,0,[],[],none,0,[],[]⟩,⟨⟨rfl,rfl⟩,by rw [hP];rfl⟩,by rw [hR,hP];rfl,(Leads.nilrow.trans (bun_nil.trans (Leads.nilrow.trans (bun_nil.trans Lh))))⟩
 obtain ⟨i,k,o,x,hfe,ho,hx,hgx⟩:=fnd_some (show (fnd l s).2.2=true by simpa using h61)
 have hso:=symOf_eq ho hx
 have hil:=(List.getElem?_eq_some_iff.1 ho).1
 have hkl:=(List.getElem?_eq_some_iff.1 hx).1
 obtain ⟨e3,cs3,hE3⟩:=hC.elm ho
 obtain ⟨C0,f0,C1,f1,C2,f2,rfl,n0,r0,n1,r1,n2,r2⟩:=kApiObject_open hE3.K
 obtain ⟨e4,cs4,hE4⟩:=r0.elm hx
 obtain rfl:=kApiSymbol_open hE4.K
 rw [hfe]
 dsimp only
 refine Zq J J (Zo J (Zq J J (Zo J (Zq J J (oIdxE J J (hE3) ZO J J ?_)))))
 have hc64:=(hE3).cell
 refine Zq J J (ZF (ZT 0) (ZT 0) ?_)
 refine Zq J J (Zlx hc64 ?_)
 refine Zq J J (Zo J (Zq J J (oIdxE J J (hE4) ZO J J ?_)))
 have hc68:=(hE4).cell
 refine Zq J J (ZF (ZT 2) (ZT 2) ?_)
 refine Zq J J (Zlx hc68 ?_)
 refine Zq J J (Z0 J J (Zu J J (Zo J (ZS (ZT 73) (fun h73=>?_) (fun h73=>?_)))))
 refine Zr J J J J (Zr J J J J (Zr J J J J (Zr J J J J (Zr J J J J (Zr J J J J (Zr J J J J (Zr J J J J (Zr J J J J (Zr J J J J (Zt J J (Zn (Za (wCondT J (Zh (Zi (oBuild Parts.nil J J Built.nil (oBuild (Parts.cons J (Parts.cons J (Parts.cons J Parts.nil))) J J (Built.cons (off:=0) (s:=1) J ZP J ZP (Built.cons (off:=1) (s:=1) J ZP J ZP (Built.cons (off:=2) (s:=1) J ZP J ZP Built.nil))) ?_)))))))))))))))))
 refine Zsa ?_
 refine Zsa ?_
 refine Zn (Za (Zl (Zc (Zw ?_))))
 refine ⟨rfl,_,(ResL.cons (by first | exact ResR.cell rfl ZP rfl | exact ResR.agg rfl ZP rfl rfl) (ResL.cons (by first | exact ResR.cell rfl ZP rfl | exact ResR.agg rfl ZP rfl rfl) ResL.nil)),?_⟩
 have hR:bindR l s=(15,-1,-1):=by unfold bindR;rw [if_neg hl0,if_neg hb,if_neg h49,hfe];dsimp only;rw [hso,if_pos ZO]
 have hP:bindP l s=⟨[],[],0⟩:=by unfold bindP;rw [hR,if_neg (by first | decide | exact absurd rfl)]
 exact ⟨⟨none,0,[],[],none,0,[],[]⟩,⟨⟨rfl,rfl⟩,by rw [hP];rfl⟩,by rw [hR,hP];rfl,(Leads.nilrow.trans (bun_nil.trans (Leads.nilrow.trans (bun_nil.trans Lh))))⟩
 refine Zq J J (Zo J (Zq J J (Zo J (Zq J J (oIdxE J J (hE3) ZO J J ?_)))))
 have hc76:=(hE3).cell
 refine Zq J J (ZF (ZT 0) (ZT 0) ?_)
 refine Zq J J (Zlx hc76 ?_)
 refine Zq J J (Zo J (Zq J J (oIdxE J J (hE4) ZO J J ?_)))
 have hc80:=(hE4).cell
 refine Zq J J (ZF (ZT 3) (ZT 3) ?_)
 refine Zq J J (Zlx hc80 ?_)
 refine Zq J J (Z1 J J (Zu J J (Zn (Za (wC (fun h84=>?_) (fun h84=>?_))))))
 refine Zh (Zi (oBuild Parts.nil J J Built.nil (oBuild (Parts.cons J (Parts.cons J (Parts.cons J Parts.nil))) J J (Built.cons (off:=0) (s:=1) J ZP J ZP (Built.cons (off:=1) (s:=1) J ZP J ZP (Built.cons (off:=2) (s:=1) J ZP J ZP Built.nil))) ?_)))
 refine Zsa ?_
 refine Zsa ?_
 refine Zn (Za (Zl (Zc (Zw ?_))))
 refine ⟨rfl,_,(ResL.cons (by first | exact ResR.cell rfl ZP rfl | exact ResR.agg rfl ZP rfl rfl) (ResL.cons (by first | exact ResR.cell rfl ZP rfl | exact ResR.agg rfl ZP rfl rfl) ResL.nil)),?_⟩
 have hR:bindR l s=(15,-1,-1):=by unfold bindR;rw [if_neg hl0,if_neg hb,if_neg h49,hfe];dsimp only;rw [hso,if_pos ZO]
 have hP:bindP l s=⟨[],[],0⟩:=by unfold bindP;rw [hR,if_neg (by first | decide | exact absurd rfl)]
 exact ⟨⟨none,0,[],[],none,0,[],[]⟩,⟨⟨rfl,rfl⟩,by rw [hP];rfl⟩,by rw [hR,hP];rfl,(Leads.nilrow.trans (bun_nil.trans (Leads.nilrow.trans (bun_nil.trans Lh))))⟩
 have hR:bindR l s=(0,0,0):=by unfold bindR;rw [if_neg hl0,if_neg hb,if_neg h49,hfe];dsimp only;rw [hso,if_neg (by simp;omega)]
 refine Zj (Zzm ?_)
 (refine ZC0 rfl ZK (fun w hS=>frame hS ZQ (fun B' hB hS'=>ref24_program hS' A cp l W0 (hW.trans hB) hC0 hv hok)) ?_;rintro z ⟨hz,hzf,hzd⟩)
 refine oAlloc J ZP (fun b13=>?_)
 refine Zsa ?_
 refine Zn (Za (Zh (Zi (Zo J (Zo J (Zo J ?_))))))
 (refine ZC0 rfl ZK (fun w hS=>frame hS ZQ (fun B' hB hS'=>ref24_number hS' A cp l (Kd.C_grow hB hC) hsm i k (hok.bnd ho hkl))) ?_;rintro ⟨⟩ -)
 refine Zz (n:=2) (m:=2) J J J (Zst ?_)
 refine Zn (Za (Zzs ?_))
 refine oBuild Parts.nil J J Built.nil (Zsa ?_)
 refine Zsa ?_
 refine Zn (Za (Zl (Zw ?_)))
 refine ⟨rfl,_,(ResL.cons (by first | exact ResR.cell rfl ZP rfl | exact ResR.agg rfl ZP rfl rfl) (ResL.cons (by first | exact ResR.cell rfl ZP rfl | exact ResR.agg rfl ZP rfl rfl) ResL.nil)),?_⟩
 have hP:bindP l s=⟨funsTo l l.length,datsTo l l.length,numberF l i k⟩:=by unfold bindP;rw [hR,if_pos rfl,hfe]
 exact ⟨z,⟨hz,by rw [hP];unfold PZ.prog;rw [hzf,hzd]⟩,by rw [hR,hP];rfl,Lh⟩
end Go.Proofs.YtafiabekcekdbaaGreatW
namespace Go.Proofs.YtafiabekcekdbaaGreatO
set_option maxRecDepth 100000
set_option maxHeartbeats 4000000
open Go.RowKit Go.Proofs.YtafiabekcekdbaaGreatK Go.Proofs.YtafiabekcekdbaaGreatT Go.Proofs.YtafiabekcekdbaaGreatL Go.Proofs.YtafiabekcekdbaaGreatV Go.Proofs.YtafiabekcekdbaaGreatG Go.Proofs.YtafiabekcekdbaaGreatW Go.Proofs.YtafiabekcekdbaaGreatU

theorem funs_mem {l:List ApiObject}{x:ApiFun}(h:x ∈ funsTo l l.length):∃ (i k:Nat) (o:ApiObject) (f:ApiFunc),l[i]?=some o∧o.fFuncs[k]?=some f∧x=⟨(i:Int),(k:Int),nameI o (k:Int),f,boundL l i (symsF f)⟩:=by
 unfold funsTo at h
 obtain ⟨q,hq,hx⟩:=List.mem_flatten.1 h
 obtain ⟨i,hi,rfl⟩:=List.mem_map.1 hq
 have hi:=List.mem_range.1 hi
 have ho:l[i]?=some l[i]:=List.getElem?_eq_getElem hi
 unfold fileFuns at hx
 rw [objAt_eq ho] at hx
 obtain ⟨k,hk,rfl⟩:=List.mem_map.1 hx
 have hk:=List.mem_range.1 hk
 have hf:l[i].fFuncs[k]?=some l[i].fFuncs[k]:=List.getElem?_eq_getElem hk
 have hfg:funAt l i k=l[i].fFuncs[k]:=by unfold funAt;rw [objAt_eq ho,List.getD_eq_getElem?_getD,hf];rfl
 exact ⟨i,k,_,_,ho,hf,by unfold mkFun;rw [objAt_eq ho,hfg]⟩
theorem dats_mem {l:List ApiObject}{x:ApiDat}(h:x ∈ datsTo l l.length):∃ (i k:Nat) (o:ApiObject) (d:ApiData),l[i]?=some o∧o.fDatas[k]?=some d∧x=⟨(i:Int),((o.fFuncs.length+k:Nat):Int),nameI o ((o.fFuncs.length+k:Nat):Int),d,boundL l i (refsD d)⟩:=by
 unfold datsTo at h
 obtain ⟨q,hq,hx⟩:=List.mem_flatten.1 h
 obtain ⟨i,hi,rfl⟩:=List.mem_map.1 hq
 have hi:=List.mem_range.1 hi
 have ho:l[i]?=some l[i]:=List.getElem?_eq_getElem hi
 unfold fileDats at hx
 rw [objAt_eq ho] at hx
 obtain ⟨k,hk,rfl⟩:=List.mem_map.1 hx
 have hk:=List.mem_range.1 hk
 have hd:l[i].fDatas[k]?=some l[i].fDatas[k]:=List.getElem?_eq_getElem hk
 have hdg:datAt l i k=l[i].fDatas[k]:=by unfold datAt;rw [objAt_eq ho,List.getD_eq_getElem?_getD,hd];rfl
 exact ⟨i,k,_,_,ho,hd,by unfold mkDat;rw [objAt_eq ho,hdg]⟩
theorem zip_mem {α β γ:Type}{m:α→β→γ}{a:List α}{b:List β}{x:γ}(h:x ∈ List.zipWith m a b):∃ u ∈ a,∃ v ∈ b,x=m u v:=by
 obtain ⟨i,hi,rfl⟩:=List.mem_iff_getElem.1 h
 rw [List.length_zipWith] at hi
 exact ⟨a[i],List.getElem_mem ZO,b[i],List.getElem_mem ZO,by rw [List.getElem_zipWith]⟩
structure SmT (ft:List FunT) (dt:List DatT):Prop where
  f:∀ t ∈ ft,t.2.2.2.1.fCode.length≤1000
  d:∀ t ∈ dt,t.2.2.2.1.fWords.length≤1000
theorem SmT.set {ft:List FunT}{dt:List DatT}(h:SmT ft dt) {t:FunT}{i:Nat}(ht:ft[i]?=some t) (u:Hdr):SmT (ft.set i (t.1,t.2.1,t.2.2.1,t.2.2.2.1,u)) dt:=⟨fun x hx=>by
 rcases List.mem_or_eq_of_mem_set hx with h1 | rfl
 · exact h.f x h1
 · exact h.f t (List.mem_of_getElem? ht),h.d⟩
theorem SmT.p {z:PZ}(h:SmT z.ft z.dt) (e:Int):(∀ f ∈ (z.prog e).fFuns,f.fF.fCode.length≤1000)∧∀ d ∈ (z.prog e).fDats,d.fD.fWords.length≤1000:=by
 constructor
 · intro f hf
   obtain ⟨u,hu,v,_,rfl⟩:=zip_mem hf
   exact h.f u hu
 · intro f hf
   obtain ⟨u,hu,v,_,rfl⟩:=zip_mem hf
   exact h.d u hu
theorem set_same {α:Type}{l:List α}{i:Nat}{u:α}(h:l[i]?=some u):l.set i u=l:=by
 obtain ⟨hi,rfl⟩:=List.getElem?_eq_some_iff.1 h
 simp
theorem bind_small {l:List ApiObject}(hsm:FewO l) (s:ByteArray):(∀ f ∈ (bindP l s).fFuns,f.fF.fCode.length≤1000)∧∀ d ∈ (bindP l s).fDats,d.fD.fWords.length≤1000:=by
 unfold bindP
 split
 · constructor
   · intro f hf
     obtain ⟨i,k,o,g,ho,hg,rfl⟩:=funs_mem hf
     have:=(hsm.fun_ o (List.mem_of_getElem? ho) g (List.mem_of_getElem? hg)).2.2.1
     dsimp only;omega
   · intro f hf
     obtain ⟨i,k,o,g,ho,hg,rfl⟩:=dats_mem hf
     have:=(hsm.data o (List.mem_of_getElem? ho) g (List.mem_of_getElem? hg)).1
     dsimp only;omega
 · exact ⟨fun f hf=>(by cases hf),fun d hd=>(by cases hd)⟩
theorem bindTells {B:Base}{w:World}(hS:St B [] w) (A:Option Addr) (cp:Nat) (l:List ApiObject) (hC:kApiObject.C B.e A l) (hv:∀ o ∈ l,vApiObject o) (s:ByteArray) (file item:Int) :
 CW 5 #[.slice A l.length cp,.string s,.int .i64 file,.int .i64 item] w (Ret B (fun _:Unit=>True) (fun _=>.bool true) (fun _=>[])):=by
 refine ZX Tryz.func5 hS ?_
 refine Zh (Zi (Zp J (Zn (Za (Zh (Zh (Zi (Zo J ?_))))))))
 (refine ZC0 rfl ZK (fun w hS=>frame hS ZQ (fun B' hB hS'=>ref24_Few hS' A cp l (Kd.C_grow hB hC))) ?_;rintro r14 h14)
 refine Zno ?_
 refine Zo J (ZS (ZT 16) (fun h16=>?_) (fun h16=>?_))
 refine Zr J J J J (Zr J J J J (Zr J J J J (Zt J J (Zn (Za (wCondT J (Zh (Zi ?_))))))))
 (refine ZC0 rfl ZK (fun w hS=>frame hS ZQ (fun B' hB hS'=>known24 hS')) ?_;rintro ⟨⟩ -)
 refine Zp J (Zzt ?_)
 exact ⟨(),trivial,rfl,Lh⟩
 refine Zq J J (Zo J (Zq J J (oLenStr J J (Zq J J (Z1 J J (Zu J J (Zn (Za (wC (fun h20=>?_) (fun h20=>?_))))))))))
 refine Zh (Zi ?_)
 (refine ZC0 rfl ZK (fun w hS=>frame hS ZQ (fun B' hB hS'=>known24 hS')) ?_;rintro ⟨⟩ -)
 refine Zp J (Zzt ?_)
 exact ⟨(),trivial,rfl,Lh⟩
 have hsm:FewO l:=h14 (by simp_all)
 refine Zj (Zzv ?_)
 (refine ZC0 rfl ZK (fun w hS=>frame hS ZQ (fun B' hB hS'=>bind_Bind hS' A cp l (Kd.C_grow hB hC) hv hsm s B.e)) ?_;rintro z hz)
 refine Zo J (oExt J ZP ?_)
 refine oExt J ZP ?_
 refine oAlloc J ZP (fun b9=>?_)
 refine oAlloc J ZP (fun b10=>?_)
 refine Zsa ?_
 refine Zsa ?_
 refine Zn (Zzv ?_)
 (refine ZC0 rfl ZK (fun w hS=>frame hS ZQ (fun B' hB hS'=>ref24_Bind hS' A cp l B.e hB hC hv hsm s)) ?_;rintro y ⟨hy,hyp⟩)
 refine Zo J (oExt J ZP ?_)
 refine oExt J ZP ?_
 refine oAlloc J ZP (fun b11=>?_)
 refine oAlloc J ZP (fun b12=>?_)
 refine Zsa ?_
 refine Zsa ?_
 refine Zn (Za (wFreeze [row (kRaw 13) B.e 59 (.slice z.Af z.rf.length z.cf) z.rf,row (kRaw 7) B.e 64 (.slice z.Ad z.rd.length z.cd) z.rd,bun z.Ψ,row kFunT B.e 59 (.slice y.Af y.ft.length y.cf) y.ft,bun (rws (Kd.int .i64) B.e 3 (y.ft.map hdT) y.fr),row kDatT B.e 64 (.slice y.Ad y.dt.length y.cd) y.dt,bun (rws (Kd.int .i64) B.e 3 (y.dt.map hdT) y.dr)] ZQ (fun B1 hB1 hq1=>?_)))
 have hp:=PR.K (e:=(bindP l s).fEntry) hz (hq1 (row (kRaw 13) _ _ _ _) _ ZP) (hq1 (row (kRaw 7) _ _ _ _) _ ZP) (hq1 (bun z.Ψ) _ ZP)
 have hr:=prog_K hy (hq1 (row kFunT _ _ _ _) _ ZP) (hq1 (bun (rws _ _ _ (y.ft.map hdT) _)) _ ZP) (hq1 (row kDatT _ _ _ _) _ ZP) (hq1 (bun (rws _ _ _ (y.dt.map hdT) _)) _ ZP) hB1 (bindP l s).fEntry
 rw [hyp] at hr
 obtain ⟨hf1,hd1⟩:=bind_small hsm s
 refine Zh (wDrawG J [0,1] [(2,[],[3,4,5,6,7,8,9,10,11,13,14,15]),(12,[13,14,15],[]),(16,[],[17,18,19,20,22]),(21,[22],[]),(23,[],[24,25,26]),(27,[],[28])] [29] 24 ZK J J (fun w0=>?_))
 refine Zla ?_
 refine Zla ?_
 refine Z4 (Z5 J ?_)
 (refine ZC0 rfl ZK (fun w hS=>frame hS ZQ (fun B' hB hS'=>ref24_Same hS' (bindP l s) _ _ (gPg hB hp) (gPg hB hr))) ?_;rintro ⟨⟩ -)
 refine ZG ?_ J (fun w0=>?_)
 exact AgainG.nil
 refine Zo J (Zq J J (Zla ?_))
 refine Zq J J (Zla ?_)
 refine Zq J J ?_
 refine Go.Proofs.YtafiabekcekdbaaGreatS.oBinV (r:=.bool true) rfl rfl (fun w=>run_eqGuard_agg w .eql _ _ _ _ _ Tryz.eqGuardType45) (fun w=>by rw [rej_eql];simp) ?_
 refine Zt J J (Zo J (Zq J J (Zla ?_)))
 refine Zq J J (Zo J (Zq J J (Zo J (Zq J J (Zla ?_)))))
 refine Zq J J (Zo J (Zq J J (Zo J (Z4 (Z5 J (Zq J J ?_))))))
 (refine ZC0 rfl ZK (fun w hS=>frame hS ZQ (fun B' hB hS'=>bind_Fun hS' (bindP l s) _ (gPg hB hp) file item)) ?_;rintro ⟨⟩ -)
 refine ZG ?_ J (fun w0=>?_)
 refine Z8 J J J J (fun w0=>?_) ?_
 refine Zq J J (Zla ?_)
 exact Z9 rfl
 refine Z8 J J J J (fun w0=>?_) ?_
 refine Zq J J (Zo J ?_)
 exact Z9 rfl
 refine Z8 J J J J (fun w0=>?_) ?_
 refine Zq J J (Zo J ?_)
 exact Z9 rfl
 exact AgainG.nil
 refine Z4 (Z5 J (Zq J J ?_))
 (refine ZC0 rfl ZK (fun w hS=>frame hS ZQ (fun B' hB hS'=>ref24_Fun hS' (bindP l s) _ (gPg hB hr) file item)) ?_;rintro ⟨⟩ -)
 refine ZG ?_ J (fun w0=>?_)
 exact AgainG.nil
 refine Zq J J (Zy J J (ZS0 (t:=51) (v':=.bool true) J (by simp) ?_))
 refine Zt J J (Zo J (Zq J J (Zla ?_)))
 refine Zq J J (Zla ?_)
 refine Z4 (Z5 J (Zq J J ?_))
 (refine ZC0 rfl ZK (fun w hS=>frame hS ZQ (fun B' hB hS'=>bind_Check hS' (bindP l s) _ (gPg hB hp))) ?_;rintro ⟨⟩ -)
 refine ZG ?_ J (fun w0=>?_)
 refine Z8 J J J J (fun w0=>?_) ?_
 refine Zq J J (Zla ?_)
 exact Z9 rfl
 exact AgainG.nil
 refine Z4 (Z5 J (Zq J J ?_))
 (refine ZC0 rfl ZK (fun w hS=>frame hS ZQ (fun B' hB hS'=>ref24_Check hS' (bindP l s) _ (gPg hB hr) hf1 hd1)) ?_;rintro ⟨⟩ -)
 refine ZG ?_ J (fun w0=>?_)
 exact AgainG.nil
 refine Zq J J (Zy J J (ZS0 (t:=58) (v':=.bool true) J (by simp) ?_))
 refine Zt J J (Zo J (Z4 (Z5 J (Zq J J ?_))))
 (refine ZC0 rfl ZK (fun w hS=>frame hS ZQ (fun B' hB hS'=>known24 hS')) ?_;rintro ⟨⟩ -)
 refine ZG ?_ J (fun w0=>?_)
 exact AgainG.nil
 refine Zt J J (Z6 (Zza ?_))
 exact ⟨(),trivial,rfl,Lh⟩
end Go.Proofs.YtafiabekcekdbaaGreatO
