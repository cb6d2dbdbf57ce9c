/-
  Part 4 of the proof of ElideTells: contracts of functions, and what follows from them; without conditions.
-/
import Derived.Test.YtogaiijhicfoaaaGreatElideTells3
set_option linter.unusedVariables false
set_option linter.unusedSimpArgs false
set_option linter.defProp false
namespace Go.Proofs.YtogaiijhicfoaaaGreatW
set_option maxRecDepth 100000
set_option maxHeartbeats 4000000
open Go.RowKit Go.Proofs.YtogaiijhicfoaaaGreatK Go.Proofs.YtogaiijhicfoaaaGreatT Go.Proofs.YtogaiijhicfoaaaGreatL Go.Proofs.YtogaiijhicfoaaaGreatV Go.Proofs.YtogaiijhicfoaaaGreatG

structure GoodO (o:ApiObject):Prop where
  v:vApiObject o
  syms:o.fSymbols.length≤60
  funcs:o.fFuncs.length≤20
  datas:o.fDatas.length≤20
  fun_:∀ f ∈ o.fFuncs,f.fKinds.length≤100∧f.fLines.length≤100∧f.fCode.length≤100∧f.fRelocs.length≤100
  data:∀ d ∈ o.fDatas,d.fWords.length≤100∧d.fRelocs.length≤100
theorem FewO.one {l:List ApiObject}(h:FewO l) (hv:∀ o ∈ l,vApiObject o) {o:ApiObject}(ho:o ∈ l):GoodO o:=⟨hv o ho,h.syms o ho,h.funcs o ho,h.datas o ho,h.fun_ o ho,h.data o ho⟩
def itemsF (o:ApiObject):Int:=(o.fFuncs.length:Int)+(o.fDatas.length:Int)
def definesF (o:ApiObject) (item:Int) (x:ApiSymbol):Bool:=if item<0∨itemsF o≤item then false else if item<(o.fFuncs.length:Int) then decide (x.fSort=1) && decide (x.fDef=item) else decide (x.fSort=2) && decide (x.fDef=item-(o.fFuncs.length:Int))
def definerF (o:ApiObject) (item:Int):Int:=idxI (definesF o item) o.fSymbols
theorem ref19_Items {B:Base}{w:World}(hS:St B [] w) (o:ApiObject) (oc:List Value) (ho:kApiObject.K B.e o oc) (hg:GoodO o) :
 CW 66 #[.agg oc.toArray] w (Ret B (fun _:Unit=>True) (fun _=>.int .i64 (itemsF o)) (fun _=>[])):=by
 obtain ⟨A0,c0,A1,c1,A2,c2,rfl,m0,q0,m1,q1,m2,q2⟩:=kApiObject_open ho
 have hn1:=hg.funcs
 have hn2:=hg.datas
 refine ZX Tryz.func66 hS ?_
 refine Zh (Zi (oBox J ZP (fun b1=>?_)))
 refine Zp J (Zn (Za (Zh (Zi (Zz (n:=1) (m:=1) J J J (Zld ?_))))))
 refine Zv J J (Zz (n:=2) (m:=2) J J J (Zld ?_))
 refine Zv J J ?_
 first | refine oAdd rfl rfl ZO ?_ | refine oAddW rfl rfl ?_
 refine Zp J (Zzx ?_)
 exact ⟨(),trivial,rfl,Lh⟩
theorem ref19_defines {B:Base}{w:World}(hS:St B [] w) (o:ApiObject) (oc:List Value) (ho:kApiObject.K B.e o oc) (hg:GoodO o) (x:ApiSymbol) (xc:List Value) (hx:kApiSymbol.K B.e x xc) (item:Int) :
 CW 131 #[.agg oc.toArray,.agg xc.toArray,.int .i64 item] w (Ret B (fun _:Unit=>True) (fun _=>.bool (definesF o item x)) (fun _=>[])):=by
 obtain ⟨A0,c0,A1,c1,A2,c2,rfl,m0,q0,m1,q1,m2,q2⟩:=kApiObject_open ho
 obtain rfl:=kApiSymbol_open hx
 have hn1:=hg.funcs
 have hn2:=hg.datas
 have hit:itemsF o=(o.fFuncs.length:Int)+(o.fDatas.length:Int):=rfl
 refine ZX Tryz.func131 hS ?_
 refine Zh (Zi (oBox J ZP (fun b3=>?_)))
 refine oBox J ZP (fun b4=>?_)
 refine Zp J (Zn (Za (Zh (Zh (Zi (Zo J (Zx J J (Zo J (ZS (ZT 9) (fun h9=>?_) (fun h9=>?_))))))))))
 refine Zr J J J J (Zr J J J J (Zr J J J J (Zr J J J J (Zt J J (Zn (Za (wCondT J (Zh (Zi (Zze ?_))))))))))
 exact ⟨(),trivial,by unfold definesF;rw [if_pos ZO];rfl,Lh⟩
 refine Zq J J (Zo J (Zq J J (Zla ?_)))
 refine Zq J J ?_
 (refine ZC0 rfl ZK (fun w hS=>frame hS ZQ (fun B' hB hS'=>ref19_Items hS' o _ (kApiObject.K_grow hB ho) hg)) ?_;rintro ⟨⟩ -)
 refine Zq J J (Z2 J J (Zu J J (Zn (Za (wC (fun h14=>?_) (fun h14=>?_))))))
 refine Zh (Zi (Zze ?_))
 exact ⟨(),trivial,by unfold definesF;rw [if_pos ZO];rfl,Lh⟩
 refine Zj (Za (Zh (Zh (Zi (Zo J (Zz (n:=1) (m:=1) J J J (Zld ?_)))))))
 refine Zv J J (Zx J J (Zn (Za (wC (fun h19=>?_) (fun h19=>?_)))))
 refine Zh (Zi (Zz (n:=2) (m:=2) J J J (Zld ?_)))
 refine Zy J J (Zo J (ZS (ZT 23) (fun h23=>?_) (fun h23=>?_)))
 refine Zq J J (Zz (n:=4) (m:=4) J J J (Zzg ?_))
 refine Zq J J (Zo J (Zq J J (Zy J J (Zt J J (Zze ?_)))))
 exact ⟨(),trivial,by unfold definesF;rw [if_neg ZO,if_pos ZO];simp [resVal,h23],Lh⟩
 refine Zr J J J J (Zr J J J J (Zr J J J J (Zr J J J J (Zu J J (Zze ?_)))))
 exact ⟨(),trivial,by unfold definesF;rw [if_neg ZO,if_pos ZO];simp [resVal,h23],Lh⟩
 refine Zj (Za (Zh (Zi (Zz (n:=2) (m:=2) J J J (Zld ?_)))))
 refine Zy J J (Zo J (ZS (ZT 32) (fun h32=>?_) (fun h32=>?_)))
 refine Zq J J (Zz (n:=4) (m:=4) J J J (Zzg ?_))
 refine Zq J J (Zo J (Zq J J (Zz (n:=1) (m:=1) J J J (Zzg ?_))))
 refine Zq J J (Zv J J (Zq J J (oSub J J ZO ?_)))
 refine Zq J J (Zy J J (Zt J J (Zza ?_)))
 exact ⟨(),trivial,by unfold definesF;rw [if_neg ZO,if_neg ZO];simp [resVal,h32],Lh⟩
 refine Zr J J J J (Zr J J J J (Zr J J J J (Zr J J J J (Zr J J J J (Zzp ?_)))))
 exact ⟨(),trivial,by unfold definesF;rw [if_neg ZO,if_neg ZO];simp [resVal,h32],Lh⟩
theorem ref19_Definer {B:Base}{w:World}(hS:St B [] w) (o:ApiObject) (oc:List Value) (ho:kApiObject.K B.e o oc) (hg:GoodO o) (item:Int) :
 CW 68 #[.agg oc.toArray,.int .i64 item] w (Ret B (fun _:Unit=>True) (fun _=>.int .i64 (definerF o item)) (fun _=>[])):=by
 obtain ⟨A0,c0,A1,c1,A2,c2,rfl,m0,q0,m1,q1,m2,q2⟩:=kApiObject_open ho
 have hn0:=hg.syms
 refine ZX Tryz.func68 hS ?_
 refine Zh (Zi (oBox J ZP (fun b2=>?_)))
 refine Zp J (Zn (Za (Zh (Zh (Zi (Zp J (Zn (Za (Zk (wLoop (ι:=Nat) (fun i=>[(1,.int .i64 item),(2,.pointer (some ⟨b2,0,none⟩)),(5,.int .i64 (i:Int))]) (fun i=>[blk b2 79 [.slice A0 o.fSymbols.length c0,.slice A1 o.fFuncs.length c1,.slice A2 o.fDatas.length c2]]) (fun i=>i≤o.fSymbols.length∧∀ y ∈ o.fSymbols.take i,definesF o item y=false) (fun i=>o.fSymbols.length-i) 0 ?_ cv Lh ?_))))))))))
 exact ⟨Nat.zero_le _,by simp⟩
 rintro i ⟨hi,hs⟩
 try dsimp only
 refine Zh (Zh (Zi (Zo J (Zz (n:=0) (m:=0) J J J (Zld ?_)))))
 refine Zv J J (Zx J J (Zn (Za (wC (fun h10=>?_) (fun h10=>?_)))))
 obtain ⟨x,hx⟩:∃ x,o.fSymbols[i]?=some x:=⟨_,List.getElem?_eq_getElem ZO⟩
 obtain ⟨e1,cs1,hE⟩:=q0.elm hx
 obtain rfl:=kApiSymbol_open hE.K
 refine Zj (Za (Zh (Zk (Zh (wDraw2 J J [3,6] [0,1,2,4,5] 7 ZK J J J (fun w0=>?_))))))
 refine Zla ?_
 refine Zz (n:=0) (m:=0) J J J (Zld ?_)
 refine oIdxE J J (hE) ZO J J ?_
 have hc17:=(hE).cell
 refine Zlx hc17 ?_
 refine oHead ?_
 (refine ZC0 rfl ZK (fun w hS=>frame hS ZQ (fun B' hB hS'=>ref19_defines hS' o _ (kApiObject.K_grow hB ho) hg x _ (kApiSymbol_mk _ x) item)) ?_;rintro ⟨⟩ -)
 refine oNilT (Za (wC (fun h20=>?_) (fun h20=>?_)))
 refine Zh (Zi (Zo J (Zzb ?_)))
 exact ⟨(),trivial,by unfold definerF;rw [idxI_stop hs hx h20];rfl,Lh⟩
 refine Zj (Zzd ?_)
 refine Zp J (Zn (Za ?_))
 exact ⟨rfl,i+1,⟨by omega,take_not hs hx h20⟩,by omega,cv,Lh⟩
 refine Zm (Zzj ?_)
 obtain rfl:i=o.fSymbols.length:=by omega
 rw [List.take_length] at hs
 exact ⟨(),trivial,by unfold definerF;rw [idxI_none hs];rfl,Lh⟩
def kindB (x:ApiSymbol):Bool:=(decide (x.fSort≠1) && decide (x.fSort≠2)) || (decide (x.fSort=1) && !isC x.fKind) || (decide (x.fSort=2) && decide (textF x.fKind=ByteArray.empty))
def nameP (x y:ApiSymbol):Bool:=decide (y.fName=x.fName)
def aheadP (x y:ApiSymbol):Bool:=decide (y.fSort=x.fSort) && decide (y.fDef≠-1)
def aheadN (x:ApiSymbol) (l:List ApiSymbol):Nat:=(l.filter (aheadP x)).length
def mostN (o:ApiObject) (x:ApiSymbol):Nat:=if x.fSort=2 then o.fDatas.length else o.fFuncs.length
def symX (o:ApiObject) (i:Nat) (x:ApiSymbol):Int:=
  if nameF4 x.fName≠0 then nameF4 x.fName else if kindB x=true then 8 else if (o.fSymbols.take i).any (nameP x)=true then 12 else
  if x.fDef≠-1∧(x.fDef≠(aheadN x (o.fSymbols.take i):Int)∨(mostN o x:Int)≤x.fDef) then 9 else if x.fLocal=true∧x.fDef = -1 then 13 else 0
def symE (o:ApiObject) (i:Nat):Int:=symX o i (o.fSymbols.getD i default)
theorem symE_at {o:ApiObject}{i:Nat}{x:ApiSymbol}(h:o.fSymbols[i]?=some x):symE o i=symX o i x:=by unfold symE;rw [List.getD_eq_getElem?_getD,h];rfl
theorem ahead_succ (x:ApiSymbol) {l:List ApiSymbol}{k:Nat}{y:ApiSymbol}(h:l[k]?=some y):aheadN x (l.take (k+1))=aheadN x (l.take k)+(if aheadP x y=true then 1 else 0):=by
 unfold aheadN
 rw [List.take_add_one,h,List.filter_append,List.length_append]
 congr 1
 show ((List.filter (aheadP x) [y]).length)=_
 rw [List.filter_cons]
 split <;> simp
theorem ahead_le (x:ApiSymbol) (l:List ApiSymbol):aheadN x l≤l.length:=List.length_filter_le _ _
theorem ref19_symbol {B:Base}{w:World}(hS:St B [] w) (o:ApiObject) (oc:List Value) (ho:kApiObject.K B.e o oc) (hg:GoodO o) (i:Nat) (hi:i<o.fSymbols.length) :
 CW 126 #[.agg oc.toArray,.int .i64 (i:Int)] w (Ret B (fun _:Unit=>True) (fun _=>.int .i64 (symE o i)) (fun _=>[])):=by
 obtain ⟨A0,c0,A1,c1,A2,c2,rfl,m0,q0,m1,q1,m2,q2⟩:=kApiObject_open ho
 have hn0:=hg.syms
 have hn1:=hg.funcs
 have hn2:=hg.datas
 obtain ⟨x,hx⟩:∃ x,o.fSymbols[i]?=some x:=⟨_,List.getElem?_eq_getElem hi⟩
 have hvx:=(hg.v.1.2 x (List.mem_of_getElem? hx))
 obtain ⟨e1,cs1,hE⟩:=q0.elm hx
 obtain rfl:=kApiSymbol_open hE.K
 rw [symE_at hx]
 refine ZX Tryz.func126 hS ?_
 refine Zh (Zi (oBox J ZP (fun b2=>?_)))
 refine Zp J (Zn (Za (Zh (Zi (Zz (n:=0) (m:=0) J J J (Zld ?_))))))
 refine Zo J (oIdxE J J (hE) ZO J J ?_)
 have hc14:=(hE).cell
 refine Zlx hc14 ?_
 refine oAlloc J ZP (fun b5=>?_)
 refine Zsa ?_
 refine Zn (Za (Zh (Zh (Zi (Zz (n:=0) (m:=0) J J J (Zld ?_))))))
 (refine ZC0 rfl ZK (fun w hS=>frame hS ZQ (fun B' hB hS'=>ref4_Check hS' x.fName)) ?_;rintro ⟨⟩ -)
 refine Zp J (Zn (Za (Zh (Zi (Zo J (Z0 J J (Zn (Za (wC (fun h20=>?_) (fun h20=>?_))))))))))
 refine Zh (Zi (Zo J (Zze ?_)))
 exact ⟨(),trivial,by unfold symX;rw [if_pos h20];rfl,Lh⟩
 refine Zj (Za (Zh (wCut (ι:=Unit) (fun _=>[(1,.int .i64 (i:Int)),(2,.pointer (some ⟨b2,0,none⟩)),(5,.pointer (some ⟨b5,0,none⟩)),(51,.bool (kindB x))]) (fun _=>[blk b2 79 [.slice A0 o.fSymbols.length c0,.slice A1 o.fFuncs.length c1,.slice A2 o.fDatas.length c2],blk b5 91 [.string x.fName,.bool x.fLocal,.int .i64 x.fSort,.int .i64 x.fKind,.int .i64 x.fDef]]) (fun _=>True) ?_ ?_)))
 refine Zi (Zz (n:=2) (m:=2) J J J (Zld ?_))
 refine Z0 J J (Zo J (ZS (ZT 25) (fun h25=>?_) (fun h25=>?_)))
 refine Zq J J (Zz (n:=2) (m:=2) J J J (Zzg ?_))
 refine Zq J J (Z0 J J (Zt J J (Zo J (ZS (ZT 30) (fun h30=>?_) (fun h30=>?_)))))
 refine Zr J J J J (Zr J J J J (Zr J J J J (Zr J J J J (Zs J J J (Zs J J J (Zs J J J (Zs J J J (Zr J J J J (Zt J J (Zo J (Zr J J J J (Zr J J J J (Zr J J J J (Zr J J J J (Zs J J J (Zs J J J (Zs J J J (Zs J J J (Zr J J J J (Zt J J (Zn (Za ?_))))))))))))))))))))))
 exact ⟨rfl,(),trivial,(by refine ⟨rfl,rfl,rfl,?_,trivial⟩;show some (Value.bool _)=some (Value.bool _);unfold kindB;simp_all <;> first | done | exact Iff.rfl | rfl),Lh⟩
 refine Zq J J (Zz (n:=2) (m:=2) J J J (Zzg ?_))
 refine Zq J J (Zy J J (Zq J J (Zo J (ZS (ZT 34) (fun h34=>?_) (fun h34=>?_)))))
 refine Zq J J (Zz (n:=3) (m:=3) J J J (Zzg ?_))
 refine Zq J J ?_
 (refine ZC0 rfl ZK (fun w hS=>frame hS ZQ (fun B' hB hS'=>ref5_Is hS' x.fKind)) ?_;rintro ⟨⟩ -)
 refine Zq J J (Zno ?_)
 refine Zq J J (Zt J J (Zu J J (Zo J (ZS (ZT 41) (fun h41=>?_) (fun h41=>?_)))))
 refine Zr J J J J (Zr J J J J (Zr J J J J (Zr J J J J (Zs J J J (Zs J J J (Zs J J J (Zs J J J (Zr J J J J (Zt J J (Zn (Za ?_)))))))))))
 exact ⟨rfl,(),trivial,(by refine ⟨rfl,rfl,rfl,?_,trivial⟩;show some (Value.bool _)=some (Value.bool _);unfold kindB;simp_all <;> first | done | exact Iff.rfl | rfl),Lh⟩
 refine Zq J J (Zz (n:=2) (m:=2) J J J (Zzg ?_))
 refine Zq J J (Zy J J (Zq J J (Zo J (ZS (ZT 45) (fun h45=>?_) (fun h45=>?_)))))
 refine Zq J J (Zz (n:=3) (m:=3) J J J (Zzg ?_))
 refine Zq J J ?_
 (refine ZC0 rfl ZK (fun w hS=>frame hS ZQ (fun B' hB hS'=>ref5_Text hS' x.fKind hvx.2.2.2.1)) ?_;rintro ⟨⟩ -)
 refine Zq J J (oSEq J J (Zq J J (Zt J J (Zu J J (Zn (Za ?_))))))
 exact ⟨rfl,(),trivial,(by refine ⟨rfl,rfl,rfl,?_,trivial⟩;show some (Value.bool _)=some (Value.bool _);unfold kindB;simp_all <;> first | done | exact Iff.rfl | rfl),Lh⟩
 refine Zr J J J J (Zr J J J J (Zr J J J J (Zr J J J J (Zq J J (Zu J J (Zu J J (Zn (Za ?_))))))))
 exact ⟨rfl,(),trivial,(by refine ⟨rfl,rfl,rfl,?_,trivial⟩;show some (Value.bool _)=some (Value.bool _);unfold kindB;simp_all <;> first | done | exact Iff.rfl | rfl),Lh⟩
 refine Zr J J J J (Zr J J J J (Zr J J J J (Zr J J J J (Zq J J (Zu J J (Zu J J (Zo J (Zq J J (Zz (n:=2) (m:=2) J J J (Zzg ?_))))))))))
 refine Zq J J (Zy J J (Zq J J (Zo J (ZS (ZT 45) (fun h45=>?_) (fun h45=>?_)))))
 refine Zq J J (Zz (n:=3) (m:=3) J J J (Zzg ?_))
 refine Zq J J ?_
 (refine ZC0 rfl ZK (fun w hS=>frame hS ZQ (fun B' hB hS'=>ref5_Text hS' x.fKind hvx.2.2.2.1)) ?_;rintro ⟨⟩ -)
 refine Zq J J (oSEq J J (Zq J J (Zt J J (Zu J J (Zn (Za ?_))))))
 exact ⟨rfl,(),trivial,(by refine ⟨rfl,rfl,rfl,?_,trivial⟩;show some (Value.bool _)=some (Value.bool _);unfold kindB;simp_all <;> first | done | exact Iff.rfl | rfl),Lh⟩
 refine Zr J J J J (Zr J J J J (Zr J J J J (Zr J J J J (Zq J J (Zu J J (Zu J J (Zn (Za ?_))))))))
 exact ⟨rfl,(),trivial,(by refine ⟨rfl,rfl,rfl,?_,trivial⟩;show some (Value.bool _)=some (Value.bool _);unfold kindB;simp_all <;> first | done | exact Iff.rfl | rfl),Lh⟩
 refine Zr J J J J (Zr J J J J (Zr J J J J (Zu J J (Zo J (Zq J J (Zz (n:=2) (m:=2) J J J (Zzg ?_)))))))
 refine Zq J J (Zy J J (Zq J J (Zo J (ZS (ZT 34) (fun h34=>?_) (fun h34=>?_)))))
 refine Zq J J (Zz (n:=3) (m:=3) J J J (Zzg ?_))
 refine Zq J J ?_
 (refine ZC0 rfl ZK (fun w hS=>frame hS ZQ (fun B' hB hS'=>ref5_Is hS' x.fKind)) ?_;rintro ⟨⟩ -)
 refine Zq J J (Zno ?_)
 refine Zq J J (Zt J J (Zu J J (Zo J (ZS (ZT 41) (fun h41=>?_) (fun h41=>?_)))))
 refine Zr J J J J (Zr J J J J (Zr J J J J (Zr J J J J (Zs J J J (Zs J J J (Zs J J J (Zs J J J (Zr J J J J (Zt J J (Zn (Za ?_)))))))))))
 exact ⟨rfl,(),trivial,(by refine ⟨rfl,rfl,rfl,?_,trivial⟩;show some (Value.bool _)=some (Value.bool _);unfold kindB;simp_all <;> first | done | exact Iff.rfl | rfl),Lh⟩
 refine Zq J J (Zz (n:=2) (m:=2) J J J (Zzg ?_))
 refine Zq J J (Zy J J (Zq J J (Zo J (ZS (ZT 45) (fun h45=>?_) (fun h45=>?_)))))
 refine Zq J J (Zz (n:=3) (m:=3) J J J (Zzg ?_))
 refine Zq J J ?_
 (refine ZC0 rfl ZK (fun w hS=>frame hS ZQ (fun B' hB hS'=>ref5_Text hS' x.fKind hvx.2.2.2.1)) ?_;rintro ⟨⟩ -)
 refine Zq J J (oSEq J J (Zq J J (Zt J J (Zu J J (Zn (Za ?_))))))
 exact ⟨rfl,(),trivial,(by refine ⟨rfl,rfl,rfl,?_,trivial⟩;show some (Value.bool _)=some (Value.bool _);unfold kindB;simp_all <;> first | done | exact Iff.rfl | rfl),Lh⟩
 refine Zr J J J J (Zr J J J J (Zr J J J J (Zr J J J J (Zq J J (Zu J J (Zu J J (Zn (Za ?_))))))))
 exact ⟨rfl,(),trivial,(by refine ⟨rfl,rfl,rfl,?_,trivial⟩;show some (Value.bool _)=some (Value.bool _);unfold kindB;simp_all <;> first | done | exact Iff.rfl | rfl),Lh⟩
 refine Zr J J J J (Zr J J J J (Zr J J J J (Zr J J J J (Zq J J (Zu J J (Zu J J (Zo J (Zq J J (Zz (n:=2) (m:=2) J J J (Zzg ?_))))))))))
 refine Zq J J (Zy J J (Zq J J (Zo J (ZS (ZT 45) (fun h45=>?_) (fun h45=>?_)))))
 refine Zq J J (Zz (n:=3) (m:=3) J J J (Zzg ?_))
 refine Zq J J ?_
 (refine ZC0 rfl ZK (fun w hS=>frame hS ZQ (fun B' hB hS'=>ref5_Text hS' x.fKind hvx.2.2.2.1)) ?_;rintro ⟨⟩ -)
 refine Zq J J (oSEq J J (Zq J J (Zt J J (Zu J J (Zn (Za ?_))))))
 exact ⟨rfl,(),trivial,(by refine ⟨rfl,rfl,rfl,?_,trivial⟩;show some (Value.bool _)=some (Value.bool _);unfold kindB;simp_all <;> first | done | exact Iff.rfl | rfl),Lh⟩
 refine Zr J J J J (Zr J J J J (Zr J J J J (Zr J J J J (Zq J J (Zu J J (Zu J J (Zn (Za ?_))))))))
 exact ⟨rfl,(),trivial,(by refine ⟨rfl,rfl,rfl,?_,trivial⟩;show some (Value.bool _)=some (Value.bool _);unfold kindB;simp_all <;> first | done | exact Iff.rfl | rfl),Lh⟩
 rintro ⟨⟩ -
 try dsimp only
 refine wC (fun h51=>?_) (fun h51=>?_)
 refine Zh (Zi (Zze ?_))
 exact ⟨(),trivial,by unfold symX;rw [if_neg h20,if_pos h51];rfl,Lh⟩
 have hkb:¬ kindB x=true:=by rw [h51];simp
 refine Zj (Za (Zh (Zh (Zi (Zp J (Zn (Za (Zk (wLoop (ι:=Nat) (fun k=>[(1,.int .i64 (i:Int)),(2,.pointer (some ⟨b2,0,none⟩)),(5,.pointer (some ⟨b5,0,none⟩)),(7,.int .i64 (k:Int))]) (fun k=>[blk b2 79 [.slice A0 o.fSymbols.length c0,.slice A1 o.fFuncs.length c1,.slice A2 o.fDatas.length c2],blk b5 91 [.string x.fName,.bool x.fLocal,.int .i64 x.fSort,.int .i64 x.fKind,.int .i64 x.fDef]]) (fun k=>k≤i∧∀ y ∈ o.fSymbols.take k,nameP x y=false) (fun k=>i-k) 0 ?_ cv Lh ?_)))))))))
 exact ⟨Nat.zero_le _,by simp⟩
 rintro k ⟨hk,hs⟩
 try dsimp only
 refine Zh (Zh (Zi (Zo J (Zo J (Zx J J (Zn (Za (wC (fun h54=>?_) (fun h54=>?_)))))))))
 obtain ⟨y,hy⟩:∃ y,o.fSymbols[k]?=some y:=⟨_,List.getElem?_eq_getElem ZO⟩
 have hyi:(o.fSymbols.take i)[k]?=some y:=by rw [List.getElem?_take,if_pos ZO,hy]
 obtain ⟨e2,cs2,hE2⟩:=q0.elm hy
 obtain rfl:=kApiSymbol_open hE2.K
 refine Zj (Za (Zh (Zk (Zh (wDraw2 J J [2] [0,1,3,4,5,6,7] 8 ZK J J J (fun w0=>?_))))))
 refine Zz (n:=0) (m:=0) J J J (Zld ?_)
 refine oIdxE J J (hE2) ZO J J ?_
 have hc60:=(hE2).cell
 refine ZF (ZT 0) (ZT 0) ?_
 refine Zlx hc60 ?_
 refine Zz (n:=0) (m:=0) J J J (Zld ?_)
 refine oHead (oSEq J J (oNilT (Za (wC (fun h65=>?_) (fun h65=>?_)))))
 refine Zh (Zi (Zzb ?_))
 exact ⟨(),trivial,by unfold symX;rw [if_neg h20,if_neg hkb,if_pos (any_hit hyi (decide_eq_true h65))];rfl,Lh⟩
 refine Zj (Zzd ?_)
 refine Zp J (Zn (Za ?_))
 exact ⟨rfl,k+1,⟨by omega,take_not hs hy (decide_eq_false h65)⟩,by omega,cv,Lh⟩
 obtain rfl:i=k:=by omega
 refine Zm (Zb (Zb (Ze (Za (Zh (Zi (Zz (n:=1) (m:=1) J J J (Zld ?_))))))))
 refine Zv J J (Zp J (Zn (Za (Zh (Zh (Zi (Zz (n:=2) (m:=2) J J J (Zld ?_))))))))
 refine Zy J J (Zn (Za (wC (fun h71=>?_) (fun h71=>?_))))
 have hmo:mostN o x=o.fDatas.length:=by unfold mostN;rw [if_pos ZO]
 refine Zi (Zz (n:=2) (m:=2) J J J (Zld ?_))
 refine Zv rfl rfl (Zp rfl (Zn (Za (Zh (Zi (Zp rfl (ZS0 (t:=8) (v':=.int .i64 (mostN o x:Int)) rfl (by rw [hmo]) ?_)))))))
 refine Zn (Za (Zh (Zh (Zi (Zp J (Zn (Za (Zk ?_))))))))
 refine wLoop (ι:=Nat) (fun k=>[(1,.int .i64 (i:Int)),(2,.pointer (some ⟨b2,0,none⟩)),(5,.pointer (some ⟨b5,0,none⟩)),(8,.int .i64 (mostN o x:Int)),(9,.int .i64 (aheadN x (o.fSymbols.take k):Int)),(10,.int .i64 (k:Int))]) (fun k=>[blk b2 79 [.slice A0 o.fSymbols.length c0,.slice A1 o.fFuncs.length c1,.slice A2 o.fDatas.length c2],blk b5 91 [.string x.fName,.bool x.fLocal,.int .i64 x.fSort,.int .i64 x.fKind,.int .i64 x.fDef]]) (fun k=>k≤i) (fun k=>i-k) 0 ?_ cv (by skip;exact (Leads.has ZQ)) ?_
 exact Nat.zero_le _
 rintro k hk
 have hle:=ahead_le x (o.fSymbols.take k)
 rw [List.length_take] at hle
 try dsimp only
 refine Zh (Zh (Zi (Zo J (Zo J (Zx J J (Zn (Za (wC (fun h77=>?_) (fun h77=>?_)))))))))
 obtain ⟨y,hy⟩:∃ y,o.fSymbols[k]?=some y:=⟨_,List.getElem?_eq_getElem ZO⟩
 obtain ⟨e2,cs2,hE2⟩:=q0.elm hy
 obtain rfl:=kApiSymbol_open hE2.K
 refine Zj (Za (Zh (Zk (Zh (wDraw2 J J [2] [0,1,3,4,5,6,7,8,9,10,11,12,13,14,15,16] 17 ZK J J J (fun w0=>?_))))))
 refine Zz (n:=0) (m:=0) J J J (Zld ?_)
 refine oIdxE J J (hE2) ZO J J ?_
 have hc83:=(hE2).cell
 refine ZF (ZT 2) (ZT 2) ?_
 refine Zlx hc83 ?_
 refine Zz (n:=2) (m:=2) J J J (Zld ?_)
 refine Zy J J (Zo J (ZS (ZT 89) (fun h89=>?_) (fun h89=>?_)))
 refine Zq J J (Zz (n:=0) (m:=0) J J J (Zzg ?_))
 refine Zq J J (Zo J (Zq J J (oIdxE J J (hE2) ZO J J ?_)))
 have hc93:=(hE2).cell
 refine Zq J J (ZF (ZT 4) (ZT 4) ?_)
 refine Zq J J (Zlx hc93 ?_)
 refine Zq J J (Z0 J J (oHead (Zt J J (oNilT (Za (wC (fun h97=>?_) (fun h97=>?_)))))))
 refine Zi (Zo J (Zsu ?_))
 refine Zp J ?_
 skip
 refine Zn (Zzd ?_)
 refine Zp J (Zn (Za ?_))
 exact ⟨rfl,k+1,by omega,by omega,by rw [ahead_succ x hy,if_pos (by unfold aheadP;simp_all)];exact cv,Lh⟩
 refine Zj (Zzd ?_)
 refine Zp J (Zn (Za ?_))
 exact ⟨rfl,k+1,by omega,by omega,by rw [ahead_succ x hy,if_neg (by unfold aheadP;simp_all)];exact cv,Lh⟩
 refine Zr J J J J (Zr J J J J (Zr J J J J (Zr J J J J (Zr J J J J (Zr J J J J (Zr J J J J (oHead (Zu J J (oNilT (Za (wCondF J (Zj (Zzd ?_)))))))))))))
 refine Zp J (Zn (Za ?_))
 exact ⟨rfl,k+1,by omega,by omega,by rw [ahead_succ x hy,if_neg (by unfold aheadP;simp_all)];exact cv,Lh⟩
 obtain rfl:i=k:=by omega
 have hany:¬ (o.fSymbols.take i).any (nameP x)=true:=by rw [any_not hs];simp
 refine Zm (Zb (Zb (Ze (Za (Zh (Zh (Zi (Zz (n:=4) (m:=4) J J J (Zld ?_)))))))))
 refine Z0 J J (Zo J (ZS (ZT 103) (fun h103=>?_) (fun h103=>?_)))
 refine Zq J J (Zz (n:=4) (m:=4) J J J (Zzg ?_))
 refine Zq J J (Zo J (Zq J J (Z0 J J (Zq J J (Zo J (ZS (ZT 108) (fun h108=>?_) (fun h108=>?_)))))))
 refine Zr J J J J (Zr J J J J (Zr J J J J (Zr J J J J (Zq J J (Zt J J (Zt J J (Zn (Za (wCondT J (Zh (Zi (Zze ?_))))))))))))
 exact ⟨(),trivial,by unfold symX;rw [if_neg h20,if_neg hkb,if_neg hany,if_pos (by simp_all <;> omega)];rfl,Lh⟩
 refine Zq J J (Zz (n:=4) (m:=4) J J J (Zzg ?_))
 refine Zq J J (Zo J (Zq J J (Z2 J J (Zq J J (Zu J J (Zt J J (Zn (Za (wC (fun h114=>?_) (fun h114=>?_))))))))))
 refine Zh (Zi (Zze ?_))
 exact ⟨(),trivial,by unfold symX;rw [if_neg h20,if_neg hkb,if_neg hany,if_pos (by simp_all <;> omega)];rfl,Lh⟩
 refine Zj (Za (Zh (Zh (Zi (Zz (n:=1) (m:=1) J J J (Zld ?_))))))
 refine Zo J (ZS (ZT 117) (fun h117=>?_) (fun h117=>?_))
 refine Zq J J (Zz (n:=4) (m:=4) J J J (Zzg ?_))
 refine Zq J J (Zy J J (Zt J J (Zn (Za (wC (fun h121=>?_) (fun h121=>?_))))))
 refine Zh (Zi (Zze ?_))
 have hnd:¬ (x.fDef≠-1∧(x.fDef≠(aheadN x (o.fSymbols.take i):Int)∨(mostN o x:Int)≤x.fDef)):=by simp_all <;> omega
 exact ⟨(),trivial,by unfold symX;rw [if_neg h20,if_neg hkb,if_neg hany,if_neg hnd,if_pos (by simp_all <;> omega)];rfl,Lh⟩
 refine Zj (Za (Zh (Zi (Zza ?_))))
 have hnd:¬ (x.fDef≠-1∧(x.fDef≠(aheadN x (o.fSymbols.take i):Int)∨(mostN o x:Int)≤x.fDef)):=by simp_all <;> omega
 exact ⟨(),trivial,by unfold symX;rw [if_neg h20,if_neg hkb,if_neg hany,if_neg hnd,if_neg (by simp_all <;> omega)];rfl,Lh⟩
 refine Zr J J J J (Zr J J J J (Zr J J J J (Zu J J (Zn (Za (wCondF J (Zj (Za (Zh (Zi (Zza ?_)))))))))))
 have hnd:¬ (x.fDef≠-1∧(x.fDef≠(aheadN x (o.fSymbols.take i):Int)∨(mostN o x:Int)≤x.fDef)):=by simp_all <;> omega
 exact ⟨(),trivial,by unfold symX;rw [if_neg h20,if_neg hkb,if_neg hany,if_neg hnd,if_neg (by simp_all <;> omega)];rfl,Lh⟩
 refine Zr J J J J (Zr J J J J (Zr J J J J (Zr J J J J (Zr J J J J (Zs J J J (Zs J J J (Zs J J J (Zs J J J (Zr J J J J (Zu J J (Zn (Za (wCondF J (Zj (Za (Zh (Zh (Zi (Zz (n:=1) (m:=1) J J J (Zld ?_))))))))))))))))))))
 refine Zo J (ZS (ZT 117) (fun h117=>?_) (fun h117=>?_))
 refine Zq J J (Zz (n:=4) (m:=4) J J J (Zzg ?_))
 refine Zq J J (Zy J J (Zt J J (Zn (Za (wC (fun h121=>?_) (fun h121=>?_))))))
 refine Zh (Zi (Zze ?_))
 have hnd:¬ (x.fDef≠-1∧(x.fDef≠(aheadN x (o.fSymbols.take i):Int)∨(mostN o x:Int)≤x.fDef)):=by simp_all <;> omega
 exact ⟨(),trivial,by unfold symX;rw [if_neg h20,if_neg hkb,if_neg hany,if_neg hnd,if_pos (by simp_all <;> omega)];rfl,Lh⟩
 refine Zj (Za (Zh (Zi (Zza ?_))))
 have hnd:¬ (x.fDef≠-1∧(x.fDef≠(aheadN x (o.fSymbols.take i):Int)∨(mostN o x:Int)≤x.fDef)):=by simp_all <;> omega
 exact ⟨(),trivial,by unfold symX;rw [if_neg h20,if_neg hkb,if_neg hany,if_neg hnd,if_neg (by simp_all <;> omega)];rfl,Lh⟩
 refine Zr J J J J (Zr J J J J (Zr J J J J (Zu J J (Zn (Za (wCondF J (Zj (Za (Zh (Zi (Zza ?_)))))))))))
 have hnd:¬ (x.fDef≠-1∧(x.fDef≠(aheadN x (o.fSymbols.take i):Int)∨(mostN o x:Int)≤x.fDef)):=by simp_all <;> omega
 exact ⟨(),trivial,by unfold symX;rw [if_neg h20,if_neg hkb,if_neg hany,if_neg hnd,if_neg (by simp_all <;> omega)];rfl,Lh⟩
 have hmo:mostN o x=o.fFuncs.length:=by unfold mostN;rw [if_neg ZO]
 refine Zj (Za (Zh (Zi (Zp rfl (ZS0 (t:=8) (v':=.int .i64 (mostN o x:Int)) rfl (by rw [hmo]) ?_)))))
 refine Zn (Za (Zh (Zh (Zi (Zp J (Zn (Za (Zk ?_))))))))
 refine wLoop (ι:=Nat) (fun k=>[(1,.int .i64 (i:Int)),(2,.pointer (some ⟨b2,0,none⟩)),(5,.pointer (some ⟨b5,0,none⟩)),(8,.int .i64 (mostN o x:Int)),(9,.int .i64 (aheadN x (o.fSymbols.take k):Int)),(10,.int .i64 (k:Int))]) (fun k=>[blk b2 79 [.slice A0 o.fSymbols.length c0,.slice A1 o.fFuncs.length c1,.slice A2 o.fDatas.length c2],blk b5 91 [.string x.fName,.bool x.fLocal,.int .i64 x.fSort,.int .i64 x.fKind,.int .i64 x.fDef]]) (fun k=>k≤i) (fun k=>i-k) 0 ?_ cv (by skip;exact (Leads.has ZQ)) ?_
 exact Nat.zero_le _
 rintro k hk
 have hle:=ahead_le x (o.fSymbols.take k)
 rw [List.length_take] at hle
 try dsimp only
 refine Zh (Zh (Zi (Zo J (Zo J (Zx J J (Zn (Za (wC (fun h77=>?_) (fun h77=>?_)))))))))
 obtain ⟨y,hy⟩:∃ y,o.fSymbols[k]?=some y:=⟨_,List.getElem?_eq_getElem ZO⟩
 obtain ⟨e2,cs2,hE2⟩:=q0.elm hy
 obtain rfl:=kApiSymbol_open hE2.K
 refine Zj (Za (Zh (Zk (Zh (wDraw2 J J [2] [0,1,3,4,5,6,7,8,9,10,11,12,13,14,15,16] 17 ZK J J J (fun w0=>?_))))))
 refine Zz (n:=0) (m:=0) J J J (Zld ?_)
 refine oIdxE J J (hE2) ZO J J ?_
 have hc83:=(hE2).cell
 refine ZF (ZT 2) (ZT 2) ?_
 refine Zlx hc83 ?_
 refine Zz (n:=2) (m:=2) J J J (Zld ?_)
 refine Zy J J (Zo J (ZS (ZT 89) (fun h89=>?_) (fun h89=>?_)))
 refine Zq J J (Zz (n:=0) (m:=0) J J J (Zzg ?_))
 refine Zq J J (Zo J (Zq J J (oIdxE J J (hE2) ZO J J ?_)))
 have hc93:=(hE2).cell
 refine Zq J J (ZF (ZT 4) (ZT 4) ?_)
 refine Zq J J (Zlx hc93 ?_)
 refine Zq J J (Z0 J J (oHead (Zt J J (oNilT (Za (wC (fun h97=>?_) (fun h97=>?_)))))))
 refine Zi (Zo J (Zsu ?_))
 refine Zp J ?_
 skip
 refine Zn (Zzd ?_)
 refine Zp J (Zn (Za ?_))
 exact ⟨rfl,k+1,by omega,by omega,by rw [ahead_succ x hy,if_pos (by unfold aheadP;simp_all)];exact cv,Lh⟩
 refine Zj (Zzd ?_)
 refine Zp J (Zn (Za ?_))
 exact ⟨rfl,k+1,by omega,by omega,by rw [ahead_succ x hy,if_neg (by unfold aheadP;simp_all)];exact cv,Lh⟩
 refine Zr J J J J (Zr J J J J (Zr J J J J (Zr J J J J (Zr J J J J (Zr J J J J (Zr J J J J (oHead (Zu J J (oNilT (Za (wCondF J (Zj (Zzd ?_)))))))))))))
 refine Zp J (Zn (Za ?_))
 exact ⟨rfl,k+1,by omega,by omega,by rw [ahead_succ x hy,if_neg (by unfold aheadP;simp_all)];exact cv,Lh⟩
 obtain rfl:i=k:=by omega
 have hany:¬ (o.fSymbols.take i).any (nameP x)=true:=by rw [any_not hs];simp
 refine Zm (Zb (Zb (Ze (Za (Zh (Zh (Zi (Zz (n:=4) (m:=4) J J J (Zld ?_)))))))))
 refine Z0 J J (Zo J (ZS (ZT 103) (fun h103=>?_) (fun h103=>?_)))
 refine Zq J J (Zz (n:=4) (m:=4) J J J (Zzg ?_))
 refine Zq J J (Zo J (Zq J J (Z0 J J (Zq J J (Zo J (ZS (ZT 108) (fun h108=>?_) (fun h108=>?_)))))))
 refine Zr J J J J (Zr J J J J (Zr J J J J (Zr J J J J (Zq J J (Zt J J (Zt J J (Zn (Za (wCondT J (Zh (Zi (Zze ?_))))))))))))
 exact ⟨(),trivial,by unfold symX;rw [if_neg h20,if_neg hkb,if_neg hany,if_pos (by simp_all <;> omega)];rfl,Lh⟩
 refine Zq J J (Zz (n:=4) (m:=4) J J J (Zzg ?_))
 refine Zq J J (Zo J (Zq J J (Z2 J J (Zq J J (Zu J J (Zt J J (Zn (Za (wC (fun h114=>?_) (fun h114=>?_))))))))))
 refine Zh (Zi (Zze ?_))
 exact ⟨(),trivial,by unfold symX;rw [if_neg h20,if_neg hkb,if_neg hany,if_pos (by simp_all <;> omega)];rfl,Lh⟩
 refine Zj (Za (Zh (Zh (Zi (Zz (n:=1) (m:=1) J J J (Zld ?_))))))
 refine Zo J (ZS (ZT 117) (fun h117=>?_) (fun h117=>?_))
 refine Zq J J (Zz (n:=4) (m:=4) J J J (Zzg ?_))
 refine Zq J J (Zy J J (Zt J J (Zn (Za (wC (fun h121=>?_) (fun h121=>?_))))))
 refine Zh (Zi (Zze ?_))
 have hnd:¬ (x.fDef≠-1∧(x.fDef≠(aheadN x (o.fSymbols.take i):Int)∨(mostN o x:Int)≤x.fDef)):=by simp_all <;> omega
 exact ⟨(),trivial,by unfold symX;rw [if_neg h20,if_neg hkb,if_neg hany,if_neg hnd,if_pos (by simp_all <;> omega)];rfl,Lh⟩
 refine Zj (Za (Zh (Zi (Zza ?_))))
 have hnd:¬ (x.fDef≠-1∧(x.fDef≠(aheadN x (o.fSymbols.take i):Int)∨(mostN o x:Int)≤x.fDef)):=by simp_all <;> omega
 exact ⟨(),trivial,by unfold symX;rw [if_neg h20,if_neg hkb,if_neg hany,if_neg hnd,if_neg (by simp_all <;> omega)];rfl,Lh⟩
 refine Zr J J J J (Zr J J J J (Zr J J J J (Zu J J (Zn (Za (wCondF J (Zj (Za (Zh (Zi (Zza ?_)))))))))))
 have hnd:¬ (x.fDef≠-1∧(x.fDef≠(aheadN x (o.fSymbols.take i):Int)∨(mostN o x:Int)≤x.fDef)):=by simp_all <;> omega
 exact ⟨(),trivial,by unfold symX;rw [if_neg h20,if_neg hkb,if_neg hany,if_neg hnd,if_neg (by simp_all <;> omega)];rfl,Lh⟩
 refine Zr J J J J (Zr J J J J (Zr J J J J (Zr J J J J (Zr J J J J (Zs J J J (Zs J J J (Zs J J J (Zs J J J (Zr J J J J (Zu J J (Zn (Za (wCondF J (Zj (Za (Zh (Zh (Zi (Zz (n:=1) (m:=1) J J J (Zld ?_))))))))))))))))))))
 refine Zo J (ZS (ZT 117) (fun h117=>?_) (fun h117=>?_))
 refine Zq J J (Zz (n:=4) (m:=4) J J J (Zzg ?_))
 refine Zq J J (Zy J J (Zt J J (Zn (Za (wC (fun h121=>?_) (fun h121=>?_))))))
 refine Zh (Zi (Zze ?_))
 have hnd:¬ (x.fDef≠-1∧(x.fDef≠(aheadN x (o.fSymbols.take i):Int)∨(mostN o x:Int)≤x.fDef)):=by simp_all <;> omega
 exact ⟨(),trivial,by unfold symX;rw [if_neg h20,if_neg hkb,if_neg hany,if_neg hnd,if_pos (by simp_all <;> omega)];rfl,Lh⟩
 refine Zj (Za (Zh (Zi (Zza ?_))))
 have hnd:¬ (x.fDef≠-1∧(x.fDef≠(aheadN x (o.fSymbols.take i):Int)∨(mostN o x:Int)≤x.fDef)):=by simp_all <;> omega
 exact ⟨(),trivial,by unfold symX;rw [if_neg h20,if_neg hkb,if_neg hany,if_neg hnd,if_neg (by simp_all <;> omega)];rfl,Lh⟩
 refine Zr J J J J (Zr J J J J (Zr J J J J (Zu J J (Zn (Za (wCondF J (Zj (Za (Zh (Zi (Zza ?_)))))))))))
 have hnd:¬ (x.fDef≠-1∧(x.fDef≠(aheadN x (o.fSymbols.take i):Int)∨(mostN o x:Int)≤x.fDef)):=by simp_all <;> omega
 exact ⟨(),trivial,by unfold symX;rw [if_neg h20,if_neg hkb,if_neg hany,if_neg hnd,if_neg (by simp_all <;> omega)];rfl,Lh⟩
def symsL (o:ApiObject):List Int:=(List.range o.fSymbols.length).map (symE o)
def dKind (o:ApiObject) (i:Nat):Int:=(o.fSymbols.getD (definerF o (i:Int)).toNat default).fKind
noncomputable def funE (o:ApiObject) (f:ApiFunc):Int:=if chkE f o.fSymbols≠0 then chkE f o.fSymbols else rangeF f
noncomputable def itemE (o:ApiObject) (i:Nat):Int:=
  if definerF o (i:Int)<0 then 13 else
  if o.fFuncs.length≤i then (if (o.fDatas.getD (i-o.fFuncs.length) default).fKind≠dKind o i then 14 else dataF (o.fDatas.getD (i-o.fFuncs.length) default) o.fSymbols) else
  if (o.fFuncs.getD i default).fClass≠dKind o i then 14 else funE o (o.fFuncs.getD i default)
noncomputable def itsL (o:ApiObject):List Int:=(List.range (o.fFuncs.length+o.fDatas.length)).map (itemE o)
def manyO (o:ApiObject):Prop:=32<o.fSymbols.length∨12<o.fFuncs.length∨8<o.fDatas.length
instance (o:ApiObject):Decidable (manyO o):=by unfold manyO;infer_instance
noncomputable def objE (o:ApiObject):Int:=if manyO o then 19 else if fstE (symsL o)≠0 then fstE (symsL o) else fstE (itsL o)
noncomputable def objI (o:ApiObject):Int:=if manyO o then -1 else if fstE (symsL o)≠0 then idxI non0 (symsL o) else idxI non0 (itsL o)
theorem definer_at {o:ApiObject}{item:Int}(h:0≤definerF o item):∃ (k:Nat) (x:ApiSymbol),definerF o item=(k:Int)∧o.fSymbols[k]?=some x∧definesF o item x=true:=idxI_at h
theorem ref19_item {B:Base}{w:World}(hS:St B [] w) (o:ApiObject) (oc:List Value) (ho:kApiObject.K B.e o oc) (hg:GoodO o) (i:Nat) (hi:i<o.fFuncs.length+o.fDatas.length) :
 CW 127 #[.agg oc.toArray,.int .i64 (i:Int)] w (Ret B (fun _:Unit=>True) (fun _=>.int .i64 (itemE o i)) (fun _=>[])):=by
 obtain ⟨A0,c0,A1,c1,A2,c2,rfl,m0,q0,m1,q1,m2,q2⟩:=kApiObject_open ho
 have hn0:=hg.syms
 have hn1:=hg.funcs
 have hn2:=hg.datas
 refine ZX Tryz.func127 hS ?_
 refine Zh (Zi (oBox J ZP (fun b2=>?_)))
 refine Zp J (Zn (Zzk ?_))
 refine Zo J ?_
 (refine ZC0 rfl ZK (fun w hS=>frame hS ZQ (fun B' hB hS'=>ref19_Definer hS' o _ (kApiObject.K_grow hB ho) hg (i:Int))) ?_;rintro ⟨⟩ -)
 refine Zp J (Zn (Za (Zh (Zh (Zi (Zo J (Zx J J (Zn (Za (wC (fun h14=>?_) (fun h14=>?_)))))))))))
 refine Zh (Zi (Zze ?_))
 exact ⟨(),trivial,by unfold itemE;rw [if_pos h14];rfl,Lh⟩
 obtain ⟨k,x,hk,hx,-⟩:=definer_at (show 0≤definerF o (i:Int) by omega)
 have hkl:=(List.getElem?_eq_some_iff.1 hx).1
 obtain ⟨e1,cs1,hE⟩:=q0.elm hx
 obtain rfl:=kApiSymbol_open hE.K
 have hdk:dKind o i=x.fKind:=by unfold dKind;rw [hk,Int.toNat_natCast,List.getD_eq_getElem?_getD,hx];rfl
 refine Zj (Za (Zh (Zi (Zz (n:=0) (m:=0) J J J (Zld ?_)))))
 refine Zo rfl (ZS0 (t:=17) (v':=.int .i64 (k:Int)) rfl (by rw [hk]) ?_)
 refine oIdxE J J (hE) ZO J J ?_
 have hc18:=(hE).cell
 refine ZF (ZT 3) (ZT 3) ?_
 refine Zlx hc18 ?_
 refine Zp J (Zn (Za (Zh (Zh (Zi (Zo J (Zz (n:=1) (m:=1) J J J (Zld ?_))))))))
 refine Zv J J (Z2 J J (Zn (Za (wC (fun h25=>?_) (fun h25=>?_)))))
 have hif:o.fFuncs.length≤i:=by omega
 obtain ⟨d,hd⟩:∃ d,o.fDatas[i-o.fFuncs.length]?=some d:=⟨_,List.getElem?_eq_getElem ZO⟩
 obtain ⟨e2,cs2,hE2⟩:=q2.elm hd
 obtain ⟨D0,d0,D1,d1,rfl,n0,r0,n1,r1⟩:=kApiData_open hE2.K
 have hgd:=hg.data d (List.mem_of_getElem? hd)
 have hvd:=hg.v.2.2.2 d (List.mem_of_getElem? hd)
 have hdg:o.fDatas.getD (i-o.fFuncs.length) default=d:=by rw [List.getD_eq_getElem?_getD,hd];rfl
 refine Zh (Zi (Zz (n:=2) (m:=2) J J J (Zld ?_)))
 refine Zo J (Zz (n:=1) (m:=1) J J J (Zld ?_))
 refine Zv J J (oSub J J ZO ?_)
 refine ZS0 (t:=32) (v':=.int .i64 ((i-o.fFuncs.length:Nat):Int)) J (by congr 1;omega) ?_
 refine oIdxE J J (hE2) ZO J J ?_
 have hc33:=(hE2).cell
 refine Zlx hc33 ?_
 refine oAlloc J ZP (fun b7=>?_)
 refine Zsa ?_
 refine Zn (Za (Zh (Zh (Zi (Zz (n:=0) (m:=0) J J J (Zld ?_))))))
 refine Zo J (Z0 J J (Zn (Za (wC (fun h38=>?_) (fun h38=>?_)))))
 refine Zh (Zi (Zp J (Zn (Za (Zl (Zc (Zc (Zw (fi1 J ?_)))))))))
 exact ⟨(),trivial,by unfold itemE;rw [if_neg h14,if_pos hif,hdg,hdk,if_pos h38];rfl,Lh⟩
 refine Zj (Zzk ?_)
 refine Zz (n:=0) (m:=0) J J J (Zld ?_)
 (refine ZC0 rfl ZK (fun w hS=>frame hS ZQ (fun B' hB hS'=>ref15_Check hS' d _ (kApiData_mk _ d n0 (Kd.C_grow hB r0) n1 (Kd.C_grow hB r1)) hvd.1 ZO A0 c0 o.fSymbols (Kd.C_grow hB q0))) ?_;rintro ⟨⟩ -)
 refine Zp J (Zn (Za (Zl (Zc (Zw (fi1 J ?_))))))
 exact ⟨(),trivial,by unfold itemE;rw [if_neg h14,if_pos hif,hdg,hdk,if_neg h38];rfl,Lh⟩
 have hif:¬ o.fFuncs.length≤i:=by omega
 obtain ⟨f,hf⟩:∃ f,o.fFuncs[i]?=some f:=⟨_,List.getElem?_eq_getElem ZO⟩
 obtain ⟨e3,cs3,hE3⟩:=q1.elm hf
 obtain ⟨F0,f0,F1,f1,F2,f2,F3,f3,rfl,n0,r0,n1,r1,n2,r2,n3,r3⟩:=kApiFunc_open hE3.K
 have hgf:=hg.fun_ f (List.mem_of_getElem? hf)
 have hvf:=hg.v.2.1.2 f (List.mem_of_getElem? hf)
 have hfg:o.fFuncs.getD i default=f:=by rw [List.getD_eq_getElem?_getD,hf];rfl
 refine Zj (Za (Zh (Zh (Zi (Zz (n:=1) (m:=1) J J J (Zld ?_))))))
 refine Zo J (oIdxE J J (hE3) ZO J J ?_)
 have hc46:=(hE3).cell
 refine ZF (ZT 0) (ZT 0) ?_
 refine Zlx hc46 ?_
 refine Zo J (Z0 J J (Zn (Za (wC (fun h50=>?_) (fun h50=>?_)))))
 refine Zh (Zi (Zze ?_))
 exact ⟨(),trivial,by unfold itemE;rw [if_neg h14,if_neg hif,hfg,hdk,if_pos h50];rfl,Lh⟩
 refine Zj (Za (Zh (Zh (wDrawG J [0,1,2,3,4,5,6] [(7,[],[8,9,10,11])] [12] 24 ZK J J (fun w0=>?_)))))
 refine Zz (n:=1) (m:=1) J J J (Zld ?_)
 refine Zo J (oIdxE J J (hE3) ZO J J ?_)
 have hc55:=(hE3).cell
 refine Zlx hc55 ?_
 refine Zz (n:=0) (m:=0) J J J (Zld ?_)
 refine Z4 (Z5 J ?_)
 (refine ZC0 rfl ZK (fun w hS=>frame hS ZQ (fun B' hB hS'=>ref17_Check hS' f _ (kApiFunc_mk _ f n0 (Kd.C_grow hB r0) n1 (Kd.C_grow hB r1) n2 (Kd.C_grow hB r2) n3 (Kd.C_grow hB r3)) hvf.2.1.2 A0 c0 o.fSymbols (Kd.C_grow hB q0))) ?_;rintro ⟨⟩ -)
 refine ZG ?_ J (fun w0=>?_)
 exact AgainG.nil
 refine Zo J (oExt J ZP ?_)
 refine oExt J ZP ?_
 refine Zp J (Z6 (Zp J (Zn (Za (Zh (Zi (Zo J (Z0 J J (Zn (Za (wC (fun h63=>?_) (fun h63=>?_))))))))))))
 refine Zh (Zi (Zo J (Zze ?_)))
 exact ⟨(),trivial,by unfold itemE funE;rw [if_neg h14,if_neg hif,hfg,hdk,if_neg h50,if_pos h63];rfl,Lh⟩
 refine Zj (Za (Zh (Zi (Zz (n:=1) (m:=1) J J J (Zld ?_)))))
 refine Zo J (oIdxE J J (hE3) ZO J J ?_)
 have hc68:=(hE3).cell
 refine Zlx hc68 ?_
 (refine ZC0 rfl ZK (fun w hS=>frame hS ZQ (fun B' hB hS'=>ref18_Check hS' f _ (kApiFunc_mk _ f n0 (Kd.C_grow hB r0) n1 (Kd.C_grow hB r1) n2 (Kd.C_grow hB r2) n3 (Kd.C_grow hB r3)) ZO)) ?_;rintro ⟨⟩ -)
 refine Zp J (Zzx ?_)
 exact ⟨(),trivial,by unfold itemE funE;rw [if_neg h14,if_neg hif,hfg,hdk,if_neg h50,if_neg h63];rfl,Lh⟩
theorem ref19_Check {B:Base}{w:World}(hS:St B [] w) (o:ApiObject) (oc:List Value) (ho:kApiObject.K B.e o oc) (hg:GoodO o) :
 CW 64 #[.agg oc.toArray] w (Ret B (fun _:Unit=>True) (fun _=>.tuple #[.int .i64 (objE o),.int .i64 (objI o)]) (fun _=>[])):=by
 obtain ⟨A0,c0,A1,c1,A2,c2,rfl,m0,q0,m1,q1,m2,q2⟩:=kApiObject_open ho
 have hn0:=hg.syms
 have hn1:=hg.funcs
 have hn2:=hg.datas
 have hit:itemsF o=(o.fFuncs.length:Int)+(o.fDatas.length:Int):=rfl
 refine ZX Tryz.func64 hS ?_
 refine Zh (Zi (oBox J ZP (fun b1=>?_)))
 refine Zp J (Zp J (Zn (Za (Zh (Zh (Zi (Zz (n:=0) (m:=0) J J J (Zld ?_))))))))
 refine Zv J J (Z1 J J (Zo J (ZS (ZT 12) (fun h12=>?_) (fun h12=>?_))))
 refine Zr J J J J (Zr J J J J (Zr J J J J (Zr J J J J (Zt J J (Zo J (Zr J J J J (Zr J J J J (Zr J J J J (Zr J J J J (Zt J J (Zn (Za (wCondT J (Zh (Zi (Zzo ?_))))))))))))))))
 refine ⟨rfl,_,(ResL.cons (ResR.tmp rfl) (ResL.cons (ResR.tmp rfl) ResL.nil)),?_⟩
 have hm:manyO o:=by unfold manyO;omega
 exact ⟨(),trivial,by unfold objE objI;rw [if_pos hm,if_pos hm];rfl,Lh⟩
 refine Zq J J (Zz (n:=1) (m:=1) J J J (Zzg ?_))
 refine Zq J J (Zv J J (Zq J J (Z1 J J (Zu J J (Zo J (ZS (ZT 18) (fun h18=>?_) (fun h18=>?_)))))))
 refine Zr J J J J (Zr J J J J (Zr J J J J (Zr J J J J (Zt J J (Zn (Za (wCondT J (Zh (Zi (Zzo ?_))))))))))
 refine ⟨rfl,_,(ResL.cons (ResR.tmp rfl) (ResL.cons (ResR.tmp rfl) ResL.nil)),?_⟩
 have hm:manyO o:=by unfold manyO;omega
 exact ⟨(),trivial,by unfold objE objI;rw [if_pos hm,if_pos hm];rfl,Lh⟩
 refine Zq J J (Zz (n:=2) (m:=2) J J J (Zzg ?_))
 refine Zq J J (Zv J J (Zq J J (Z1 J J (Zu J J (Zn (Za (wC (fun h23=>?_) (fun h23=>?_))))))))
 refine Zh (Zi (Zzo ?_))
 refine ⟨rfl,_,(ResL.cons (ResR.tmp rfl) (ResL.cons (ResR.tmp rfl) ResL.nil)),?_⟩
 have hm:manyO o:=by unfold manyO;omega
 exact ⟨(),trivial,by unfold objE objI;rw [if_pos hm,if_pos hm];rfl,Lh⟩
 have hm:¬ manyO o:=by unfold manyO;omega
 refine Zj (Za (Zh (Zh (Zi (Zp J (Zn (Za (Zk (wLoop (ι:=Nat) (fun i=>[(1,.pointer (some ⟨b1,0,none⟩)),(4,.int .i64 (i:Int))]) (fun i=>[blk b1 79 [.slice A0 o.fSymbols.length c0,.slice A1 o.fFuncs.length c1,.slice A2 o.fDatas.length c2]]) (fun i=>i≤o.fSymbols.length∧fstE ((symsL o).take i)=0∧∀ y ∈ (symsL o).take i,non0 y=false) (fun i=>o.fSymbols.length-i) 0 ?_ cv Lh ?_)))))))))
 exact ⟨Nat.zero_le _,rfl,by simp⟩
 rintro i ⟨hi,hs,hs2⟩
 try dsimp only
 refine Zh (Zh (Zi (Zo J (Zz (n:=0) (m:=0) J J J (Zld ?_)))))
 refine Zv J J (Zx J J (Zn (Za (wC (fun h28=>?_) (fun h28=>?_)))))
 have hxe:(symsL o)[i]?=some (symE o i):=rmap_at ZO
 refine Zj (Za (Zh (Zk (Zh (Zi (Zla ?_))))))
 refine Zo J ?_
 (refine ZC0 rfl ZK (fun w hS=>frame hS ZQ (fun B' hB hS'=>ref19_symbol hS' o _ (kApiObject.K_grow hB ho) hg i ZO)) ?_;rintro ⟨⟩ -)
 refine Zp J (Zn (Za (Zh (Zi (Zo J (Z0 J J (Zn (Za (wC (fun h35=>?_) (fun h35=>?_))))))))))
 refine Zh (Zi (Zo J (Zo J (Zp J (Zp J (Zn (Za (Zl (Zf (Zc (Zc (Zf (Zc (Zw ?_))))))))))))))
 refine ⟨rfl,_,(ResL.cons (ResR.tmp rfl) (ResL.cons (ResR.tmp rfl) ResL.nil)),?_⟩
 exact ⟨(),trivial,by have hfe:=fstE_stop hs hxe h35;unfold objE objI;rw [if_neg hm,if_neg hm,hfe,if_pos h35,if_pos h35,idxI_stop hs2 hxe (decide_eq_true h35)];rfl,Lh⟩
 refine Zj (Zzd ?_)
 refine Zp J (Zn (Za ?_))
 exact ⟨rfl,i+1,⟨by omega,fstE_next hs hxe (Classical.not_not.1 h35),take_not hs2 hxe (decide_eq_false h35)⟩,by omega,cv,Lh⟩
 obtain rfl:i=o.fSymbols.length:=by omega
 have hfs:fstE (symsL o)=0:=by have:=hs;unfold symsL at this;rw [rmap_all] at this;exact this
 refine Zm (Zb (Zb (Ze (Za (Zh (Zh (Zi (Zp J (Zn (Za (Zk (wLoop (ι:=Nat) (fun i=>[(1,.pointer (some ⟨b1,0,none⟩)),(6,.int .i64 (i:Int))]) (fun i=>[blk b1 79 [.slice A0 o.fSymbols.length c0,.slice A1 o.fFuncs.length c1,.slice A2 o.fDatas.length c2]]) (fun i=>i≤o.fFuncs.length+o.fDatas.length∧fstE ((itsL o).take i)=0∧∀ y ∈ (itsL o).take i,non0 y=false) (fun i=>o.fFuncs.length+o.fDatas.length-i) 0 ?_ cv Lh ?_))))))))))))
 exact ⟨Nat.zero_le _,rfl,by simp⟩
 rintro i ⟨hi,hs,hs2⟩
 try dsimp only
 refine Zh (Zh (Zi (Zo J (Zla ?_))))
 (refine ZC0 rfl ZK (fun w hS=>frame hS ZQ (fun B' hB hS'=>ref19_Items hS' o _ (kApiObject.K_grow hB ho) hg)) ?_;rintro ⟨⟩ -)
 refine Zx J J (Zn (Za (wC (fun h41=>?_) (fun h41=>?_))))
 have hxe:(itsL o)[i]?=some (itemE o i):=rmap_at ZO
 refine Zj (Za (Zh (Zk (Zh (Zi (Zla ?_))))))
 refine Zo J ?_
 (refine ZC0 rfl ZK (fun w hS=>frame hS ZQ (fun B' hB hS'=>ref19_item hS' o _ (kApiObject.K_grow hB ho) hg i ZO)) ?_;rintro ⟨⟩ -)
 refine Zp J (Zn (Za (Zh (Zi (Zo J (Z0 J J (Zn (Za (wC (fun h48=>?_) (fun h48=>?_))))))))))
 refine Zh (Zi (Zo J (Zo J (Zp J (Zp J (Zn (Za (Zl (Zf (Zc (Zc (Zf (Zc (Zw ?_))))))))))))))
 refine ⟨rfl,_,(ResL.cons (ResR.tmp rfl) (ResL.cons (ResR.tmp rfl) ResL.nil)),?_⟩
 exact ⟨(),trivial,by have hfe:=fstE_stop hs hxe h48;unfold objE objI;rw [if_neg hm,if_neg hm,if_neg (by rw [hfs];simp),if_neg (by rw [hfs];simp),hfe,idxI_stop hs2 hxe (decide_eq_true h48)];rfl,Lh⟩
 refine Zj (Zzd ?_)
 refine Zp J (Zn (Za ?_))
 exact ⟨rfl,i+1,⟨by omega,fstE_next hs hxe (Classical.not_not.1 h48),take_not hs2 hxe (decide_eq_false h48)⟩,by omega,cv,Lh⟩
 refine Zm (Zb (Zb (Ze (Za (Zh (Zi (Zp J (Zp J (Zn (Za (Zl (Zw ?_))))))))))))
 refine ⟨rfl,_,(ResL.cons (ResR.tmp rfl) (ResL.cons (ResR.tmp rfl) ResL.nil)),?_⟩
 obtain rfl:i=o.fFuncs.length+o.fDatas.length:=by omega
 unfold itsL at hs hs2
 rw [rmap_all] at hs hs2
 exact ⟨(),trivial,by unfold objE objI;rw [if_neg hm,if_neg hm,if_neg (by rw [hfs];simp),if_neg (by rw [hfs];simp)];unfold itsL;rw [hs,idxI_none hs2];rfl,Lh⟩
theorem ref16_FewA {B:Base}{w:World}(hS:St B [] w) (f:ApiFunc) (fc:List Value) (hf:kApiFunc.K B.e f fc) :
 CW 119 #[.agg fc.toArray] w (Ret B (fun r:Bool=>r=true→f.fKinds.length≤100∧f.fLines.length≤100∧f.fCode.length≤100∧f.fRelocs.length≤100) (fun r=>.bool r) (fun _=>[])):=by
 obtain ⟨A0,c0,A1,c1,A2,c2,A3,c3,rfl,l0,g0,l1,g1,l2,g2,l3,g3⟩:=kApiFunc_open hf
 refine ZX Tryz.func119 hS ?_
 refine Zh (Zi (oBox J ZP (fun b1=>?_)))
 refine Zp J (Zn (Za (Zh (Zi (Zz (n:=1) (m:=1) J J J (Zld ?_))))))
 refine Zv J J (oLeq J J (Zo J (ZS (ZT 7) (fun h7=>?_) (fun h7=>?_))))
 refine Zq J J (Zz (n:=6) (m:=6) J J J (Zzg ?_))
 refine Zq J J (Zv J J (Zq J J (oLeq J J (Zt J J (Zo J (ZS (ZT 13) (fun h13=>?_) (fun h13=>?_)))))))
 refine Zq J J (Zz (n:=7) (m:=7) J J J (Zzg ?_))
 refine Zq J J (Zv J J (Zq J J (oLeq J J (Zt J J (Zo J (ZS (ZT 19) (fun h19=>?_) (fun h19=>?_)))))))
 refine Zq J J (Zz (n:=8) (m:=8) J J J (Zzg ?_))
 refine Zq J J (Zv J J (Zq J J (oLeq J J (Zt J J (Zza ?_)))))
 exact ⟨_,(by intro h;first | focus (simp at h;done) | (have:=of_decide_eq_true h;omega)),rfl,Lh⟩
 refine Zr J J J J (Zzp ?_)
 exact ⟨_,(by intro h;first | focus (simp at h;done) | (have:=of_decide_eq_true h;omega)),rfl,Lh⟩
 refine Zr J J J J (Zr J J J J (Zr J J J J (Zr J J J J (Zu J J (Zo J (Zr J J J J (Zzp ?_)))))))
 exact ⟨_,(by intro h;first | focus (simp at h;done) | (have:=of_decide_eq_true h;omega)),rfl,Lh⟩
 refine Zr J J J J (Zr J J J J (Zr J J J J (Zr J J J J (Zu J J (Zo J (Zr J J J J (Zr J J J J (Zr J J J J (Zr J J J J (Zu J J (Zo J (Zr J J J J (Zzp ?_)))))))))))))
 exact ⟨_,(by intro h;first | focus (simp at h;done) | (have:=of_decide_eq_true h;omega)),rfl,Lh⟩
structure FewB (o:ApiObject):Prop where
  syms:o.fSymbols.length≤60
  funcs:o.fFuncs.length≤20
  datas:o.fDatas.length≤20
  fun_:∀ f ∈ o.fFuncs,f.fKinds.length≤100∧f.fLines.length≤100∧f.fCode.length≤100∧f.fRelocs.length≤100
  data:∀ d ∈ o.fDatas,d.fWords.length≤100∧d.fRelocs.length≤100
theorem take_all {α:Type}{P:α→Prop}{l:List α}{i:Nat}{x:α}(h:∀ y ∈ l.take i,P y) (hi:l[i]?=some x) (hp:P x):∀ y ∈ l.take (i+1),P y:=by
 intro y hy
 rw [List.take_add_one,hi] at hy
 rcases List.mem_append.1 hy with k | k
 · exact h y k
 · obtain rfl:y=x:=by simpa using k
   exact hp
abbrev fewF (f:ApiFunc):Prop:=f.fKinds.length≤100∧f.fLines.length≤100∧f.fCode.length≤100∧f.fRelocs.length≤100
abbrev fewD (d:ApiData):Prop:=d.fWords.length≤100∧d.fRelocs.length≤100
theorem ref19_Few {B:Base}{w:World}(hS:St B [] w) (o:ApiObject) (oc:List Value) (ho:kApiObject.K B.e o oc) :
 CW 61 #[.agg oc.toArray] w (Ret B (fun r:Bool=>r=true→FewB o) (fun r=>.bool r) (fun _=>[])):=by
 obtain ⟨A0,c0,A1,c1,A2,c2,rfl,m0,q0,m1,q1,m2,q2⟩:=kApiObject_open ho
 have hl0:=q0.1
 have hl1:=q1.1
 have hl2:=q2.1
 refine ZX Tryz.func61 hS ?_
 refine Zh (Zi (oBox J ZP (fun b1=>?_)))
 refine Zp J (Zn (Za (Zh (Zh (Zi (Zp J (Zn (Za (Zk (wLoop (ι:=Nat) (fun i=>[(1,.pointer (some ⟨b1,0,none⟩)),(3,.int .i64 (i:Int))]) (fun i=>[blk b1 79 [.slice A0 o.fSymbols.length c0,.slice A1 o.fFuncs.length c1,.slice A2 o.fDatas.length c2]]) (fun i=>i≤o.fSymbols.length) (fun i=>o.fSymbols.length-i) 0 ?_ cv Lh ?_))))))))))
 exact Nat.zero_le _
 rintro i hi
 try dsimp only
 refine Zh (Zh (Zi (Zo J (Zz (n:=0) (m:=0) J J J (Zld ?_)))))
 refine Zv J J (Zx J J (Zn (Za (wC (fun h10=>?_) (fun h10=>?_)))))
 obtain ⟨x,hx⟩:∃ x,o.fSymbols[i]?=some x:=⟨_,List.getElem?_eq_getElem ZO⟩
 obtain ⟨e1,cs1,hE⟩:=q0.elm hx
 obtain rfl:=kApiSymbol_open hE.K
 refine Zj (Za (Zh (Zk (Zh (Zi (Zz (n:=0) (m:=0) J J J (Zld ?_)))))))
 refine Zo J (oIdxE J J (hE) ZO J J ?_)
 have hc16:=(hE).cell
 refine ZF (ZT 0) (ZT 0) ?_
 refine Zlx hc16 ?_
 refine oLenStr J J (Z1 J J (Zn (Za (wC (fun h20=>?_) (fun h20=>?_)))))
 refine Zh (Zi (Zzb ?_))
 exact ⟨false,(by intro h;cases h),rfl,Lh⟩
 refine Zj (Zzd ?_)
 refine Zp J (Zn (Za ?_))
 exact ⟨rfl,i+1,by omega,by omega,cv,Lh⟩
 refine Zm (Zb (Zb (Ze (Za (Zh (Zh (Zi (Zp J (Zn (Za (Zk (wLoop (ι:=Nat) (fun i=>[(1,.pointer (some ⟨b1,0,none⟩)),(4,.int .i64 (i:Int))]) (fun i=>[blk b1 79 [.slice A0 o.fSymbols.length c0,.slice A1 o.fFuncs.length c1,.slice A2 o.fDatas.length c2]]) (fun i=>i≤o.fFuncs.length∧i≤20∧∀ f ∈ o.fFuncs.take i,fewF f) (fun i=>o.fFuncs.length-i) 0 ?_ cv Lh ?_))))))))))))
 exact ⟨Nat.zero_le _,by omega,by simp⟩
 rintro i ⟨hi,hi2,hs⟩
 try dsimp only
 refine Zh (Zh (Zi (Zo J (Zz (n:=1) (m:=1) J J J (Zld ?_)))))
 refine Zv J J (Zx J J (Zn (Za (wC (fun h25=>?_) (fun h25=>?_)))))
 obtain ⟨f,hf⟩:∃ f,o.fFuncs[i]?=some f:=⟨_,List.getElem?_eq_getElem ZO⟩
 obtain ⟨e3,cs3,hE3⟩:=q1.elm hf
 obtain ⟨F0,f0,F1,f1,F2,f2,F3,f3,rfl,n0,r0,n1,r1,n2,r2,n3,r3⟩:=kApiFunc_open hE3.K
 refine Zj (Za (Zh (Zk (Zh (Zi (Zo J (Z2 J J (Zo J (ZS (ZT 30) (fun h30=>?_) (fun h30=>?_))))))))))
 refine Zr J J J J (Zr J J J J (Zr J J J J (Zr J J J J (Zr J J J J (Zr J J J J (Zr J J J J (Zt J J (Zn (Za (wCondT J (Zh (Zi (Zzb ?_)))))))))))))
 exact ⟨false,(by intro h;cases h),rfl,Lh⟩
 refine Zq J J (Zz (n:=1) (m:=1) J J J (Zzg ?_))
 refine Zq J J (Zo J (Zq J J (oIdxE J J (hE3) ZO J J ?_)))
 have hc34:=(hE3).cell
 refine Zq J J (Zlx hc34 ?_)
 refine Zq J J ?_
 (refine ZC0 rfl ZK (fun w hS=>frame hS ZQ (fun B' hB hS'=>ref16_FewA hS' f _ (kApiFunc_mk _ f n0 (Kd.C_grow hB r0) n1 (Kd.C_grow hB r1) n2 (Kd.C_grow hB r2) n3 (Kd.C_grow hB r3)))) ?_;rintro r36 h36)
 refine Zq J J (Zno ?_)
 refine Zu J J (Zn (Za (wC (fun h38=>?_) (fun h38=>?_))))
 refine Zh (Zi (Zzb ?_))
 exact ⟨false,(by intro h;cases h),rfl,Lh⟩
 refine Zj (Zzd ?_)
 refine Zp J (Zn (Za ?_))
 exact ⟨rfl,i+1,⟨by omega,by omega,take_all hs hf (h36 (by simp_all))⟩,by omega,cv,Lh⟩
 obtain rfl:i=o.fFuncs.length:=by omega
 rw [List.take_length] at hs
 have hsF:=hs
 have hsN:=hi2
 refine Zm (Zb (Zb (Ze (Za (Zh (Zh (Zi (Zp J (Zn (Za (Zk (wLoop (ι:=Nat) (fun i=>[(1,.pointer (some ⟨b1,0,none⟩)),(5,.int .i64 (i:Int))]) (fun i=>[blk b1 79 [.slice A0 o.fSymbols.length c0,.slice A1 o.fFuncs.length c1,.slice A2 o.fDatas.length c2]]) (fun i=>i≤o.fDatas.length∧i≤20∧∀ f ∈ o.fDatas.take i,fewD f) (fun i=>o.fDatas.length-i) 0 ?_ cv Lh ?_))))))))))))
 exact ⟨Nat.zero_le _,by omega,by simp⟩
 rintro i ⟨hi,hi2,hs⟩
 try dsimp only
 refine Zh (Zh (Zi (Zo J (Zz (n:=2) (m:=2) J J J (Zld ?_)))))
 refine Zv J J (Zx J J (Zn (Za (wC (fun h43=>?_) (fun h43=>?_)))))
 obtain ⟨d,hd⟩:∃ d,o.fDatas[i]?=some d:=⟨_,List.getElem?_eq_getElem ZO⟩
 obtain ⟨e2,cs2,hE2⟩:=q2.elm hd
 obtain ⟨D0,d0,D1,d1,rfl,n0,r0,n1,r1⟩:=kApiData_open hE2.K
 refine Zj (Za (Zh (Zk (Zh (Zi (Zo J (Z2 J J (Zo J (ZS (ZT 48) (fun h48=>?_) (fun h48=>?_))))))))))
 refine Zr J J J J (Zr J J J J (Zr J J J J (Zr J J J J (Zr J J J J (Zr J J J J (Zr J J J J (Zt J J (Zn (Za (wCondT J (Zh (Zi (Zzb ?_)))))))))))))
 exact ⟨false,(by intro h;cases h),rfl,Lh⟩
 refine Zq J J (Zz (n:=2) (m:=2) J J J (Zzg ?_))
 refine Zq J J (Zo J (Zq J J (oIdxE J J (hE2) ZO J J ?_)))
 have hc52:=(hE2).cell
 refine Zq J J (Zlx hc52 ?_)
 refine Zq J J ?_
 (refine ZC0 rfl ZK (fun w hS=>frame hS ZQ (fun B' hB hS'=>ref15_Few hS' d _ (kApiData_mk _ d n0 (Kd.C_grow hB r0) n1 (Kd.C_grow hB r1)))) ?_;rintro r54 h54)
 refine Zq J J (Zno ?_)
 refine Zu J J (Zn (Za (wC (fun h56=>?_) (fun h56=>?_))))
 refine Zh (Zi (Zzb ?_))
 exact ⟨false,(by intro h;cases h),rfl,Lh⟩
 refine Zj (Zzd ?_)
 refine Zp J (Zn (Za ?_))
 exact ⟨rfl,i+1,⟨by omega,by omega,take_all hs hd (h54 (by simp_all))⟩,by omega,cv,Lh⟩
 refine Zm (Zb (Zb (Ze (Za (Zh (Zi (Zz (n:=0) (m:=0) J J J (Zld ?_))))))))
 refine Zv J J (oLeq J J (Zza ?_))
 obtain rfl:i=o.fDatas.length:=by omega
 rw [List.take_length] at hs
 exact ⟨_,(by intro h;have:=of_decide_eq_true h;exact ⟨by omega,hsN,hi2,hsF,hs⟩),rfl,Lh⟩
abbrev FunT:=Int×Int×ByteArray×ApiFunc×Hdr
abbrev DatT:=Int×Int×ByteArray×ApiData×Hdr
def kFunT:Kd FunT:=Kd.pair (Kd.int .i64) (Kd.pair (Kd.int .i64) (Kd.pair Kd.string (Kd.pair kApiFunc kHdr)))
def kDatT:Kd DatT:=Kd.pair (Kd.int .i64) (Kd.pair (Kd.int .i64) (Kd.pair Kd.string (Kd.pair kApiData kHdr)))
abbrev hdT {α:Type}(t:Int×Int×ByteArray×α×Hdr):Hdr:=t.2.2.2.2
def mkF (t:FunT) (r:List Int):ApiFun:=⟨t.1,t.2.1,t.2.2.1,t.2.2.2.1,r⟩
def mkD (t:DatT) (r:List Int):ApiDat:=⟨t.1,t.2.1,t.2.2.1,t.2.2.2.1,r⟩
def funsOf (ts:List FunT) (rs:List (List Int)):List ApiFun:=List.zipWith mkF ts rs
def datsOf (ts:List DatT) (rs:List (List Int)):List ApiDat:=List.zipWith mkD ts rs
theorem zip_len {α β γ:Type}{m:α→β→γ}{a:List α}{b:List β}(h:a.length=b.length):(List.zipWith m a b).length=a.length:=by rw [List.length_zipWith];omega
theorem zip_snoc {α β γ:Type}{m:α→β→γ}{a:List α}{b:List β}(h:a.length=b.length) (x:α) (y:β):List.zipWith m (a++[x]) (b++[y])=List.zipWith m a b++[m x y]:=by rw [List.zipWith_append h];rfl
theorem gridT_C {α β:Type}{kA:Kd α}{kB:Kd β}{m:α→List Int→β}{hd:α→Hdr}(hsz:kA.sz=kB.sz) (hm:∀ w x cs r,kA.K w x cs→(Kd.int .i64).C w (hd x).1 r→(hd x).2.1=r.length→r.length≤(hd x).2.2→kB.K w (m x r) cs)
 {W0 W w:World}{eo ei:TypeId}{A:Option Addr}{n cp:Nat}{ts:List α}{rs:List (List Int)}(h1:(row kA W0 eo (.slice A n cp) ts).q w) (g0:Grow W0 w) (h2:(bun (rws (Kd.int .i64) W ei (ts.map hd) rs)).q w) (hl:ts.length=rs.length):n=ts.length∧n≤cp∧kB.C w A (List.zipWith m ts rs):=by
 obtain ⟨e1,e2,⟨hbig,hC⟩,_⟩:=row_C h1 g0
 refine ⟨e1,e2,by rw [zip_len hl];omega,fun h0=>?_⟩
 rw [zip_len hl] at h0
 obtain ⟨ad,rfl,hc⟩:=hC ZO
 refine ⟨ad,rfl,fun j x hj=>?_⟩
 rw [List.getElem?_zipWith] at hj
 cases ht:ts[j]? with
 | none=>rw [ht] at hj;cases hj
 | some t=>
  cases hr:rs[j]? with
  | none=>rw [ht,hr] at hj;cases hj
  | some r=>
   rw [ht,hr] at hj
   obtain rfl:=Option.some.inj hj
   obtain ⟨c,hK,hcell⟩:=hc j t ht
   have hq:=h2.1 _ (List.mem_of_getElem? (rws_at (kd:=Kd.int .i64) (W:=W) (ei:=ei) (hs:=ts.map hd) (u:=hd t) (by rw [List.getElem?_map,ht];rfl) hr))
   have f3:(Kd.int .i64).C w (hd t).1 r:=row_Cs hq
   obtain ⟨f1,f2,_⟩:=row_C (kd:=Kd.int .i64) (W:=w) (e:=ei) (A:=(hd t).1) (n:=(hd t).2.1) (cp:=(hd t).2.2) (xs:=r) (by obtain ⟨cs,ho,hr⟩:=hq;exact ⟨cs,ho,cat_scalar.2 (cat_scalar.1 hr)⟩) (Grow.refl _)
   exact ⟨c,hm _ _ _ _ hK f3 f1 ZO,fun i u hi=>by rw [← hsz];exact hcell i u hi⟩
theorem funs_C {W0 W w:World}{eo ei:TypeId}{A:Option Addr}{n cp:Nat}{ts:List FunT}{rs:List (List Int)}(h1:(row kFunT W0 eo (.slice A n cp) ts).q w) (g0:Grow W0 w) (h2:(bun (rws (Kd.int .i64) W ei (ts.map hdT) rs)).q w) (hl:ts.length=rs.length):n=ts.length∧n≤cp∧kApiFun.C w A (funsOf ts rs):=
 gridT_C (kA:=kFunT) (kB:=kApiFun) (m:=mkF) (hd:=hdT) rfl (fun w x cs r hK hC h1 h2=>by
  obtain ⟨c1,d1,rfl,a1,c2,d2,rfl,a2,c3,d3,rfl,a3,c4,d4,rfl,a4,a5⟩:=hK
  rw [show d4=[hV (hdT x)] from a5,show hV (hdT x)=.slice (hdT x).1 r.length (hdT x).2.2 by rw [← h1]]
  exact ⟨c1,_,rfl,a1,c2,_,rfl,a2,c3,_,rfl,a3,c4,_,rfl,a4,⟨_,_,rfl,h2,hC⟩⟩) h1 g0 h2 hl
theorem dats_C {W0 W w:World}{eo ei:TypeId}{A:Option Addr}{n cp:Nat}{ts:List DatT}{rs:List (List Int)}(h1:(row kDatT W0 eo (.slice A n cp) ts).q w) (g0:Grow W0 w) (h2:(bun (rws (Kd.int .i64) W ei (ts.map hdT) rs)).q w) (hl:ts.length=rs.length):n=ts.length∧n≤cp∧kApiDat.C w A (datsOf ts rs):=
 gridT_C (kA:=kDatT) (kB:=kApiDat) (m:=mkD) (hd:=hdT) rfl (fun w x cs r hK hC h1 h2=>by
  obtain ⟨c1,d1,rfl,a1,c2,d2,rfl,a2,c3,d3,rfl,a3,c4,d4,rfl,a4,a5⟩:=hK
  rw [show d4=[hV (hdT x)] from a5,show hV (hdT x)=.slice (hdT x).1 r.length (hdT x).2.2 by rw [← h1]]
  exact ⟨c1,_,rfl,a1,c2,_,rfl,a2,c3,_,rfl,a3,c4,_,rfl,a4,⟨_,_,rfl,h2,hC⟩⟩) h1 g0 h2 hl
structure PZ where
  Af:Option Addr
  cf:Nat
  ft:List FunT
  fr:List (List Int)
  Ad:Option Addr
  cd:Nat
  dt:List DatT
  dr:List (List Int)
structure PZ.ok (z:PZ):Prop where
  f:z.ft.length=z.fr.length
  d:z.dt.length=z.dr.length
abbrev PZ.cells (z:PZ) (e:Int):List Value:=[.slice z.Af z.ft.length z.cf,.slice z.Ad z.dt.length z.cd,.int .i64 e]
def PZ.prog (z:PZ) (e:Int):ApiProgram:=⟨funsOf z.ft z.fr,datsOf z.dt z.dr,e⟩
theorem prog_K {W0 W w:World}{ef ed ei:TypeId}{z:PZ}(hz:z.ok) (h1:(row kFunT W0 ef (.slice z.Af z.ft.length z.cf) z.ft).q w) (h2:(bun (rws (Kd.int .i64) W ei (z.ft.map hdT) z.fr)).q w) (h3:(row kDatT W0 ed (.slice z.Ad z.dt.length z.cd) z.dt).q w) (h4:(bun (rws (Kd.int .i64) W ei (z.dt.map hdT) z.dr)).q w) (g:Grow W0 w) (e:Int):kApiProgram.K w (z.prog e) (z.cells e):=by
 obtain ⟨-,c1,k1⟩:=funs_C h1 g h2 hz.f
 obtain ⟨-,c2,k2⟩:=dats_C h3 g h4 hz.d
 have l1:z.ft.length=(z.prog e).fFuns.length:=(zip_len hz.f).symm
 have l2:z.dt.length=(z.prog e).fDats.length:=(zip_len hz.d).symm
 unfold PZ.cells
 rw [l1,l2]
 exact kApiProgram_mk w (z.prog e) (by rw [← l1];exact c1) k1 (by rw [← l2];exact c2) k2
def objAt (l:List ApiObject) (i:Nat):ApiObject:=l.getD i default
theorem objAt_eq {l:List ApiObject}{i:Nat}{o:ApiObject}(h:l[i]?=some o):objAt l i=o:=by unfold objAt;rw [List.getD_eq_getElem?_getD,h];rfl
def nameI (o:ApiObject) (item:Int):ByteArray:=(o.fSymbols.getD (definerF o item).toNat default).fName
def sumO (fn:Bool) (l:List ApiObject) (n:Nat):Nat:=((l.take n).map fun o=>if fn=true then o.fFuncs.length else o.fDatas.length).sum
theorem sumO_succ {fn:Bool}{l:List ApiObject}{n:Nat}{o:ApiObject}(h:l[n]?=some o):sumO fn l (n+1)=sumO fn l n+(if fn=true then o.fFuncs.length else o.fDatas.length):=by
 unfold sumO
 rw [List.take_add_one,h,List.map_append,List.sum_append]
 simp
theorem sumO_le {fn:Bool}{l:List ApiObject}(h:FewO l):∀ n,sumO fn l n≤20 * n
 | 0=>by simp [sumO]
 | n+1=>by
  have ih:=sumO_le (fn:=fn) h n
  cases ho:l[n]? with
  | none=>
   have:l.take (n+1)=l.take n:=by rw [List.take_add_one,ho];simp
   have h2:sumO fn l (n+1)=sumO fn l n:=by unfold sumO;rw [this]
   omega
  | some o=>
   rw [sumO_succ ho]
   have h1:=h.funcs o (List.mem_of_getElem? ho)
   have h2:=h.datas o (List.mem_of_getElem? ho)
   split <;> omega
def numberF (l:List ApiObject) (i k:Int):Int:=(symOf l (bndF l i k).1 (bndF l i k).2.1).fDef+(sumO (decide ((symOf l (bndF l i k).1 (bndF l i k).2.1).fSort=1)) l (bndF l i k).1.toNat:Int)
def boundE (l:List ApiObject) (i:Int) (s:Int):Int:=if 0≤s then numberF l i s else -1
def boundL (l:List ApiObject) (i:Int) (syms:List Int):List Int:=syms.map (boundE l i)
theorem boundL_len (l:List ApiObject) (i:Int) (syms:List Int):(boundL l i syms).length=syms.length:=by unfold boundL;rw [List.length_map]
def symsF (f:ApiFunc):List Int:=(List.range f.fCode.length).map fun j:Nat=>symF f (j:Int)
theorem symsF_len (f:ApiFunc):(symsF f).length=f.fCode.length:=by simp [symsF]
def funAt (l:List ApiObject) (i k:Nat):ApiFunc:=(objAt l i).fFuncs.getD k default
def datAt (l:List ApiObject) (i k:Nat):ApiData:=(objAt l i).fDatas.getD k default
def mkFun (l:List ApiObject) (i k:Nat):ApiFun:=⟨i,k,nameI (objAt l i) k,funAt l i k,boundL l i (symsF (funAt l i k))⟩
def mkDat (l:List ApiObject) (i k:Nat):ApiDat:=⟨i,(((objAt l i).fFuncs.length+k:Nat):Int),nameI (objAt l i) (((objAt l i).fFuncs.length+k:Nat):Int),datAt l i k,boundL l i (refsD (datAt l i k))⟩
def fileFuns (l:List ApiObject) (i:Nat):List ApiFun:=(List.range (objAt l i).fFuncs.length).map (mkFun l i)
def fileDats (l:List ApiObject) (i:Nat):List ApiDat:=(List.range (objAt l i).fDatas.length).map (mkDat l i)
def funsTo (l:List ApiObject) (n:Nat):List ApiFun:=((List.range n).map (fileFuns l)).flatten
def datsTo (l:List ApiObject) (n:Nat):List ApiDat:=((List.range n).map (fileDats l)).flatten
theorem funsTo_succ (l:List ApiObject) (n:Nat):funsTo l (n+1)=funsTo l n++fileFuns l n:=by unfold funsTo;rw [List.range_succ,List.map_append,List.flatten_append];simp
theorem datsTo_succ (l:List ApiObject) (n:Nat):datsTo l (n+1)=datsTo l n++fileDats l n:=by unfold datsTo;rw [List.range_succ,List.map_append,List.flatten_append];simp
theorem funsTo_len (l:List ApiObject):∀ n,(funsTo l n).length=sumO true l n
 | 0=>by simp [funsTo,sumO]
 | n+1=>by
  rw [funsTo_succ,List.length_append,funsTo_len l n]
  cases ho:l[n]? with
  | none=>
   have:l.take (n+1)=l.take n:=by rw [List.take_add_one,ho];simp
   have h2:sumO true l (n+1)=sumO true l n:=by unfold sumO;rw [this]
   have h3:objAt l n=default:=by unfold objAt;rw [List.getD_eq_getElem?_getD,ho];rfl
   rw [h2];unfold fileFuns;rw [h3];rfl
  | some o=>rw [sumO_succ ho,if_pos rfl];unfold fileFuns;rw [objAt_eq ho];simp
theorem datsTo_len (l:List ApiObject):∀ n,(datsTo l n).length=sumO false l n
 | 0=>by simp [datsTo,sumO]
 | n+1=>by
  rw [datsTo_succ,List.length_append,datsTo_len l n]
  cases ho:l[n]? with
  | none=>
   have:l.take (n+1)=l.take n:=by rw [List.take_add_one,ho];simp
   have h2:sumO false l (n+1)=sumO false l n:=by unfold sumO;rw [this]
   have h3:objAt l n=default:=by unfold objAt;rw [List.getD_eq_getElem?_getD,ho];rfl
   rw [h2];unfold fileDats;rw [h3];rfl
  | some o=>rw [sumO_succ ho,if_neg (by simp)];unfold fileDats;rw [objAt_eq ho];simp
noncomputable def badB (o:ApiObject):Bool:=decide (objE o≠0)
noncomputable def bindR (l:List ApiObject) (s:ByteArray):Int×Int×Int:=
  if l.length=0∨6<l.length then (19,-1,-1) else
  if 0≤idxI badB l then (objE (objAt l (idxI badB l).toNat),idxI badB l,objI (objAt l (idxI badB l).toNat)) else
  if (chk23 l).1≠0 then chk23 l else
  if (fnd l s).2.2=false∨(symOf l (fnd l s).1 (fnd l s).2.1).fSort≠1∨1<(symOf l (fnd l s).1 (fnd l s).2.1).fKind then (15,-1,-1) else (0,0,0)
noncomputable def bindP (l:List ApiObject) (s:ByteArray):ApiProgram:=if (bindR l s).1=0 then ⟨funsTo l l.length,datsTo l l.length,numberF l (fnd l s).1 (fnd l s).2.1⟩ else ⟨[],[],0⟩
theorem fI_at {l:List ApiObject}{p:Nat→Nat→Bool}(h:0≤fI l p):∃ i k:Nat,fI l p=(i:Int)∧fK l p=(k:Int)∧p i k=true:=by
 obtain ⟨i,x,hi,hx,hr⟩:=idxI_at (show 0≤idxI (rowP l p) (List.range l.length) from h)
 obtain ⟨hxl,rfl⟩:=List.getElem?_eq_some_iff.1 hx
 rw [List.getElem_range] at hr
 have h2:0≤idxI (p i) (List.range (symsAt l (i:Int)).length):=idxI_iff.2 hr
 obtain ⟨k,y,hk,hy,hp⟩:=idxI_at h2
 obtain ⟨hyl,rfl⟩:=List.getElem?_eq_some_iff.1 hy
 rw [List.getElem_range] at hp
 have hf:fI l p=(i:Int):=hi
 refine ⟨i,k,hf,?_,hp⟩
 unfold fK
 rw [hf,Int.toNat_natCast]
 exact hk
theorem bnd_ok {l:List ApiObject}(h:(chk23 l).1=0) {i k:Nat}{o:ApiObject}{x:ApiSymbol}(ho:l[i]?=some o) (hx:o.fSymbols[k]?=some x):∃ (i2 k2:Nat) (o2:ApiObject) (y:ApiSymbol),bndF l i k=((i2:Int),(k2:Int),0)∧l[i2]?=some o2∧o2.fSymbols[k2]?=some y∧y.fDef≠-1∧y.fSort=x.fSort∧y.fKind=x.fKind:=by
 have h0:(bndF l i k).2.2=0:=by
  unfold chk23 at h
  split at h
  · exact absurd h (by decide)
  · split at h
    · exact absurd (show (12:Int)=0 from h) (by decide)
    · split at h
      · next h1=>
        obtain ⟨i3,k3,e1,e2,hp⟩:=fI_at h1
        rw [e1,e2] at h
        unfold unP at hp
        exact absurd h (of_decide_eq_true hp)
      · next h1=>
        have:=fI_all (show fI l (unP l)<0 by omega) ho (List.getElem?_eq_some_iff.1 hx).1
        unfold unP at this
        simpa using this
 have hil:=(List.getElem?_eq_some_iff.1 ho).1
 have hkl:=(List.getElem?_eq_some_iff.1 hx).1
 have hin:¬ ((i:Int)<0∨(l.length:Int)≤(i:Int)∨(k:Int)<0∨((symsAt l (i:Int)).length:Int)≤(k:Int)):=by rw [symsAt_eq ho];omega
 have hso:=symOf_eq ho hx
 unfold bndF at h0 ⊢
 rw [if_neg hin,hso] at h0 ⊢
 by_cases hd:x.fDef≠-1
 · rw [if_pos hd] at h0 ⊢
   exact ⟨i,k,o,x,rfl,ho,hx,hd,rfl,rfl⟩
 · rw [if_neg hd] at h0 ⊢
   by_cases hf:(fnd l x.fName).2.2=false
   · rw [if_pos hf] at h0;exact absurd h0 (by decide)
   · rw [if_neg hf] at h0 ⊢
     obtain ⟨i2,k2,o2,y,hfe,ho2,hy,hgy⟩:=fnd_some (show (fnd l x.fName).2.2=true by simpa using hf)
     rw [hfe] at h0 ⊢
     dsimp only at h0 ⊢
     rw [symOf_eq ho2 hy] at h0 ⊢
     by_cases hne:y.fSort≠x.fSort∨y.fKind≠x.fKind
     · rw [if_pos hne] at h0;exact absurd h0 (by decide)
     · rw [if_neg hne]
       unfold isG at hgy
       simp only [Bool.and_eq_true,decide_eq_true_eq] at hgy
       exact ⟨i2,k2,o2,y,rfl,ho2,hy,hgy.1.2,by omega,by omega⟩
theorem obj_zero {o:ApiObject}(h:objE o=0):¬ manyO o∧(∀ i,i<o.fSymbols.length→symE o i=0)∧∀ i,i<o.fFuncs.length+o.fDatas.length→itemE o i=0:=by
 unfold objE at h
 split at h
 · exact absurd h (by decide)
 · next hm=>
   split at h
   · next h1=>exact absurd h h1
   · next h1=>
     refine ⟨hm,fun i hi=>?_,fun i hi=>?_⟩
     · exact fstE_zero.1 (Classical.not_not.1 h1) _ (List.mem_map.2 ⟨i,List.mem_range.2 hi,rfl⟩)
     · exact fstE_zero.1 h _ (List.mem_map.2 ⟨i,List.mem_range.2 hi,rfl⟩)
theorem sym_zero {o:ApiObject}{i:Nat}{x:ApiSymbol}(h:symE o i=0) (hx:o.fSymbols[i]?=some x):x.fDef = -1∨(0≤x.fDef∧x.fDef<(mostN o x:Int)):=by
 rw [symE_at hx] at h
 unfold symX at h
 split at h
 · next h1=>exact absurd h h1
 · split at h
   · exact absurd h (by decide)
   · split at h
     · exact absurd h (by decide)
     · split at h
       · exact absurd h (by decide)
       · next h1=>omega
theorem item_fun {o:ApiObject}{i:Nat}{f:ApiFunc}(h:itemE o i=0) (hf:o.fFuncs[i]?=some f):0≤definerF o (i:Int)∧f.fClass=dKind o i∧chkE f o.fSymbols=0∧rangeF f=0:=by
 have hfg:o.fFuncs.getD i default=f:=by rw [List.getD_eq_getElem?_getD,hf];rfl
 have hil:=(List.getElem?_eq_some_iff.1 hf).1
 unfold itemE at h
 split at h
 · exact absurd h (by decide)
 · next h1=>
   rw [if_neg ZO,hfg] at h
   split at h
   · exact absurd h (by decide)
   · next h2=>
     unfold funE at h
     split at h
     · next h3=>exact absurd h h3
     · next h3=>exact ⟨by omega,Classical.not_not.1 h2,Classical.not_not.1 h3,h⟩
theorem item_dat {o:ApiObject}{k:Nat}{d:ApiData}(h:itemE o (o.fFuncs.length+k)=0) (hd:o.fDatas[k]?=some d):0≤definerF o ((o.fFuncs.length+k:Nat):Int)∧d.fKind=dKind o (o.fFuncs.length+k)∧dataF d o.fSymbols=0:=by
 have hdg:o.fDatas.getD (o.fFuncs.length+k-o.fFuncs.length) default=d:=by rw [show o.fFuncs.length+k-o.fFuncs.length=k by omega,List.getD_eq_getElem?_getD,hd];rfl
 unfold itemE at h
 split at h
 · exact absurd h (by decide)
 · next h1=>
   rw [if_pos ZO,hdg] at h
   split at h
   · exact absurd h (by decide)
   · next h2=>exact ⟨by omega,Classical.not_not.1 h2,h⟩
theorem ref_zero {f:ApiFunc}{l:List ApiSymbol}(h:chkE f l=0) {j:Nat}(hj:j<f.fCode.length):refE f l (j:Int)=0:=by
 unfold chkE at h
 split at h
 · next h1=>exact absurd h h1
 · have hi:instrF f l (j:Int)=0:=fstE_zero.1 h _ (List.mem_map.2 ⟨j,List.mem_range.2 hj,rfl⟩)
   unfold instrF at hi
   rw [if_neg ZO] at hi
   split at hi
   · next h2=>exact absurd hi h2
   · next h2=>exact Classical.not_not.1 h2
theorem sym_in {f:ApiFunc}{l:List ApiSymbol}(h:chkE f l=0) {j:Nat}(hj:j<f.fCode.length) (hs:0≤symF f (j:Int)):symF f (j:Int)<(l.length:Int):=by
 have hr:=ref_zero h hj
 unfold refE at hr
 split at hr
 · next h1=>
   have:symF f (j:Int) = -1:=by unfold symF;rw [if_pos h1.2]
   omega
 · split at hr
   · exact absurd hr (by decide)
   · next h1=>omega
theorem syms_in {f:ApiFunc}{l:List ApiSymbol}(h:chkE f l=0):∀ s ∈ symsF f,0≤s→s<(l.length:Int):=by
 intro s hs h0
 obtain ⟨j,hj,rfl⟩:=List.mem_map.1 hs
 exact sym_in h (List.mem_range.1 hj) h0
theorem refs_in {d:ApiData}{l:List ApiSymbol}(h:dataF d l=0):∀ s ∈ refsD d,0≤s→s<(l.length:Int):=by
 intro s hs h0
 obtain ⟨m,hm,rfl⟩:=List.mem_map.1 hs
 obtain ⟨i,hi,rfl⟩:=List.mem_map.1 hm
 unfold refD at h0 ⊢
 split at h0
 · next h1=>
   rw [if_pos h1]
   obtain ⟨k,x,hk,hx,hp⟩:=idxI_at h1
   rw [hk,Int.toNat_natCast,List.getD_eq_getElem?_getD,hx] at h0 ⊢
   have hkl:=(List.getElem?_eq_some_iff.1 hx).1
   unfold dataF at h
   split at h
   · exact absurd h (by decide)
   · split at h
     · exact absurd h (by decide)
     · split at h
       · exact absurd h (by decide)
       · have hr:relE d l k=0:=fstE_zero.1 h _ (List.mem_map.2 ⟨k,List.mem_range.2 hkl,rfl⟩)
         rw [relE_at hx] at hr
         unfold dRelE at hr
         split at hr
         · exact absurd hr (by decide)
         · next h2=>
           show x.fSym<_
           omega
 · omega
structure OkL (l:List ApiObject):Prop where
  few:FewO l
  objs:∀ o ∈ l,objE o=0
  chk:(chk23 l).1=0
abbrev BndOk (l:List ApiObject) (i k:Nat):Prop:=∃ (i2 k2:Nat) (o2:ApiObject) (y:ApiSymbol),bndF l i k=((i2:Int),(k2:Int),0)∧l[i2]?=some o2∧o2.fSymbols[k2]?=some y∧0≤y.fDef∧y.fDef<(mostN o2 y:Int)
theorem OkL.bnd {l:List ApiObject}(h:OkL l) {i k:Nat}{o:ApiObject}(ho:l[i]?=some o) (hk:k<o.fSymbols.length):BndOk l i k:=by
 obtain ⟨i2,k2,o2,y,e,ho2,hy,hd,_,_⟩:=bnd_ok h.chk ho (List.getElem?_eq_getElem hk)
 have h1:=(obj_zero (h.objs o2 (List.mem_of_getElem? ho2))).2.1 k2 (List.getElem?_eq_some_iff.1 hy).1
 rcases sym_zero h1 hy with h2 | h2
 · exact absurd h2 hd
 · exact ⟨i2,k2,o2,y,e,ho2,hy,h2.1,h2.2⟩
theorem most_le {l:List ApiObject}(h:FewO l) {o:ApiObject}(ho:o ∈ l) (y:ApiSymbol):mostN o y≤20:=by
 unfold mostN
 have h1:=h.funcs o ho
 have h2:=h.datas o ho
 split <;> omega
theorem OkL.syms {l:List ApiObject}(h:OkL l) {i:Nat}{o:ApiObject}(ho:l[i]?=some o) {syms:List Int}(hs:∀ s ∈ syms,0≤s→s<(o.fSymbols.length:Int)):∀ s ∈ syms,∀ k:Nat,s=(k:Int)→BndOk l i k:=by
 rintro s hm k rfl
 have:=hs _ hm ZO
 exact h.bnd ho ZO
theorem ref24_number {B:Base}{w:World}(hS:St B [] w) (A:Option Addr) (cp:Nat) (l:List ApiObject) (hC:kApiObject.C B.e A l) (hsm:FewO l) (i k:Nat) (hb:BndOk l i k) :
 CW 73 #[.slice A l.length cp,.int .i64 (i:Int),.int .i64 (k:Int)] w (Ret B (fun _:Unit=>True) (fun _=>.int .i64 (numberF l i k)) (fun _=>[])):=by
 have hln:=hsm.len
 obtain ⟨i2,k2,o2,y,hb,ho2,hy,hd0,hd1⟩:=hb
 have hmo:=most_le hsm (List.mem_of_getElem? ho2) y
 have hnf:numberF l i k=y.fDef+(sumO (decide (y.fSort=1)) l i2:Int):=by unfold numberF;rw [hb];dsimp only;rw [symOf_eq ho2 hy,Int.toNat_natCast]
 have hil:=(List.getElem?_eq_some_iff.1 ho2).1
 have hkl:=(List.getElem?_eq_some_iff.1 hy).1
 obtain ⟨e1,cs1,hE⟩:=hC.elm ho2
 obtain ⟨B0,d0,B1,d1,B2,d2,rfl,m0,q0,m1,q1,m2,q2⟩:=kApiObject_open hE.K
 obtain ⟨e2,cs2,hE2⟩:=q0.elm hy
 obtain rfl:=kApiSymbol_open hE2.K
 rw [hnf]
 refine ZX Tryz.func73 hS ?_
 refine Zh (Zi (Zp J (Zn (Za (Zzv ?_)))))
 (refine ZC0 rfl ZK (fun w hS=>frame hS ZQ (fun B' hB hS'=>ref23_Bound hS' A cp l (Kd.C_grow hB hC) hsm (i:Int) (k:Int))) ?_;rintro ⟨⟩ -)
 rw [hb]
 dsimp only
 refine Zo J (oExt J ZP ?_)
 refine oExt J ZP ?_
 refine oExt J ZP ?_
 refine Zp J (Zp J (Zp J (Zn (Za (Zh (Zi (Zo J (Zo J (oIdxE J J (hE) ZO J J ?_)))))))))
 have hc23:=(hE).cell
 refine ZF (ZT 0) (ZT 0) ?_
 refine Zlx hc23 ?_
 refine Zo J (oIdxE J J (hE2) ZO J J ?_)
 have hc27:=(hE2).cell
 refine Zlx hc27 ?_
 refine oAlloc J ZP (fun b10=>?_)
 refine Zsa ?_
 refine Zn (Za (Zh (Zi (Zz (n:=4) (m:=4) J J J (Zld ?_)))))
 refine Zp J (ZS0 (t:=11) (v':=.int .i64 (y.fDef+(sumO (decide (y.fSort=1)) l 0:Int))) J (by simp [sumO]) ?_)
 refine Zn (Za (Zh (Zh (Zi (Zp J (Zn (Za (Zk (wLoop (ι:=Nat) (fun j=>[(0,.slice A l.length cp),(7,.int .i64 (i2:Int)),(10,.pointer (some ⟨b10,0,none⟩)),(11,.int .i64 (y.fDef+(sumO (decide (y.fSort=1)) l j:Int))),(12,.int .i64 (j:Int))]) (fun j=>[blk b10 91 [.string y.fName,.bool y.fLocal,.int .i64 y.fSort,.int .i64 y.fKind,.int .i64 y.fDef]]) (fun j=>j≤i2) (fun j=>i2-j) 0 ?_ cv Lh ?_)))))))))
 exact Nat.zero_le _
 rintro j hj
 have hsl:=sumO_le (fn:=decide (y.fSort=1)) hsm j
 try dsimp only
 refine Zh (Zh (Zi (Zo J (Zo J (Zx J J (Zn (Za (wC (fun h33=>?_) (fun h33=>?_)))))))))
 obtain ⟨oj,hoj⟩:∃ oj,l[j]?=some oj:=⟨_,List.getElem?_eq_getElem ZO⟩
 have hf1:=hsm.funcs oj (List.mem_of_getElem? hoj)
 have hf2:=hsm.datas oj (List.mem_of_getElem? hoj)
 obtain ⟨e3,cs3,hE3⟩:=hC.elm hoj
 obtain ⟨C0,f0,C1,f1,C2,f2,rfl,n0,r0,n1,r1,n2,r2⟩:=kApiObject_open hE3.K
 refine Zj (Za (Zh (Zk (Zh (Zi (Zz (n:=2) (m:=2) J J J (Zld ?_)))))))
 refine Zy J J (Zn (Za (wC (fun h38=>?_) (fun h38=>?_))))
 refine Zi (Zo J (Zo J (Zo J (oIdxE J J (hE3) ZO J J ?_))))
 have hc42:=(hE3).cell
 refine ZF (ZT 1) (ZT 1) ?_
 refine Zlx hc42 ?_
 refine Zv J J (oAdd J J ZO ?_)
 refine ZS0 (t:=46) (v':=.int .i64 (y.fDef+(sumO (decide (y.fSort=1)) l (j+1):Int))) rfl (by rw [sumO_succ hoj,if_pos (decide_eq_true h38)];congr 1;push_cast;omega) ?_
 refine Zp J ?_
 skip
 refine Zn (Zzd ?_)
 refine Zp J (Zn (Za ?_))
 exact ⟨rfl,j+1,by omega,by omega,cv,Lh⟩
 refine Zi (Zo J (Zo J (Zo J (oIdxE J J (hE3) ZO J J ?_))))
 have hc50:=(hE3).cell
 refine ZF (ZT 2) (ZT 2) ?_
 refine Zlx hc50 ?_
 refine Zv J J (oAdd J J ZO ?_)
 refine ZS0 (t:=54) (v':=.int .i64 (y.fDef+(sumO (decide (y.fSort=1)) l (j+1):Int))) rfl (by rw [sumO_succ hoj,if_neg (by simpa using h38)];congr 1;push_cast;omega) ?_
 refine Zp J ?_
 skip
 refine Zn (Zzd ?_)
 refine Zp J (Zn (Za ?_))
 exact ⟨rfl,j+1,by omega,by omega,cv,Lh⟩
 obtain rfl:j=i2:=by omega
 refine Zm (Zzf ?_)
 exact ⟨(),trivial,rfl,Lh⟩
theorem boundL_succ {l:List ApiObject}{i:Int}{syms:List Int}{j:Nat}{s:Int}(h:syms[j]?=some s):boundL l i (syms.take (j+1))=boundL l i (syms.take j)++[boundE l i s]:=by
 unfold boundL
 rw [List.take_add_one,h,List.map_append];rfl
theorem ref24_bound {B:Base}{w:World}(hS:St B [] w) (A:Option Addr) (cp:Nat) (l:List ApiObject) (hC:kApiObject.C B.e A l) (hsm:FewO l) (i:Nat) (A1:Option Addr) (cp1:Nat) (syms:List Int) (hC1:(Kd.int .i64).C B.e A1 syms) (hn:syms.length≤1000) (hb:∀ s ∈ syms,∀ k:Nat,s=(k:Int)→BndOk l i k) (W0:World) :
 CW 137 #[.slice A l.length cp,.int .i64 (i:Int),.slice A1 syms.length cp1] w (Ret B (fun _:Option Addr×Nat=>True) (fun z=>.slice z.1 (boundL l i syms).length z.2) (fun z=>[row (Kd.int .i64) W0 3 (.slice z.1 (boundL l i syms).length z.2) (boundL l i syms)])):=by
 refine ZX Tryz.func137 hS ?_
 refine Zh (Zi (Zp J (Zn (Za (Zh (Zi (Zp J (Zn (Za (Zh (Zh (Zi (Zp J (Zn (Za (Zk (wLoop (ι:=Nat×Option Addr×Nat) (fun z=>[(0,.slice A l.length cp),(1,.int .i64 (i:Int)),(2,.slice A1 syms.length cp1),(7,.slice z.2.1 (boundL l i (syms.take z.1)).length z.2.2),(8,.int .i64 (z.1:Int))]) (fun z=>[row (Kd.int .i64) W0 3 (.slice z.2.1 (boundL l i (syms.take z.1)).length z.2.2) (boundL l i (syms.take z.1))]) (fun z=>z.1≤syms.length) (fun z=>syms.length-z.1) (0,none,0) ?_ cv (Leads.nilrow.trans Lh) ?_)))))))))))))))))
 exact Nat.zero_le _
 rintro ⟨j,A2,c2⟩ hj
 dsimp only at hj
 have hlen:(boundL l i (syms.take j)).length≤1000:=by rw [boundL_len,List.length_take];omega
 try dsimp only
 refine Zh (Zh (Zi (Zo J (Zo J (Zv J J (Zx J J (Zn (Za (wC (fun h13=>?_) (fun h13=>?_))))))))))
 obtain ⟨s,hs⟩:∃ s,syms[j]?=some s:=⟨_,List.getElem?_eq_getElem ZO⟩
 obtain ⟨e1,cs1,hE⟩:=hC1.elm hs
 obtain rfl:=(show cs1=[Value.int .i64 s] from hE.K)
 have hbs:=boundL_succ (l:=l) (i:=(i:Int)) hs
 refine Zj (Za (Zh (Zk (Zh (Zi (Zp J (Zn (Za (Zh (Zh (Zi (Zo J (Zo J (oIdxE J J (hE) ZO J J ?_))))))))))))))
 have hc18:=(hE).cell
 refine Zlx hc18 ?_
 refine Z2 J J (Zn (Za (wC (fun h20=>?_) (fun h20=>?_))))
 obtain ⟨k,hk⟩:=Int.eq_ofNat_of_zero_le (show 0≤s by omega)
 have hbe:boundE l i s=numberF l i k:=by unfold boundE;rw [if_pos ZO,hk]
 refine Zi (Zo J (Zo J (Zo J (Zo J (oIdxE J J (hE) ZO J J ?_)))))
 have hc25:=(hE).cell
 refine Zlx hc25 ?_
 refine ZS0 (t:=26) (v':=.int .i64 (k:Int)) rfl (by rw [hk]) ?_
 (refine ZC0 rfl ZK (fun w hS=>frame hS ZQ (fun B' hB hS'=>ref24_number hS' A cp l (Kd.C_grow hB hC) hsm i k (hb s (List.mem_of_getElem? hs) k hk))) ?_;rintro ⟨⟩ -)
 refine Zp J (Zn (Za (Zi (Zo J (Zo J (oBuildSlice1 J J J J J ZP J (fun b30=>?_)))))))
 refine oApp1 (boundE l i s) rfl rfl rfl rfl ZP ZP (by rw [hbe];rfl) ZO rfl (fun g31 cp31=>?_)
 rw [show (boundL l i (syms.take j)).length+1=(boundL l i (syms.take (j+1))).length by rw [hbs,List.length_append];rfl,← hbs]
 refine Zp J (Zn (Zzd ?_))
 refine Zp J (Zn (Za ?_))
 exact ⟨rfl,(j+1,some ⟨g31,0,none⟩,cp31),by show j+1≤_;omega,by show syms.length-(j+1)<syms.length-j;omega,cv,Lh⟩
 have hbe:boundE l i s = -1:=by unfold boundE;rw [if_neg ZO]
 refine Zj (Za (Zi (Zo J (Zo J (oBuildSlice1 J J J J J ZP J (fun b30=>?_))))))
 refine oApp1 (boundE l i s) rfl rfl rfl rfl ZP ZP (by rw [hbe];rfl) ZO rfl (fun g31 cp31=>?_)
 rw [show (boundL l i (syms.take j)).length+1=(boundL l i (syms.take (j+1))).length by rw [hbs,List.length_append];rfl,← hbs]
 refine Zp J (Zn (Zzd ?_))
 refine Zp J (Zn (Za ?_))
 exact ⟨rfl,(j+1,some ⟨g31,0,none⟩,cp31),by show j+1≤_;omega,by show syms.length-(j+1)<syms.length-j;omega,cv,Lh⟩
 refine Zm (Zzf ?_)
 obtain rfl:j=syms.length:=by omega
 rw [List.take_length]
 exact ⟨(A2,c2),trivial,rfl,Lh⟩
theorem ref24_name {B:Base}{w:World}(hS:St B [] w) (o:ApiObject) (oc:List Value) (ho:kApiObject.K B.e o oc) (hg:GoodO o) (item:Int) (hd:0≤definerF o item) :
 CW 136 #[.agg oc.toArray,.int .i64 item] w (Ret B (fun _:Unit=>True) (fun _=>.string (nameI o item)) (fun _=>[])):=by
 obtain ⟨A0,c0,A1,c1,A2,c2,rfl,m0,q0,m1,q1,m2,q2⟩:=kApiObject_open ho
 obtain ⟨k,x,hk,hx,-⟩:=definer_at hd
 have hkl:=(List.getElem?_eq_some_iff.1 hx).1
 obtain ⟨e1,cs1,hE⟩:=q0.elm hx
 obtain rfl:=kApiSymbol_open hE.K
 have hni:nameI o item=x.fName:=by unfold nameI;rw [hk,Int.toNat_natCast,List.getD_eq_getElem?_getD,hx];rfl
 rw [hni]
 refine ZX Tryz.func136 hS ?_
 refine Zh (Zi (oBox J ZP (fun b2=>?_)))
 refine Zp J (Zn (Za (Zh (wDrawG J [0,1,2,3] [(4,[0,1],[5,6,7])] [8] 24 ZK J J (fun w0=>?_)))))
 refine Zz (n:=0) (m:=0) J J J (Zld ?_)
 refine Zla ?_
 refine Zo J (Z4 (Z5 J ?_))
 (refine ZC0 rfl ZK (fun w hS=>frame hS ZQ (fun B' hB hS'=>ref19_Definer hS' o _ (kApiObject.K_grow hB ho) hg item)) ?_;rintro ⟨⟩ -)
 rw [hk]
 refine ZG ?_ J (fun w0=>?_)
 refine Z8 J J J J (fun w0=>?_) ?_
 refine Zz (n:=0) (m:=0) J J J ?_
 exact Z9 rfl
 refine Z8 J J J J (fun w0=>?_) ?_
 refine Zld ?_
 exact Z9 rfl
 exact AgainG.nil
 refine oIdxE J J (hE) ZO J J ?_
 have hc10:=(hE).cell
 refine ZF (ZT 0) (ZT 0) ?_
 refine Zlx hc10 ?_
 refine Z6 (Zza ?_)
 exact ⟨(),trivial,rfl,Lh⟩
theorem elm_grow {α:Type}{kd:Kd α}{W W':World}{A:Option Addr}{i:Nat}{u:α}{e:Addr}{cs:List Value}(h:Elm kd W A i u e cs) (g:Grow W W'):Elm kd W' A i u e cs:=⟨h.at_,kd.K_grow g h.K,fun j v hv=>g _ _ (h.cell j v hv)⟩
theorem kFunT_mk {W:World}{i k:Int}{s:ByteArray}{f:ApiFunc}{fc:List Value}{u:Hdr}(h:kApiFunc.K W f fc):kFunT.K W (i,k,s,f,u) (.int .i64 i :: .int .i64 k :: .string s :: (fc++[hV u])):=⟨_,_,rfl,rfl,_,_,rfl,rfl,_,_,rfl,rfl,_,_,rfl,h,rfl⟩
theorem kDatT_mk {W:World}{i k:Int}{s:ByteArray}{f:ApiData}{fc:List Value}{u:Hdr}(h:kApiData.K W f fc):kDatT.K W (i,k,s,f,u) (.int .i64 i :: .int .i64 k :: .string s :: (fc++[hV u])):=⟨_,_,rfl,rfl,_,_,rfl,rfl,_,_,rfl,rfl,_,_,rfl,h,rfl⟩
theorem symsF_take {f:ApiFunc}{j:Nat}(hj:j<f.fCode.length):(symsF f).take (j+1)=(symsF f).take j++[symF f (j:Int)]:=by
 have:(symsF f)[j]?=some (symF f (j:Int)):=rmap_at (e:=fun j:Nat=>symF f (j:Int)) hj
 rw [List.take_add_one,this];rfl
theorem symsF_all (f:ApiFunc):(symsF f).take f.fCode.length=symsF f:=by rw [← symsF_len f,List.take_length]
theorem sum_funs {l:List ApiObject}(h:FewO l) (n:Nat):(funsTo l n).length≤20 * n:=by rw [funsTo_len];exact sumO_le h n
theorem sum_dats {l:List ApiObject}(h:FewO l) (n:Nat):(datsTo l n).length≤20 * n:=by rw [datsTo_len];exact sumO_le h n
theorem ref24_program {B:Base}{w:World}(hS:St B [] w) (A:Option Addr) (cp:Nat) (l:List ApiObject) (W0:World) (hW:Grow W0 B.e) (hC0:kApiObject.C W0 A l) (hv:∀ o ∈ l,vApiObject o) (hok:OkL l) :
 CW 72 #[.slice A l.length cp] w (Ret B (fun z:PZ=>z.ok∧funsOf z.ft z.fr=funsTo l l.length∧datsOf z.dt z.dr=datsTo l l.length) (fun z=>.agg (z.cells 0).toArray) (fun z=>[row kFunT W0 49 (.slice z.Af z.ft.length z.cf) z.ft,bun (rws (Kd.int .i64) W0 3 (z.ft.map hdT) z.fr),row kDatT W0 98 (.slice z.Ad z.dt.length z.cd) z.dt,bun (rws (Kd.int .i64) W0 3 (z.dt.map hdT) z.dr)])):=by
 have hsm:=hok.few
 have hln:=hsm.len
 have hC:=Kd.C_grow hW hC0
 refine ZX Tryz.func72 hS ?_
 refine Zh (Zi (oAlloc J ZP (fun b2=>?_)))
 refine Zn (Za (Zh (Zi (oAlloc J ZP (fun b3=>?_)))))
 refine Zn (Za (Zh (Zh (Zi (Zp J (Zn (Za (Zk (wLoop (ι:=Nat×PZ) (fun x=>[(0,.slice A l.length cp),(2,.pointer (some ⟨b2,0,none⟩)),(3,.pointer (some ⟨b3,0,none⟩)),(4,.int .i64 (x.1:Int))]) (fun x=>[blk b2 29 [.slice none 0 0,.slice none 0 0,.int .i64 0],blk b3 29 (x.2.cells 0),row kFunT W0 49 (.slice x.2.Af x.2.ft.length x.2.cf) x.2.ft,bun (rws (Kd.int .i64) W0 3 (x.2.ft.map hdT) x.2.fr),row kDatT W0 98 (.slice x.2.Ad x.2.dt.length x.2.cd) x.2.dt,bun (rws (Kd.int .i64) W0 3 (x.2.dt.map hdT) x.2.dr)]) (fun x=>x.1≤l.length∧x.2.ok∧funsOf x.2.ft x.2.fr=funsTo l x.1∧datsOf x.2.dt x.2.dr=datsTo l x.1) (fun x=>l.length-x.1) (0,⟨none,0,[],[],none,0,[],[]⟩) ?_ cv (Leads.nilrow.trans (bun_nil.trans (Leads.nilrow.trans (bun_nil.trans Lh)))) ?_)))))))))
 exact ⟨Nat.zero_le _,⟨rfl,rfl⟩,rfl,rfl⟩
 rintro ⟨i,z⟩ ⟨hi,hz,hzf,hzd⟩
 dsimp only at hi hz hzf hzd
 try dsimp only
 refine Zh (Zh (Zi (Zo J (Zo J (Zv J J (Zx J J (Zn (Za (wC (fun h13=>?_) (fun h13=>?_))))))))))
 obtain ⟨o,ho⟩:∃ o,l[i]?=some o:=⟨_,List.getElem?_eq_getElem ZO⟩
 have hom:=List.mem_of_getElem? ho
 have hg:=hsm.one hv hom
 have hg0:=hg.syms
 have hg1:=hg.funcs
 have hg2:=hg.datas
 have hoz:=obj_zero (hok.objs o hom)
 have hoa:=objAt_eq ho
 have hil:i<l.length:=by omega
 obtain ⟨e1,cs1,hE⟩:=hC0.elm ho
 obtain ⟨B0,d0,B1,d1,B2,d2,rfl,m0,q0,m1,q1,m2,q2⟩:=kApiObject_open hE.K
 refine Zj (Za (Zh (Zk (Zh (Zi (Zo J (Zo J (oIdxE J J (elm_grow hE hW) ZO J J ?_))))))))
 have hc18:=(elm_grow hE hW).cell
 refine Zlx hc18 ?_
 refine oAlloc J ZP (fun b5=>?_)
 refine Zsa ?_
 refine Zn (Za (Zh (Zh (Zi (Zp J (Zn (Za (Zk (wLoop (ι:=Nat×PZ) (fun x=>[(0,.slice A l.length cp),(2,.pointer (some ⟨b2,0,none⟩)),(3,.pointer (some ⟨b3,0,none⟩)),(4,.int .i64 (i:Int)),(5,.pointer (some ⟨b5,0,none⟩)),(6,.int .i64 (x.1:Int))]) (fun x=>[blk b2 29 [.slice none 0 0,.slice none 0 0,.int .i64 0],blk b3 29 (x.2.cells 0),row kFunT W0 49 (.slice x.2.Af x.2.ft.length x.2.cf) x.2.ft,bun (rws (Kd.int .i64) W0 3 (x.2.ft.map hdT) x.2.fr),row kDatT W0 98 (.slice x.2.Ad x.2.dt.length x.2.cd) x.2.dt,bun (rws (Kd.int .i64) W0 3 (x.2.dt.map hdT) x.2.dr),blk b5 79 [.slice B0 o.fSymbols.length d0,.slice B1 o.fFuncs.length d1,.slice B2 o.fDatas.length d2]]) (fun x=>x.1≤o.fFuncs.length∧x.2.ok∧funsOf x.2.ft x.2.fr=funsTo l i++(List.range x.1).map (mkFun l i)∧datsOf x.2.dt x.2.dr=datsTo l i) (fun x=>o.fFuncs.length-x.1) (0,z) ?_ cv Lh ?_)))))))))
 exact ⟨Nat.zero_le _,hz,by show funsOf z.ft z.fr=_;rw [hzf];simp,hzd⟩
 rintro ⟨k,z⟩ ⟨hk,hz,hzf,hzd⟩
 dsimp only at hk hz hzf hzd
 have hzl:z.ft.length≤1000:=by have h1:=congrArg List.length hzf;unfold funsOf at h1;rw [zip_len hz.f,List.length_append,List.length_map,List.length_range] at h1;have:=sum_funs hsm i;omega
 try dsimp only
 refine Zh (Zh (Zi (Zo J (Zz (n:=1) (m:=1) J J J (Zld ?_)))))
 refine Zv J J (Zx J J (Zn (Za (wC (fun h24=>?_) (fun h24=>?_)))))
 obtain ⟨f,hf⟩:∃ f,o.fFuncs[k]?=some f:=⟨_,List.getElem?_eq_getElem ZO⟩
 have hfm:=List.mem_of_getElem? hf
 have hgf:=hg.fun_ f hfm
 have hfz:=item_fun (hoz.2.2 k ZO) hf
 have hfg:funAt l i k=f:=by unfold funAt;rw [hoa,List.getD_eq_getElem?_getD,hf];rfl
 have hmk:∀ u:Hdr,mkFun l i k=mkF ((i:Int),(k:Int),nameI o (k:Int),f,u) (boundL l i (symsF f)):=fun u=>by unfold mkFun;rw [hoa,hfg];rfl
 obtain ⟨e3,cs3,hE3⟩:=q1.elm hf
 obtain ⟨F0,f0,F1,f1,F2,f2,F3,f3,rfl,n0,r0,n1,r1,n2,r2,n3,r3⟩:=kApiFunc_open hE3.K
 have hsl:=symsF_len f
 have hkf:k<o.fFuncs.length:=by omega
 refine Zj (Za (Zh (Zk (Zh (Zi (Zp J (Zn (Za (Zh (Zh (Zi (Zp J (Zn (Za (Zk (wLoop (ι:=Nat×Option Addr×Nat) (fun x=>[(0,.slice A l.length cp),(2,.pointer (some ⟨b2,0,none⟩)),(3,.pointer (some ⟨b3,0,none⟩)),(4,.int .i64 (i:Int)),(5,.pointer (some ⟨b5,0,none⟩)),(6,.int .i64 (k:Int)),(7,.slice x.2.1 ((symsF f).take x.1).length x.2.2),(8,.int .i64 (x.1:Int))]) (fun x=>[blk b2 29 [.slice none 0 0,.slice none 0 0,.int .i64 0],blk b3 29 (z.cells 0),row kFunT W0 49 (.slice z.Af z.ft.length z.cf) z.ft,bun (rws (Kd.int .i64) W0 3 (z.ft.map hdT) z.fr),row kDatT W0 98 (.slice z.Ad z.dt.length z.cd) z.dt,bun (rws (Kd.int .i64) W0 3 (z.dt.map hdT) z.dr),blk b5 79 [.slice B0 o.fSymbols.length d0,.slice B1 o.fFuncs.length d1,.slice B2 o.fDatas.length d2],row (Kd.int .i64) W0 3 (.slice x.2.1 ((symsF f).take x.1).length x.2.2) ((symsF f).take x.1)]) (fun x=>x.1≤f.fCode.length) (fun x=>f.fCode.length-x.1) (0,none,0) ?_ cv (Leads.nilrow.trans Lh) ?_))))))))))))))))
 exact Nat.zero_le _
 rintro ⟨j,A7,c7⟩ hj
 dsimp only at hj
 have htl:((symsF f).take j).length≤1000:=by rw [List.length_take];omega
 try dsimp only
 refine Zh (Zh (Zi (Zo J (Zz (n:=1) (m:=1) J J J (Zld ?_)))))
 refine Zo J (oIdxE J J (elm_grow hE3 hW) ZO J J ?_)
 have hc31:=(elm_grow hE3 hW).cell
 refine ZF (ZT 7) (ZT 7) ?_
 refine Zlx hc31 ?_
 refine Zv J J (Zx J J (Zn (Za (wC (fun h35=>?_) (fun h35=>?_)))))
 refine Zj (Za (Zh (Zk (Zi (Zo J (Zz (n:=1) (m:=1) J J J (Zld ?_)))))))
 refine Zo J (oIdxE J J (elm_grow hE3 hW) ZO J J ?_)
 have hc42:=(elm_grow hE3 hW).cell
 refine Zlx hc42 ?_
 refine Zo J ?_
 (refine ZC0 rfl ZK (fun w hS=>frame hS ZQ (fun B' hB hS'=>ref17_Sym hS' f _ (kApiFunc_mk _ f n0 (Kd.C_grow (hW.trans hB) r0) n1 (Kd.C_grow (hW.trans hB) r1) n2 (Kd.C_grow (hW.trans hB) r2) n3 (Kd.C_grow (hW.trans hB) r3)) (j:Int))) ?_;rintro ⟨⟩ -)
 refine oBuildSlice1 J J J J J ZP J (fun b46=>?_)
 refine oApp1 (symF f (j:Int)) J J J J ZP ZP J ZO J (fun g47 cp47=>?_)
 rw [show ((symsF f).take j).length+1=((symsF f).take (j+1)).length by rw [symsF_take ZO,List.length_append];rfl,← symsF_take ZO]
 refine Zp J (Zn (Zzd ?_))
 refine Zp J (Zn (Za ?_))
 exact ⟨rfl,(j+1,some ⟨g47,0,none⟩,cp47),by show j+1≤_;omega,by show f.fCode.length-(j+1)<f.fCode.length-j;omega,cv,Lh⟩
 obtain rfl:j=f.fCode.length:=by omega
 rw [symsF_all]
 refine Zm (Zb (Zb (Ze (Za (wDrawG J [0,1,2,3,4,5,7,8,9,10,11,12,13,14] [(6,[0,1,2,3,7,8,9,10,11,12,13,14],[]),(15,[0,1,2,3,7,8,9,10,11],[16]),(17,[0,1],[]),(18,[],[])] [19,20] 24 ZK J J (fun w0=>?_))))))
 refine Zz (n:=0) (m:=0) J J J (Zld ?_)
 refine Zo J (Zo J (Zla ?_))
 refine Zo J (Zz (n:=1) (m:=1) J J J (Zld ?_))
 refine Zo J (oIdxE J J (elm_grow hE3 hW) ZO J J ?_)
 have hc58:=(elm_grow hE3 hW).cell
 refine Zlx hc58 ?_
 refine Zo J (Zo J (Zo J (Z4 (Z5 J ?_))))
 (refine ZC0 rfl ZK (fun w hS=>frame hS ZQ (fun B' hB hS'=>ref24_name hS' o _ (kApiObject_mk _ o m0 (Kd.C_grow (hW.trans hB) q0) m1 (Kd.C_grow (hW.trans hB) q1) m2 (Kd.C_grow (hW.trans hB) q2)) hg (k:Int) hfz.1)) ?_;rintro ⟨⟩ -)
 refine ZG ?_ J (fun w0=>?_)
 refine Z8 J J J J (fun w0=>?_) ?_
 refine Zz (n:=0) (m:=0) J J J ?_
 exact Z9 rfl
 refine Z8 J J J J (fun w0=>?_) ?_
 refine Zld ?_
 exact Z9 rfl
 refine Z8 J J J J (fun w0=>?_) ?_
 refine Zo J ?_
 exact Z9 rfl
 refine Z8 J J J J (fun w0=>?_) ?_
 refine Zo J ?_
 exact Z9 rfl
 refine Z8 J J J J (fun w0=>?_) ?_
 refine Zz (n:=1) (m:=1) J J J ?_
 exact Z9 rfl
 refine Z8 J J J J (fun w0=>?_) ?_
 refine Zld ?_
 exact Z9 rfl
 refine Z8 J J J J (fun w0=>?_) ?_
 refine Zo J ?_
 exact Z9 rfl
 refine Z8 J J J J (fun w0=>?_) ?_
 refine oIdxE J J (elm_grow hE3 hW) ZO J J ?_
 have hc58:=(elm_grow hE3 hW).cell
 exact Z9 rfl
 refine Z8 J J J J (fun w0=>?_) ?_
 refine Zlx hc58 ?_
 exact Z9 rfl
 refine Z8 J J J J (fun w0=>?_) ?_
 refine Zo J ?_
 exact Z9 rfl
 refine Z8 J J J J (fun w0=>?_) ?_
 refine Zo J ?_
 exact Z9 rfl
 refine Z8 J J J J (fun w0=>?_) ?_
 refine Zo J ?_
 exact Z9 rfl
 exact AgainG.nil
 refine Z4 (Z5 J ?_)
 (refine ZD J (fun w B' hB hR hS'=>ref24_bound hS' A cp l (Kd.C_grow hB hC) hsm i A7 c7 (symsF f) (row_Cs (W:=W0) (e:=3) (n:=(symsF f).length) (cp:=c7) (hR _ _ ZP)) ZO (hok.syms ho (syms_in hfz.2.2.1)) W0) ?_;rintro ⟨A63,c63⟩ -)
 refine ZG ?_ J (fun w0=>?_)
 refine Z8 J J J J (fun w0=>?_) ?_
 refine Zz (n:=0) (m:=0) J J J ?_
 exact Z9 rfl
 refine Z8 J J J J (fun w0=>?_) ?_
 refine Zld ?_
 exact Z9 rfl
 refine Z8 J J J J (fun w0=>?_) ?_
 refine Zo J ?_
 exact Z9 rfl
 refine Z8 J J J J (fun w0=>?_) ?_
 refine Zo J ?_
 exact Z9 rfl
 refine Z8 J J J J (fun w0=>?_) ?_
 refine Zz (n:=1) (m:=1) J J J ?_
 exact Z9 rfl
 refine Z8 J J J J (fun w0=>?_) ?_
 refine Zld ?_
 exact Z9 rfl
 refine Z8 J J J J (fun w0=>?_) ?_
 refine Zo J ?_
 exact Z9 rfl
 refine Z8 J J J J (fun w0=>?_) ?_
 refine oIdxE J J (elm_grow hE3 hW) ZO J J ?_
 have hc58:=(elm_grow hE3 hW).cell
 exact Z9 rfl
 refine Z8 J J J J (fun w0=>?_) ?_
 refine Zlx hc58 ?_
 exact Z9 rfl
 exact AgainG.nil
 refine oBuild (Parts.cons J (Parts.cons J (Parts.cons J (Parts.cons J (Parts.cons J Parts.nil))))) J J (Built.cons (off:=0) (s:=1) J ZP J ZP (Built.cons (off:=1) (s:=1) J ZP J ZP (Built.cons (off:=2) (s:=1) J ZP J ZP (Built.cons (off:=3) (s:=9) J ZP J ZP (Built.cons (off:=12) (s:=1) J ZP J ZP Built.nil))))) ?_
 refine Z4 (Z5 J (oBuildSlice1 J J J J J ZP J (fun b65=>?_)))
 refine ZG ?_ J (fun w0=>?_)
 refine Z8 J J J J (fun w0=>?_) ?_
 refine Zz (n:=0) (m:=0) J J J ?_
 exact Z9 rfl
 refine Z8 J J J J (fun w0=>?_) ?_
 refine Zld ?_
 exact Z9 rfl
 exact AgainG.nil
 refine Z4 (Z5 J (oApp1 (kd:=kFunT) (W:=W0) (xs:=z.ft) ((i:Int),(k:Int),nameI o (k:Int),f,(A63,(boundL l i (symsF f)).length,c63)) J J J J ZP ZP (kFunT_mk (kApiFunc_mk _ f n0 r0 n1 r1 n2 r2 n3 r3)) ZO J (fun g66 cp66=>?_)))
 rw [show z.ft.length+1=(z.ft++[((i:Int),(k:Int),nameI o (k:Int),f,(A63,(boundL l i (symsF f)).length,c63))]).length by rw [List.length_append];rfl]
 refine oSnoc (kd:=Kd.int .i64) (W:=W0) (ei:=3) (u:=(A63,(boundL l i (symsF f)).length,c63)) (l:=boundL l i (symsF f)) (hs:=z.ft.map hdT) (xss:=z.fr) ZP ZP (by rw [List.length_map];exact hz.f) ?_
 rw [show z.ft.map hdT++[(A63,(boundL l i (symsF f)).length,c63)]=(z.ft++[((i:Int),(k:Int),nameI o (k:Int),f,(A63,(boundL l i (symsF f)).length,c63))]).map hdT by rw [List.map_append];rfl]
 refine ZG ?_ J (fun w0=>?_)
 exact AgainG.nil
 refine Z6 (Zz (n:=0) (m:=0) J J J (Zst ?_))
 refine Zn (Zzd ?_)
 refine Zp J (Zn (Za ?_))
 exact ⟨rfl,(k+1,⟨some ⟨g66,0,none⟩,cp66,z.ft++[((i:Int),(k:Int),nameI o (k:Int),f,(A63,(boundL l i (symsF f)).length,c63))],z.fr++[boundL l i (symsF f)],z.Ad,z.cd,z.dt,z.dr⟩),⟨by show k+1≤_;omega,⟨by show (z.ft++[_]).length=(z.fr++[_]).length;rw [List.length_append,List.length_append,hz.f];rfl,hz.d⟩,by show funsOf (z.ft++[_]) (z.fr++[_])=_;unfold funsOf;rw [zip_snoc hz.f,← hmk (A63,(boundL l i (symsF f)).length,c63)];rw [show List.zipWith mkF z.ft z.fr=funsOf z.ft z.fr from rfl,hzf,List.append_assoc,List.range_succ,List.map_append];rfl,hzd⟩,by show o.fFuncs.length-(k+1)<o.fFuncs.length-k;omega,cv,Lh⟩
 obtain rfl:k=o.fFuncs.length:=by omega
 have hzf:funsOf z.ft z.fr=funsTo l (i+1):=by rw [hzf,funsTo_succ];unfold fileFuns;rw [hoa]
 refine Zm (Zb (Zb (Ze (Za (Zh (Zi (Zp J (Zn (Za (Zk (wLoop (ι:=Nat×PZ) (fun x=>[(0,.slice A l.length cp),(2,.pointer (some ⟨b2,0,none⟩)),(3,.pointer (some ⟨b3,0,none⟩)),(4,.int .i64 (i:Int)),(5,.pointer (some ⟨b5,0,none⟩)),(9,.int .i64 (x.1:Int))]) (fun x=>[blk b2 29 [.slice none 0 0,.slice none 0 0,.int .i64 0],blk b3 29 (x.2.cells 0),row kFunT W0 49 (.slice x.2.Af x.2.ft.length x.2.cf) x.2.ft,bun (rws (Kd.int .i64) W0 3 (x.2.ft.map hdT) x.2.fr),row kDatT W0 98 (.slice x.2.Ad x.2.dt.length x.2.cd) x.2.dt,bun (rws (Kd.int .i64) W0 3 (x.2.dt.map hdT) x.2.dr),blk b5 79 [.slice B0 o.fSymbols.length d0,.slice B1 o.fFuncs.length d1,.slice B2 o.fDatas.length d2]]) (fun x=>x.1≤o.fDatas.length∧x.2.ok∧funsOf x.2.ft x.2.fr=funsTo l (i+1)∧datsOf x.2.dt x.2.dr=datsTo l i++(List.range x.1).map (mkDat l i)) (fun x=>o.fDatas.length-x.1) (0,z) ?_ cv Lh ?_)))))))))))
 exact ⟨Nat.zero_le _,hz,hzf,by show datsOf z.dt z.dr=_;rw [hzd];simp⟩
 rintro ⟨k,z⟩ ⟨hk,hz,hzf,hzd⟩
 dsimp only at hk hz hzf hzd
 have hzl:z.dt.length≤1000:=by have h1:=congrArg List.length hzd;unfold datsOf at h1;rw [zip_len hz.d,List.length_append,List.length_map,List.length_range] at h1;have:=sum_dats hsm i;omega
 try dsimp only
 refine Zh (Zh (Zi (Zo J (Zz (n:=2) (m:=2) J J J (Zld ?_)))))
 refine Zv J J (Zx J J (Zn (Za (wC (fun h72=>?_) (fun h72=>?_)))))
 obtain ⟨d,hd⟩:∃ d,o.fDatas[k]?=some d:=⟨_,List.getElem?_eq_getElem ZO⟩
 have hdm:=List.mem_of_getElem? hd
 have hgd:=hg.data d hdm
 have hdz:=item_dat (hoz.2.2 (o.fFuncs.length+k) ZO) hd
 have hdg:datAt l i k=d:=by unfold datAt;rw [hoa,List.getD_eq_getElem?_getD,hd];rfl
 have hmk:∀ u:Hdr,mkDat l i k=mkD ((i:Int),((o.fFuncs.length+k:Nat):Int),nameI o ((o.fFuncs.length+k:Nat):Int),d,u) (boundL l i (refsD d)):=fun u=>by unfold mkDat;rw [hoa,hdg];rfl
 obtain ⟨e3,cs3,hE3⟩:=q2.elm hd
 obtain ⟨F0,f0,F1,f1,rfl,n0,r0,n1,r1⟩:=kApiData_open hE3.K
 have hrl:(refsD d).length=d.fWords.length:=(refsD_len d).trans (marksL_len _ _)
 have hkd:k<o.fDatas.length:=by omega
 refine Zj (Za (Zh (Zk (wDrawG J [0,1,2,3,4,5,6,7,8,9,10,11,12,13,15,16,17,18,19,20,21,22,23,24,25,26] [(14,[0,1,2,3,4,5,6,7,15,16,17,18,19,20,21,22,23,24,25,26],[]),(27,[0,1,2,3,4,5,6,7,15,16,17,18,19,20,21],[]),(28,[0,1,2,3,4,5,6,7,15,16,17,18,19],[29]),(30,[0,1],[]),(31,[],[])] [32,33] 24 ZK J J (fun w0=>?_)))))
 refine Zz (n:=1) (m:=1) J J J (Zld ?_)
 refine Zo J (Zz (n:=1) (m:=1) J J J (Zld ?_))
 refine Zv J J (Zo J (oAdd J J ZO ?_))
 refine ZS0 (t:=82) (v':=.int .i64 ((o.fFuncs.length+k:Nat):Int)) J (by congr 1) ?_
 refine Zla ?_
 refine Zz (n:=1) (m:=1) J J J (Zld ?_)
 refine Zv J J (Zo J (oAdd J J ZO ?_))
 refine ZS0 (t:=88) (v':=.int .i64 ((o.fFuncs.length+k:Nat):Int)) J (by congr 1) ?_
 refine Zz (n:=2) (m:=2) J J J (Zld ?_)
 refine Zo J (oIdxE J J (elm_grow hE3 hW) ZO J J ?_)
 have hc93:=(elm_grow hE3 hW).cell
 refine Zlx hc93 ?_
 refine Zo J (Zo J (Zz (n:=2) (m:=2) J J J (Zld ?_)))
 refine Zo J (oIdxE J J (elm_grow hE3 hW) ZO J J ?_)
 have hc100:=(elm_grow hE3 hW).cell
 refine Zlx hc100 ?_
 refine Z4 (Z5 J ?_)
 (refine ZC0 rfl ZK (fun w hS=>frame hS ZQ (fun B' hB hS'=>ref24_name hS' o _ (kApiObject_mk _ o m0 (Kd.C_grow (hW.trans hB) q0) m1 (Kd.C_grow (hW.trans hB) q1) m2 (Kd.C_grow (hW.trans hB) q2)) hg ((o.fFuncs.length+k:Nat):Int) hdz.1)) ?_;rintro ⟨⟩ -)
 refine ZG ?_ J (fun w0=>?_)
 refine Z8 J J J J (fun w0=>?_) ?_
 refine Zz (n:=1) (m:=1) J J J ?_
 exact Z9 rfl
 refine Z8 J J J J (fun w0=>?_) ?_
 refine Zld ?_
 exact Z9 rfl
 refine Z8 J J J J (fun w0=>?_) ?_
 refine Zo J ?_
 exact Z9 rfl
 refine Z8 J J J J (fun w0=>?_) ?_
 refine Zz (n:=1) (m:=1) J J J ?_
 exact Z9 rfl
 refine Z8 J J J J (fun w0=>?_) ?_
 refine Zld ?_
 exact Z9 rfl
 refine Z8 J J J J (fun w0=>?_) ?_
 refine Zv J J ?_
 exact Z9 rfl
 refine Z8 J J J J (fun w0=>?_) ?_
 refine Zo J ?_
 exact Z9 rfl
 refine Z8 J J J J (fun w0=>?_) ?_
 refine oAdd J J ZO ?_
 refine ZS0 (t:=82) (v':=.int .i64 ((o.fFuncs.length+k:Nat):Int)) J (by congr 1) ?_
 exact Z9 rfl
 refine Z8 J J J J (fun w0=>?_) ?_
 refine Zz (n:=2) (m:=2) J J J ?_
 exact Z9 rfl
 refine Z8 J J J J (fun w0=>?_) ?_
 refine Zld ?_
 exact Z9 rfl
 refine Z8 J J J J (fun w0=>?_) ?_
 refine Zo J ?_
 exact Z9 rfl
 refine Z8 J J J J (fun w0=>?_) ?_
 refine oIdxE J J (elm_grow hE3 hW) ZO J J ?_
 have hc93:=(elm_grow hE3 hW).cell
 exact Z9 rfl
 refine Z8 J J J J (fun w0=>?_) ?_
 refine Zlx hc93 ?_
 exact Z9 rfl
 refine Z8 J J J J (fun w0=>?_) ?_
 refine Zo J ?_
 exact Z9 rfl
 refine Z8 J J J J (fun w0=>?_) ?_
 refine Zo J ?_
 exact Z9 rfl
 refine Z8 J J J J (fun w0=>?_) ?_
 refine Zz (n:=2) (m:=2) J J J ?_
 exact Z9 rfl
 refine Z8 J J J J (fun w0=>?_) ?_
 refine Zld ?_
 exact Z9 rfl
 refine Z8 J J J J (fun w0=>?_) ?_
 refine Zo J ?_
 exact Z9 rfl
 refine Z8 J J J J (fun w0=>?_) ?_
 refine oIdxE J J (elm_grow hE3 hW) ZO J J ?_
 have hc100:=(elm_grow hE3 hW).cell
 exact Z9 rfl
 refine Z8 J J J J (fun w0=>?_) ?_
 refine Zlx hc100 ?_
 exact Z9 rfl
 exact AgainG.nil
 refine Z4 (Z5 J ?_)
 (refine ZC0 rfl ZK (fun w hS=>frame hS ZQ (fun B' hB hS'=>ref15_Refs hS' d _ (kApiData_mk _ d n0 (Kd.C_grow (hW.trans hB) r0) n1 (Kd.C_grow (hW.trans hB) r1)) ZO ZO W0)) ?_;rintro ⟨A102,c102⟩ -)
 refine ZS0 (t:=102) (v':=.slice A102 (refsD d).length c102) rfl (by rw [hrl]) ?_
 refine ZG ?_ J (fun w0=>?_)
 refine Z8 J J J J (fun w0=>?_) ?_
 refine Zz (n:=1) (m:=1) J J J ?_
 exact Z9 rfl
 refine Z8 J J J J (fun w0=>?_) ?_
 refine Zld ?_
 exact Z9 rfl
 refine Z8 J J J J (fun w0=>?_) ?_
 refine Zo J ?_
 exact Z9 rfl
 refine Z8 J J J J (fun w0=>?_) ?_
 refine Zz (n:=1) (m:=1) J J J ?_
 exact Z9 rfl
 refine Z8 J J J J (fun w0=>?_) ?_
 refine Zld ?_
 exact Z9 rfl
 refine Z8 J J J J (fun w0=>?_) ?_
 refine Zv J J ?_
 exact Z9 rfl
 refine Z8 J J J J (fun w0=>?_) ?_
 refine Zo J ?_
 exact Z9 rfl
 refine Z8 J J J J (fun w0=>?_) ?_
 refine oAdd J J ZO ?_
 refine ZS0 (t:=82) (v':=.int .i64 ((o.fFuncs.length+k:Nat):Int)) J (by congr 1) ?_
 exact Z9 rfl
 refine Z8 J J J J (fun w0=>?_) ?_
 refine Zz (n:=2) (m:=2) J J J ?_
 exact Z9 rfl
 refine Z8 J J J J (fun w0=>?_) ?_
 refine Zld ?_
 exact Z9 rfl
 refine Z8 J J J J (fun w0=>?_) ?_
 refine Zo J ?_
 exact Z9 rfl
 refine Z8 J J J J (fun w0=>?_) ?_
 refine oIdxE J J (elm_grow hE3 hW) ZO J J ?_
 have hc93:=(elm_grow hE3 hW).cell
 exact Z9 rfl
 refine Z8 J J J J (fun w0=>?_) ?_
 refine Zlx hc93 ?_
 exact Z9 rfl
 refine Z8 J J J J (fun w0=>?_) ?_
 refine Zo J ?_
 exact Z9 rfl
 refine Z8 J J J J (fun w0=>?_) ?_
 refine Zo J ?_
 exact Z9 rfl
 exact AgainG.nil
 refine Z4 (Z5 J ?_)
 (refine ZD J (fun w B' hB hR hS'=>ref24_bound hS' A cp l (Kd.C_grow hB hC) hsm i A102 c102 (refsD d) (row_Cs (W:=W0) (e:=3) (n:=d.fWords.length) (cp:=c102) (hR _ _ ZP)) ZO (hok.syms ho (refs_in hdz.2.2)) W0) ?_;rintro ⟨A103,c103⟩ -)
 refine ZG ?_ J (fun w0=>?_)
 refine Z8 J J J J (fun w0=>?_) ?_
 refine Zz (n:=1) (m:=1) J J J ?_
 exact Z9 rfl
 refine Z8 J J J J (fun w0=>?_) ?_
 refine Zld ?_
 exact Z9 rfl
 refine Z8 J J J J (fun w0=>?_) ?_
 refine Zo J ?_
 exact Z9 rfl
 refine Z8 J J J J (fun w0=>?_) ?_
 refine Zz (n:=1) (m:=1) J J J ?_
 exact Z9 rfl
 refine Z8 J J J J (fun w0=>?_) ?_
 refine Zld ?_
 exact Z9 rfl
 refine Z8 J J J J (fun w0=>?_) ?_
 refine Zv J J ?_
 exact Z9 rfl
 refine Z8 J J J J (fun w0=>?_) ?_
 refine Zo J ?_
 exact Z9 rfl
 refine Z8 J J J J (fun w0=>?_) ?_
 refine oAdd J J ZO ?_
 refine ZS0 (t:=82) (v':=.int .i64 ((o.fFuncs.length+k:Nat):Int)) J (by congr 1) ?_
 exact Z9 rfl
 refine Z8 J J J J (fun w0=>?_) ?_
 refine Zz (n:=2) (m:=2) J J J ?_
 exact Z9 rfl
 refine Z8 J J J J (fun w0=>?_) ?_
 refine Zld ?_
 exact Z9 rfl
 refine Z8 J J J J (fun w0=>?_) ?_
 refine Zo J ?_
 exact Z9 rfl
 refine Z8 J J J J (fun w0=>?_) ?_
 refine oIdxE J J (elm_grow hE3 hW) ZO J J ?_
 have hc93:=(elm_grow hE3 hW).cell
 exact Z9 rfl
 refine Z8 J J J J (fun w0=>?_) ?_
 refine Zlx hc93 ?_
 exact Z9 rfl
 exact AgainG.nil
 refine oBuild (Parts.cons J (Parts.cons J (Parts.cons J (Parts.cons J (Parts.cons J Parts.nil))))) J J (Built.cons (off:=0) (s:=1) J ZP J ZP (Built.cons (off:=1) (s:=1) J ZP J ZP (Built.cons (off:=2) (s:=1) J ZP J ZP (Built.cons (off:=3) (s:=3) J ZP J ZP (Built.cons (off:=6) (s:=1) J ZP J ZP Built.nil))))) ?_
 refine Z4 (Z5 J (oBuildSlice1 J J J J J ZP J (fun b105=>?_)))
 refine ZG ?_ J (fun w0=>?_)
 refine Z8 J J J J (fun w0=>?_) ?_
 refine Zz (n:=1) (m:=1) J J J ?_
 exact Z9 rfl
 refine Z8 J J J J (fun w0=>?_) ?_
 refine Zld ?_
 exact Z9 rfl
 exact AgainG.nil
 refine Z4 (Z5 J (oApp1 (kd:=kDatT) (W:=W0) (xs:=z.dt) ((i:Int),((o.fFuncs.length+k:Nat):Int),nameI o ((o.fFuncs.length+k:Nat):Int),d,(A103,(boundL l i (refsD d)).length,c103)) J J J J ZP ZP (kDatT_mk (kApiData_mk _ d n0 r0 n1 r1)) ZO J (fun g106 cp106=>?_)))
 rw [show z.dt.length+1=(z.dt++[((i:Int),((o.fFuncs.length+k:Nat):Int),nameI o ((o.fFuncs.length+k:Nat):Int),d,(A103,(boundL l i (refsD d)).length,c103))]).length by rw [List.length_append];rfl]
 refine oSnoc (kd:=Kd.int .i64) (W:=W0) (ei:=3) (u:=(A103,(boundL l i (refsD d)).length,c103)) (l:=boundL l i (refsD d)) (hs:=z.dt.map hdT) (xss:=z.dr) ZP ZP (by rw [List.length_map];exact hz.d) ?_
 rw [show z.dt.map hdT++[(A103,(boundL l i (refsD d)).length,c103)]=(z.dt++[((i:Int),((o.fFuncs.length+k:Nat):Int),nameI o ((o.fFuncs.length+k:Nat):Int),d,(A103,(boundL l i (refsD d)).length,c103))]).map hdT by rw [List.map_append];rfl]
 refine ZG ?_ J (fun w0=>?_)
 exact AgainG.nil
 refine Z6 (Zz (n:=1) (m:=1) J J J (Zst ?_))
 refine Zn (Zzd ?_)
 refine Zp J (Zn (Za ?_))
 exact ⟨rfl,(k+1,⟨z.Af,z.cf,z.ft,z.fr,some ⟨g106,0,none⟩,cp106,z.dt++[((i:Int),((o.fFuncs.length+k:Nat):Int),nameI o ((o.fFuncs.length+k:Nat):Int),d,(A103,(boundL l i (refsD d)).length,c103))],z.dr++[boundL l i (refsD d)]⟩),⟨by show k+1≤_;omega,⟨hz.f,by show (z.dt++[_]).length=(z.dr++[_]).length;rw [List.length_append,List.length_append,hz.d];rfl⟩,hzf,by show datsOf (z.dt++[_]) (z.dr++[_])=_;unfold datsOf;rw [zip_snoc hz.d,← hmk (A103,(boundL l i (refsD d)).length,c103)];rw [show List.zipWith mkD z.dt z.dr=datsOf z.dt z.dr from rfl,hzd,List.append_assoc,List.range_succ,List.map_append];rfl⟩,by show o.fDatas.length-(k+1)<o.fDatas.length-k;omega,cv,Lh⟩
 obtain rfl:k=o.fDatas.length:=by omega
 refine Zm (Zb (Zb (Ze (Zzd ?_))))
 refine Zp J (Zn (Za ?_))
 exact ⟨rfl,(i+1,z),⟨by show i+1≤_;omega,hz,hzf,by show datsOf z.dt z.dr=_;rw [hzd,datsTo_succ];unfold fileDats;rw [hoa]⟩,by show l.length-(i+1)<l.length-i;omega,cv,Lh⟩
 obtain rfl:i=l.length:=by omega
 refine Zm (Zb (Zb (Ze (Zzk ?_))))
 refine Zsa ?_
 refine Zn (Za (Zl (Zw (ZI ?_))))
 exact ⟨z,⟨hz,hzf,hzd⟩,rfl,Lh⟩
theorem ref24_Few {B:Base}{w:World}(hS:St B [] w) (A:Option Addr) (cp:Nat) (l:List ApiObject) (hC:kApiObject.C B.e A l) :
 CW 15 #[.slice A l.length cp] w (Ret B (fun r:Bool=>r=true→FewO l) (fun r=>.bool r) (fun _=>[])):=by
 have hl:=hC.1
 refine ZX Tryz.func15 hS ?_
 refine Zh (Zi (Zp J (Zn (Za (Zh (Zh (Zi (Zp J (Zn (Za (Zk (wLoop (ι:=Nat) (fun i=>[(0,.slice A l.length cp),(3,.int .i64 (i:Int))]) (fun i=>[]) (fun i=>i≤l.length∧∀ o ∈ l.take i,FewB o) (fun i=>l.length-i) 0 ?_ cv Lh ?_))))))))))))
 exact ⟨Nat.zero_le _,by simp⟩
 rintro i ⟨hi,hs⟩
 try dsimp only
 refine Zh (Zh (Zi (Zo J (Zo J (Zv J J (Zx J J (Zn (Za (wC (fun h7=>?_) (fun h7=>?_))))))))))
 obtain ⟨o,ho⟩:∃ o,l[i]?=some o:=⟨_,List.getElem?_eq_getElem ZO⟩
 obtain ⟨e1,cs1,hE⟩:=hC.elm ho
 obtain ⟨B0,d0,B1,d1,B2,d2,rfl,m0,q0,m1,q1,m2,q2⟩:=kApiObject_open hE.K
 refine Zj (Za (Zh (Zk (Zh (Zi (Zo J (Zo J (oIdxE J J (hE) ZO J J ?_))))))))
 have hc12:=(hE).cell
 refine Zlx hc12 ?_
 (refine ZC0 rfl ZK (fun w hS=>frame hS ZQ (fun B' hB hS'=>ref19_Few hS' o _ (kApiObject_mk _ o m0 (Kd.C_grow hB q0) m1 (Kd.C_grow hB q1) m2 (Kd.C_grow hB q2)))) ?_;rintro r14 h14)
 refine Zno ?_
 refine Zn (Za (wC (fun h15=>?_) (fun h15=>?_)))
 refine Zh (Zi (Zzb ?_))
 exact ⟨false,(by intro h;cases h),rfl,Lh⟩
 refine Zj (Zzd ?_)
 refine Zp J (Zn (Za ?_))
 exact ⟨rfl,i+1,⟨by omega,take_all hs ho (h14 (by simp_all))⟩,by omega,cv,Lh⟩
 refine Zm (Zb (Zb (Ze (Za (Zh (Zi (Zo J (Zv J J (oLeq J J (Zza ?_))))))))))
 obtain rfl:i=l.length:=by omega
 rw [List.take_length] at hs
 exact ⟨_,(by intro h;have:=of_decide_eq_true h;exact ⟨by omega,fun o ho=>(hs o ho).syms,fun o ho=>(hs o ho).funcs,fun o ho=>(hs o ho).datas,fun o ho=>(hs o ho).fun_,fun o ho=>(hs o ho).data⟩),rfl,Lh⟩
theorem ref24_Bind {B:Base}{w:World}(hS:St B [] w) (A:Option Addr) (cp:Nat) (l:List ApiObject) (W0:World) (hW:Grow W0 B.e) (hC0:kApiObject.C W0 A l) (hv:∀ o ∈ l,vApiObject o) (hsm:FewO l) (s:ByteArray) :
 CW 17 #[.slice A l.length cp,.string s] w (Ret B (fun z:PZ=>z.ok∧z.prog (bindP l s).fEntry=bindP l s) (fun z=>.tuple #[.agg (z.cells (bindP l s).fEntry).toArray,.agg (rejL (bindR l s)).toArray]) (fun z=>[row kFunT W0 49 (.slice z.Af z.ft.length z.cf) z.ft,bun (rws (Kd.int .i64) W0 3 (z.ft.map hdT) z.fr),row kDatT W0 98 (.slice z.Ad z.dt.length z.cd) z.dt,bun (rws (Kd.int .i64) W0 3 (z.dt.map hdT) z.dr)])):=by
 have hln:=hsm.len
 have hC:=Kd.C_grow hW hC0
 refine ZX Tryz.func17 hS ?_
 refine Zh (Zi (oAlloc J ZP (fun b4=>?_)))
 refine oAlloc J ZP (fun b5=>?_)
 refine Zn (Za (Zh (Zh (Zi (Zo J (Zv J J (Zy J J (Zo J (ZS (ZT 17) (fun h17=>?_) (fun h17=>?_))))))))))
 refine Zr J J J J (Zr J J J J (Zr J J J J (Zt J J (Zn (Za (wCondT J (Zh (Zi (oBuild Parts.nil J J Built.nil (oBuild (Parts.cons J (Parts.cons J (Parts.cons J Parts.nil))) J J (Built.cons (off:=0) (s:=1) J ZP J ZP (Built.cons (off:=1) (s:=1) J ZP J ZP (Built.cons (off:=2) (s:=1) J ZP J ZP Built.nil))) ?_))))))))))
 refine Zsa ?_
 refine Zsa ?_
 refine Zn (Za (Zl (Zc (Zw ?_))))
 refine ⟨rfl,_,(ResL.cons (by first | exact ResR.cell rfl ZP rfl | exact ResR.agg rfl ZP rfl rfl) (ResL.cons (by first | exact ResR.cell rfl ZP rfl | exact ResR.agg rfl ZP rfl rfl) ResL.nil)),?_⟩
 have hR:bindR l s=(19,-1,-1):=by unfold bindR;rw [if_pos ZO]
 have hP:bindP l s=⟨[],[],0⟩:=by unfold bindP;rw [hR,if_neg (by first | decide | exact absurd rfl)]
 exact ⟨⟨none,0,[],[],none,0,[],[]⟩,⟨⟨rfl,rfl⟩,by rw [hP];rfl⟩,by rw [hR,hP];rfl,(Leads.nilrow.trans (bun_nil.trans (Leads.nilrow.trans (bun_nil.trans Lh))))⟩
 refine Zq J J (Zo J (Zq J J (Zv J J (Zq J J (Z1 J J (Zu J J (Zn (Za (wC (fun h21=>?_) (fun h21=>?_))))))))))
 refine Zh (Zi (oBuild Parts.nil J J Built.nil (oBuild (Parts.cons J (Parts.cons J (Parts.cons J Parts.nil))) J J (Built.cons (off:=0) (s:=1) J ZP J ZP (Built.cons (off:=1) (s:=1) J ZP J ZP (Built.cons (off:=2) (s:=1) J ZP J ZP Built.nil))) ?_)))
 refine Zsa ?_
 refine Zsa ?_
 refine Zn (Za (Zl (Zc (Zw ?_))))
 refine ⟨rfl,_,(ResL.cons (by first | exact ResR.cell rfl ZP rfl | exact ResR.agg rfl ZP rfl rfl) (ResL.cons (by first | exact ResR.cell rfl ZP rfl | exact ResR.agg rfl ZP rfl rfl) ResL.nil)),?_⟩
 have hR:bindR l s=(19,-1,-1):=by unfold bindR;rw [if_pos ZO]
 have hP:bindP l s=⟨[],[],0⟩:=by unfold bindP;rw [hR,if_neg (by first | decide | exact absurd rfl)]
 exact ⟨⟨none,0,[],[],none,0,[],[]⟩,⟨⟨rfl,rfl⟩,by rw [hP];rfl⟩,by rw [hR,hP];rfl,(Leads.nilrow.trans (bun_nil.trans (Leads.nilrow.trans (bun_nil.trans Lh))))⟩
 have hl0:¬ (l.length=0∨6<l.length):=by omega
 refine Zj (Za (Zh (Zh (Zi (Zp J (Zn (Za (Zk (wLoop (ι:=Nat) (fun i=>[(0,.slice A l.length cp),(1,.string s),(4,.pointer (some ⟨b4,0,none⟩)),(5,.pointer (some ⟨b5,0,none⟩)),(6,.int .i64 (i:Int))]) (fun i=>[blk b4 29 [.slice none 0 0,.slice none 0 0,.int .i64 0],blk b5 32 [.int .i64 0,.int .i64 0,.int .i64 0]]) (fun i=>i≤l.length∧∀ o ∈ l.take i,badB o=false) (fun i=>l.length-i) 0 ?_ cv Lh ?_)))))))))
 exact ⟨Nat.zero_le _,by simp⟩
 rintro i ⟨hi,hs⟩
 try dsimp only
 refine Zh (Zh (Zi (Zo J (Zo J (Zv J J (Zx J J (Zn (Za (wC (fun h27=>?_) (fun h27=>?_))))))))))
 obtain ⟨o,ho⟩:∃ o,l[i]?=some o:=⟨_,List.getElem?_eq_getElem ZO⟩
 obtain ⟨e1,cs1,hE⟩:=hC.elm ho
 obtain ⟨B0,d0,B1,d1,B2,d2,rfl,m0,q0,m1,q1,m2,q2⟩:=kApiObject_open hE.K
 have hg:=hsm.one hv (List.mem_of_getElem? ho)
 refine Zj (Za (Zh (Zk (Zh (Zi (Zo J (Zo J (oIdxE J J (hE) ZO J J ?_))))))))
 have hc33:=(hE).cell
 refine Zlx hc33 ?_
 (refine ZC0 rfl ZK (fun w hS=>frame hS ZQ (fun B' hB hS'=>ref19_Check hS' o _ (kApiObject_mk _ o m0 (Kd.C_grow hB q0) m1 (Kd.C_grow hB q1) m2 (Kd.C_grow hB q2)) hg)) ?_;rintro ⟨⟩ -)
 refine Zo J (oExt J ZP ?_)
 refine oExt J ZP ?_
 refine Zp J (Zp J (Zn (Za (Zh (Zi (Zo J (Z0 J J (Zn (Za (wC (fun h39=>?_) (fun h39=>?_)))))))))))
 refine Zh (Zi (oBuild Parts.nil J J Built.nil (Zo J (Zo J (Zo J (oBuild (Parts.cons J (Parts.cons J (Parts.cons J Parts.nil))) J J (Built.cons (off:=0) (s:=1) J ZP J ZP (Built.cons (off:=1) (s:=1) J ZP J ZP (Built.cons (off:=2) (s:=1) J ZP J ZP Built.nil))) ?_))))))
 refine Zsa ?_
 refine Zsa ?_
 refine Zn (Za (Zl (Zf (Zc (Zc (Zf (Zc (Zw ?_))))))))
 refine ⟨rfl,_,(ResL.cons (by first | exact ResR.cell rfl ZP rfl | exact ResR.agg rfl ZP rfl rfl) (ResL.cons (by first | exact ResR.cell rfl ZP rfl | exact ResR.agg rfl ZP rfl rfl) ResL.nil)),?_⟩
 have hR:bindR l s=(objE o,(i:Int),objI o):=by have hbi:=idxI_stop hs ho (show badB o=true from decide_eq_true h39);unfold bindR;rw [if_neg hl0,hbi,if_pos ZO,Int.toNat_natCast,objAt_eq ho]
 have hP:bindP l s=⟨[],[],0⟩:=by unfold bindP;rw [hR,if_neg (by first | decide | exact h39)]
 exact ⟨⟨none,0,[],[],none,0,[],[]⟩,⟨⟨rfl,rfl⟩,by rw [hP];rfl⟩,by rw [hR,hP];rfl,(Leads.nilrow.trans (bun_nil.trans (Leads.nilrow.trans (bun_nil.trans Lh))))⟩
 refine Zj (Zzd ?_)
 refine Zp J (Zn (Za ?_))
 exact ⟨rfl,i+1,⟨by omega,take_not hs ho (decide_eq_false h39)⟩,by omega,cv,Lh⟩
 obtain rfl:i=l.length:=by omega
 rw [List.take_length] at hs
 have hb:¬ 0≤idxI badB l:=by rw [idxI_none hs];decide
 refine Zm (Zb (Zb (Ze (Za (Zh (Zh (Zi (Zo J ?_))))))))
 (refine ZC0 rfl ZK (fun w hS=>frame hS ZQ (fun B' hB hS'=>ref23_Check hS' A cp l (Kd.C_grow hB hC) hsm)) ?_;rintro ⟨⟩ -)
 refine oAlloc J ZP (fun b9=>?_)
 refine Zsa ?_
 refine Zn (Za (Zh (Zi (Zz (n:=0) (m:=0) J J J (Zld ?_)))))
 refine Z0 J J (Zn (Za (wC (fun h49=>?_) (fun h49=>?_))))
 refine Zh (wDrawN J J (ZM (i:=0) (rs:=[1]) ZK ?_))
 refine ZA J ?_ ?_
 refine oBuild Parts.nil J J Built.nil (Z7 (ZM (i:=1) (rs:=[2]) ZK ?_))
 refine ZA J ?_ ?_
 refine Zla ?_
 refine Z7 (ZM (i:=2) (rs:=[]) ZK ?_)
 refine ZA J ?_ ?_
 refine Zsa ?_
 refine Z7 (ZM (i:=3) (rs:=[]) ZK ?_)
 refine ZA J ?_ ?_
 refine Zsa ?_
 refine Z7 (anNil ZK ?_)
 refine Za (Zl (Zc (Zw ?_)))
 refine ⟨rfl,_,(ResL.cons (by first | exact ResR.cell rfl ZP rfl | exact ResR.agg rfl ZP rfl rfl) (ResL.cons (by first | exact ResR.cell rfl ZP rfl | exact ResR.agg rfl ZP rfl rfl) ResL.nil)),?_⟩
 have hR:bindR l s=chk23 l:=by unfold bindR;rw [if_neg hl0,if_neg hb,if_pos h49]
 have hP:bindP l s=⟨[],[],0⟩:=by unfold bindP;rw [hR,if_neg (by first | decide | exact h49)]
 exact ⟨⟨none,0,[],[],none,0,[],[]⟩,⟨⟨rfl,rfl⟩,by rw [hP];rfl⟩,by rw [hR,hP];rfl,(Leads.nilrow.trans (bun_nil.trans (Leads.nilrow.trans (bun_nil.trans Lh))))⟩
 exact ZB
 exact ZB
 refine ZA J ?_ ?_
 refine Zsa ?_
 refine Z7 (ZM (i:=1) (rs:=[]) ZK ?_)
 refine ZA J ?_ ?_
 refine Zla ?_
 refine Z7 (ZM (i:=3) (rs:=[]) ZK ?_)
 refine ZA J ?_ ?_
 refine Zsa ?_
 refine Z7 (anNil ZK ?_)
 refine Za (Zl (Zc (Zw ?_)))
 refine ⟨rfl,_,(ResL.cons (by first | exact ResR.cell rfl ZP rfl | exact ResR.agg rfl ZP rfl rfl) (ResL.cons (by first | exact ResR.cell rfl ZP rfl | exact ResR.agg rfl ZP rfl rfl) ResL.nil)),?_⟩
 have hR:bindR l s=chk23 l:=by unfold bindR;rw [if_neg hl0,if_neg hb,if_pos h49]
 have hP:bindP l s=⟨[],[],0⟩:=by unfold bindP;rw [hR,if_neg (by first | decide | exact h49)]
 exact ⟨⟨none,0,[],[],none,0,[],[]⟩,⟨⟨rfl,rfl⟩,by rw [hP];rfl⟩,by rw [hR,hP];rfl,(Leads.nilrow.trans (bun_nil.trans (Leads.nilrow.trans (bun_nil.trans Lh))))⟩
 exact ZB
 exact ZB
 exact ZB
 refine ZA J ?_ ?_
 refine Zla ?_
 refine Z7 (ZM (i:=0) (rs:=[]) ZK ?_)
 refine ZA J ?_ ?_
 refine oBuild Parts.nil J J Built.nil (Z7 (ZM (i:=2) (rs:=[]) ZK ?_))
 refine ZA J ?_ ?_
 refine Zsa ?_
 refine Z7 (ZM (i:=3) (rs:=[]) ZK ?_)
 refine ZA J ?_ ?_
 refine Zsa ?_
 refine Z7 (anNil ZK ?_)
 refine Za (Zl (Zc (Zw ?_)))
 refine ⟨rfl,_,(ResL.cons (by first | exact ResR.cell rfl ZP rfl | exact ResR.agg rfl ZP rfl rfl) (ResL.cons (by first | exact ResR.cell rfl ZP rfl | exact ResR.agg rfl ZP rfl rfl) ResL.nil)),?_⟩
 have hR:bindR l s=chk23 l:=by unfold bindR;rw [if_neg hl0,if_neg hb,if_pos h49]
 have hP:bindP l s=⟨[],[],0⟩:=by unfold bindP;rw [hR,if_neg (by first | decide | exact h49)]
 exact ⟨⟨none,0,[],[],none,0,[],[]⟩,⟨⟨rfl,rfl⟩,by rw [hP];rfl⟩,by rw [hR,hP];rfl,(Leads.nilrow.trans (bun_nil.trans (Leads.nilrow.trans (bun_nil.trans Lh))))⟩
 exact ZB
 exact ZB
 exact ZB
 exact ZB
 have hok:OkL l:=⟨hsm,fun o ho=>Classical.not_not.1 (of_decide_eq_false (hs o ho)),Classical.not_not.1 h49⟩
 refine Zj (Za (Zzu ?_))
 (refine ZC0 rfl ZK (fun w hS=>frame hS ZQ (fun B' hB hS'=>ref23_Find hS' A cp l (Kd.C_grow hB hC) hsm s)) ?_;rintro ⟨⟩ -)
 refine Zo J (oExt J ZP ?_)
 refine oExt J ZP ?_
 refine oExt J ZP ?_
 refine Zp J (Zp J (Zp J (Zn (Za (Zh (Zh (Zi (Zo J (Zno ?_)))))))))
 refine Zo J (ZS (ZT 61) (fun h61=>?_) (fun h61=>?_))
 refine Zr J J J J (Zr J J J J (Zr J J J J (Zr J J J J (Zr J J J J (Zr J J J J (Zr J J J J (Zr J J J J (Zr J J J J (Zr J J J J (Zt J J (Zo J (Zr J J J J (Zr J J J J (Zr J J J J (Zr J J J J (Zr J J J J (Zr J J J J (Zr J J J J (Zr J J J J (Zr J J J J (Zr J J J J (Zt J J (Zn (Za (wCondT J (Zh (Zi (oBuild Parts.nil J J Built.nil (oBuild (Parts.cons J (Parts.cons J (Parts.cons J Parts.nil))) J J (Built.cons (off:=0) (s:=1) J ZP J ZP (Built.cons (off:=1) (s:=1) J ZP J ZP (Built.cons (off:=2) (s:=1) J ZP J ZP Built.nil))) ?_)))))))))))))))))))))))))))))
 refine Zsa ?_
 refine Zsa ?_
 refine Zn (Za (Zl (Zc (Zw ?_))))
 refine ⟨rfl,_,(ResL.cons (by first | exact ResR.cell rfl ZP rfl | exact ResR.agg rfl ZP rfl rfl) (ResL.cons (by first | exact ResR.cell rfl ZP rfl | exact ResR.agg rfl ZP rfl rfl) ResL.nil)),?_⟩
 have hR:bindR l s=(15,-1,-1):=by unfold bindR;rw [if_neg hl0,if_neg hb,if_neg h49,if_pos (.inl (by simpa using h61))]
 have hP:bindP l s=⟨[],[],0⟩:=by unfold bindP;rw [hR,if_neg (by first | decide | exact absurd rfl)]
 exact ⟨⟨none,0,[],[],none,0,[],[]⟩,⟨⟨rfl,rfl⟩,by rw [hP];rfl⟩,by rw [hR,hP];rfl,(Leads.nilrow.trans (bun_nil.trans (Leads.nilrow.trans (bun_nil.trans Lh))))⟩
 obtain ⟨i,k,o,x,hfe,ho,hx,hgx⟩:=fnd_some (show (fnd l s).2.2=true by simpa using h61)
 have hso:=symOf_eq ho hx
 have hil:=(List.getElem?_eq_some_iff.1 ho).1
 have hkl:=(List.getElem?_eq_some_iff.1 hx).1
 obtain ⟨e3,cs3,hE3⟩:=hC.elm ho
 obtain ⟨C0,f0,C1,f1,C2,f2,rfl,n0,r0,n1,r1,n2,r2⟩:=kApiObject_open hE3.K
 obtain ⟨e4,cs4,hE4⟩:=r0.elm hx
 obtain rfl:=kApiSymbol_open hE4.K
 rw [hfe]
 dsimp only
 refine Zq J J (Zo J (Zq J J (Zo J (Zq J J (oIdxE J J (hE3) ZO J J ?_)))))
 have hc64:=(hE3).cell
 refine Zq J J (ZF (ZT 0) (ZT 0) ?_)
 refine Zq J J (Zlx hc64 ?_)
 refine Zq J J (Zo J (Zq J J (oIdxE J J (hE4) ZO J J ?_)))
 have hc68:=(hE4).cell
 refine Zq J J (ZF (ZT 2) (ZT 2) ?_)
 refine Zq J J (Zlx hc68 ?_)
 refine Zq J J (Z0 J J (Zu J J (Zo J (ZS (ZT 73) (fun h73=>?_) (fun h73=>?_)))))
 refine Zr J J J J (Zr J J J J (Zr J J J J (Zr J J J J (Zr J J J J (Zr J J J J (Zr J J J J (Zr J J J J (Zr J J J J (Zr J J J J (Zt J J (Zn (Za (wCondT J (Zh (Zi (oBuild Parts.nil J J Built.nil (oBuild (Parts.cons J (Parts.cons J (Parts.cons J Parts.nil))) J J (Built.cons (off:=0) (s:=1) J ZP J ZP (Built.cons (off:=1) (s:=1) J ZP J ZP (Built.cons (off:=2) (s:=1) J ZP J ZP Built.nil))) ?_)))))))))))))))))
 refine Zsa ?_
 refine Zsa ?_
 refine Zn (Za (Zl (Zc (Zw ?_))))
 refine ⟨rfl,_,(ResL.cons (by first | exact ResR.cell rfl ZP rfl | exact ResR.agg rfl ZP rfl rfl) (ResL.cons (by first | exact ResR.cell rfl ZP rfl | exact ResR.agg rfl ZP rfl rfl) ResL.nil)),?_⟩
 have hR:bindR l s=(15,-1,-1):=by unfold bindR;rw [if_neg hl0,if_neg hb,if_neg h49,hfe];dsimp only;rw [hso,if_pos ZO]
 have hP:bindP l s=⟨[],[],0⟩:=by unfold bindP;rw [hR,if_neg (by first | decide | exact absurd rfl)]
 exact ⟨⟨none,0,[],[],none,0,[],[]⟩,⟨⟨rfl,rfl⟩,by rw [hP];rfl⟩,by rw [hR,hP];rfl,(Leads.nilrow.trans (bun_nil.trans (Leads.nilrow.trans (bun_nil.trans Lh))))⟩
 refine Zq J J (Zo J (Zq J J (Zo J (Zq J J (oIdxE J J (hE3) ZO J J ?_)))))
 have hc76:=(hE3).cell
 refine Zq J J (ZF (ZT 0) (ZT 0) ?_)
 refine Zq J J (Zlx hc76 ?_)
 refine Zq J J (Zo J (Zq J J (oIdxE J J (hE4) ZO J J ?_)))
 have hc80:=(hE4).cell
 refine Zq J J (ZF (ZT 3) (ZT 3) ?_)
 refine Zq J J (Zlx hc80 ?_)
 refine Zq J J (Z1 J J (Zu J J (Zn (Za (wC (fun h84=>?_) (fun h84=>?_))))))
 refine Zh (Zi (oBuild Parts.nil J J Built.nil (oBuild (Parts.cons J (Parts.cons J (Parts.cons J Parts.nil))) J J (Built.cons (off:=0) (s:=1) J ZP J ZP (Built.cons (off:=1) (s:=1) J ZP J ZP (Built.cons (off:=2) (s:=1) J ZP J ZP Built.nil))) ?_)))
 refine Zsa ?_
 refine Zsa ?_
 refine Zn (Za (Zl (Zc (Zw ?_))))
 refine ⟨rfl,_,(ResL.cons (by first | exact ResR.cell rfl ZP rfl | exact ResR.agg rfl ZP rfl rfl) (ResL.cons (by first | exact ResR.cell rfl ZP rfl | exact ResR.agg rfl ZP rfl rfl) ResL.nil)),?_⟩
 have hR:bindR l s=(15,-1,-1):=by unfold bindR;rw [if_neg hl0,if_neg hb,if_neg h49,hfe];dsimp only;rw [hso,if_pos ZO]
 have hP:bindP l s=⟨[],[],0⟩:=by unfold bindP;rw [hR,if_neg (by first | decide | exact absurd rfl)]
 exact ⟨⟨none,0,[],[],none,0,[],[]⟩,⟨⟨rfl,rfl⟩,by rw [hP];rfl⟩,by rw [hR,hP];rfl,(Leads.nilrow.trans (bun_nil.trans (Leads.nilrow.trans (bun_nil.trans Lh))))⟩
 have hR:bindR l s=(0,0,0):=by unfold bindR;rw [if_neg hl0,if_neg hb,if_neg h49,hfe];dsimp only;rw [hso,if_neg (by simp;omega)]
 refine Zj (Zzn ?_)
 (refine ZC0 rfl ZK (fun w hS=>frame hS ZQ (fun B' hB hS'=>ref24_program hS' A cp l W0 (hW.trans hB) hC0 hv hok)) ?_;rintro z ⟨hz,hzf,hzd⟩)
 refine oAlloc J ZP (fun b13=>?_)
 refine Zsa ?_
 refine Zn (Za (Zzv ?_))
 (refine ZC0 rfl ZK (fun w hS=>frame hS ZQ (fun B' hB hS'=>ref24_number hS' A cp l (Kd.C_grow hB hC) hsm i k (hok.bnd ho hkl))) ?_;rintro ⟨⟩ -)
 refine Zz (n:=2) (m:=2) J J J (Zst ?_)
 refine Zn (Zzk ?_)
 refine oBuild Parts.nil J J Built.nil (Zsa ?_)
 refine Zsa ?_
 refine Zn (Za (Zl (Zw ?_)))
 refine ⟨rfl,_,(ResL.cons (by first | exact ResR.cell rfl ZP rfl | exact ResR.agg rfl ZP rfl rfl) (ResL.cons (by first | exact ResR.cell rfl ZP rfl | exact ResR.agg rfl ZP rfl rfl) ResL.nil)),?_⟩
 have hP:bindP l s=⟨funsTo l l.length,datsTo l l.length,numberF l i k⟩:=by unfold bindP;rw [hR,if_pos rfl,hfe]
 exact ⟨z,⟨hz,by rw [hP];unfold PZ.prog;rw [hzf,hzd]⟩,by rw [hR,hP];rfl,Lh⟩
end Go.Proofs.YtogaiijhicfoaaaGreatW
namespace Go.Proofs.YtogaiijhicfoaaaGreatU
set_option maxRecDepth 100000
set_option maxHeartbeats 4000000
open Go.RowKit Go.Proofs.YtogaiijhicfoaaaGreatK Go.Proofs.YtogaiijhicfoaaaGreatT Go.Proofs.YtogaiijhicfoaaaGreatL Go.Proofs.YtogaiijhicfoaaaGreatV Go.Proofs.YtogaiijhicfoaaaGreatG Go.Proofs.YtogaiijhicfoaaaGreatW

abbrev fewFun (f:ApiFun):Prop:=f.fF.fCode.length≤80∧f.fRefs.length≤80∧f.fF.fKinds.length≤80∧f.fF.fRelocs.length≤80∧f.fF.fLines.length≤80
abbrev fewDat (d:ApiDat):Prop:=d.fD.fWords.length≤80∧d.fRefs.length≤80∧d.fD.fRelocs.length≤80
theorem ref25_Few {B:Base}{w:World}(hS:St B [] w) (p:ApiProgram) (pc:List Value) (hp:kApiProgram.K B.e p pc) :
 CW 19 #[.agg pc.toArray] w (Ret B (fun r:Bool=>r=true→SmallP p) (fun r=>.bool r) (fun _=>[])):=by
 obtain ⟨A0,c0,A1,c1,rfl,l0,g0,l1,g1⟩:=kApiProgram_open hp
 have hl0:=g0.1
 have hl1:=g1.1
 refine ZX Tryz.func19 hS ?_
 refine Zh (Zi (oBox J ZP (fun b1=>?_)))
 refine Zp J (Zn (Za (Zh (Zh (Zi (Zp J (Zn (Za (Zk (wLoop (ι:=Nat) (fun i=>[(1,.pointer (some ⟨b1,0,none⟩)),(3,.int .i64 (i:Int))]) (fun i=>[blk b1 29 (pcL p A0 c0 A1 c1)]) (fun i=>i≤p.fFuns.length∧∀ f ∈ p.fFuns.take i,fewFun f) (fun i=>p.fFuns.length-i) 0 ?_ cv Lh ?_))))))))))
 exact ⟨Nat.zero_le _,by simp⟩
 rintro i ⟨hi,hs⟩
 try dsimp only
 refine Zh (Zh (Zi (Zo J (Zz (n:=0) (m:=0) J J J (Zld ?_)))))
 refine Zv J J (Zx J J (Zn (Za (wC (fun h9=>?_) (fun h9=>?_)))))
 obtain ⟨f,hf⟩:∃ f,p.fFuns[i]?=some f:=⟨_,List.getElem?_eq_getElem ZO⟩
 obtain ⟨ef,csf,hEf⟩:=g0.elm hf
 obtain ⟨D0,d0,D1,d1,D2,d2,D3,d3,D4,d4,rfl,m0,q0,m1,q1,m2,q2,m3,q3,m4,q4⟩:=kApiFun_open hEf.K
 refine Zj (Za (Zh (Zk (Zh (Zi (Zz (n:=0) (m:=0) J J J (Zld ?_)))))))
 refine Zo J (oIdxE J J (hEf) ZO J J ?_)
 have hc15:=(hEf).cell
 refine ZF (ZT 3) (ZT 3) ?_
 refine ZF (ZT 7) (ZT 10) ?_
 refine Zlx hc15 ?_
 refine Zv J J (Z1 J J (Zo J (ZS (ZT 21) (fun h21=>?_) (fun h21=>?_))))
 refine Zr J J J J (Zr J J J J (Zr J J J J (Zr J J J J (Zr J J J J (Zr J J J J (Zr J J J J (Zr J J J J (Zt J J (Zo J (Zr J J J J (Zr J J J J (Zr J J J J (Zr J J J J (Zr J J J J (Zr J J J J (Zr J J J J (Zr J J J J (Zr J J J J (Zt J J (Zo J (Zr J J J J (Zr J J J J (Zr J J J J (Zr J J J J (Zr J J J J (Zr J J J J (Zr J J J J (Zr J J J J (Zr J J J J ?_)))))))))))))))))))))))))))))
 refine Zt J J (Zo J (Zr J J J J (Zr J J J J (Zr J J J J (Zr J J J J (Zr J J J J (Zr J J J J (Zr J J J J (Zr J J J J (Zr J J J J (Zt J J (Zn (Za (wCondT J (Zh (Zi (Zzb ?_)))))))))))))))))
 exact ⟨false,(by intro h;cases h),rfl,Lh⟩
 refine Zq J J (Zz (n:=0) (m:=0) J J J (Zzg ?_))
 refine Zq J J (Zo J (Zq J J (oIdxE J J (hEf) ZO J J ?_)))
 have hc25:=(hEf).cell
 refine Zq J J (ZF (ZT 12) (ZT 12) ?_)
 refine Zq J J (Zlx hc25 ?_)
 refine Zq J J (Zv J J (Zq J J (Z1 J J (Zu J J (Zo J (ZS (ZT 31) (fun h31=>?_) (fun h31=>?_)))))))
 refine Zr J J J J (Zr J J J J (Zr J J J J (Zr J J J J (Zr J J J J (Zr J J J J (Zr J J J J (Zr J J J J (Zr J J J J (Zt J J (Zo J (Zr J J J J (Zr J J J J (Zr J J J J (Zr J J J J (Zr J J J J (Zr J J J J (Zr J J J J (Zr J J J J (Zr J J J J (Zt J J (Zo J (Zr J J J J (Zr J J J J (Zr J J J J (Zr J J J J (Zr J J J J (Zr J J J J (Zr J J J J (Zr J J J J ?_)))))))))))))))))))))))))))))
 refine Zr J J J J (Zt J J (Zn (Za (wCondT J (Zh (Zi (Zzb ?_)))))))
 exact ⟨false,(by intro h;cases h),rfl,Lh⟩
 refine Zq J J (Zz (n:=0) (m:=0) J J J (Zzg ?_))
 refine Zq J J (Zo J (Zq J J (oIdxE J J (hEf) ZO J J ?_)))
 have hc35:=(hEf).cell
 refine Zq J J (ZF (ZT 3) (ZT 3) ?_)
 refine Zq J J (ZF (ZT 1) (ZT 4) ?_)
 refine Zq J J (Zlx hc35 ?_)
 refine Zq J J (Zv J J (Zq J J (Z1 J J (Zu J J (Zo J (ZS (ZT 42) (fun h42=>?_) (fun h42=>?_)))))))
 refine Zr J J J J (Zr J J J J (Zr J J J J (Zr J J J J (Zr J J J J (Zr J J J J (Zr J J J J (Zr J J J J (Zr J J J J (Zt J J (Zo J (Zr J J J J (Zr J J J J (Zr J J J J (Zr J J J J (Zr J J J J (Zr J J J J (Zr J J J J (Zr J J J J (Zr J J J J (Zt J J (Zn (Za (wCondT J (Zh (Zi (Zp J (Zn (Za (Zl ?_)))))))))))))))))))))))))))))
 refine Zf (Zc (Zc (Zf (Zc (Zw (fi1 J ?_))))))
 exact ⟨false,(by intro h;cases h),rfl,Lh⟩
 refine Zq J J (Zz (n:=0) (m:=0) J J J (Zzg ?_))
 refine Zq J J (Zo J (Zq J J (oIdxE J J (hEf) ZO J J ?_)))
 have hc46:=(hEf).cell
 refine Zq J J (ZF (ZT 3) (ZT 3) ?_)
 refine Zq J J (ZF (ZT 8) (ZT 11) ?_)
 refine Zq J J (Zlx hc46 ?_)
 refine Zq J J (Zv J J (Zq J J (Z1 J J (Zu J J (Zo J (ZS (ZT 53) (fun h53=>?_) (fun h53=>?_)))))))
 refine Zr J J J J (Zr J J J J (Zr J J J J (Zr J J J J (Zr J J J J (Zr J J J J (Zr J J J J (Zr J J J J (Zr J J J J (Zt J J (Zn (Za (wCondT J (Zh (Zi (Zzb ?_)))))))))))))))
 exact ⟨false,(by intro h;cases h),rfl,Lh⟩
 refine Zq J J (Zz (n:=0) (m:=0) J J J (Zzg ?_))
 refine Zq J J (Zo J (Zq J J (oIdxE J J (hEf) ZO J J ?_)))
 have hc57:=(hEf).cell
 refine Zq J J (ZF (ZT 3) (ZT 3) ?_)
 refine Zq J J (ZF (ZT 6) (ZT 9) ?_)
 refine Zq J J (Zlx hc57 ?_)
 refine Zq J J (Zv J J (Zq J J (Z1 J J (Zu J J (Zn (Za (wC (fun h63=>?_) (fun h63=>?_))))))))
 refine Zh (Zi (Zzb ?_))
 exact ⟨false,(by intro h;cases h),rfl,Lh⟩
 refine Zj (Zzd ?_)
 refine Zp J (Zn (Za ?_))
 exact ⟨rfl,i+1,⟨by omega,take_all (P:=fewFun) hs hf ⟨by omega,by omega,by omega,by omega,by omega⟩⟩,by omega,cv,Lh⟩
 obtain rfl:i=p.fFuns.length:=by omega
 rw [List.take_length] at hs
 have hsF:=hs
 refine Zm (Zb (Zb (Ze (Za (Zh (Zh (Zi (Zp J (Zn (Za (Zk (wLoop (ι:=Nat) (fun i=>[(1,.pointer (some ⟨b1,0,none⟩)),(4,.int .i64 (i:Int))]) (fun i=>[blk b1 29 (pcL p A0 c0 A1 c1)]) (fun i=>i≤p.fDats.length∧∀ f ∈ p.fDats.take i,fewDat f) (fun i=>p.fDats.length-i) 0 ?_ cv Lh ?_))))))))))))
 exact ⟨Nat.zero_le _,by simp⟩
 rintro i ⟨hi,hs⟩
 try dsimp only
 refine Zh (Zh (Zi (Zo J (Zz (n:=1) (m:=1) J J J (Zld ?_)))))
 refine Zv J J (Zx J J (Zn (Za (wC (fun h68=>?_) (fun h68=>?_)))))
 obtain ⟨d,hd⟩:∃ d,p.fDats[i]?=some d:=⟨_,List.getElem?_eq_getElem ZO⟩
 obtain ⟨e2,cs2,hE2⟩:=g1.elm hd
 obtain ⟨G0,k0,G1,k1,G2,k2,rfl,n0,r0,n1,r1,n2,r2⟩:=kApiDat_open hE2.K
 refine Zj (Za (Zh (Zk (Zh (Zi (Zz (n:=1) (m:=1) J J J (Zld ?_)))))))
 refine Zo J (oIdxE J J (hE2) ZO J J ?_)
 have hc74:=(hE2).cell
 refine ZF (ZT 3) (ZT 3) ?_
 refine ZF (ZT 1) (ZT 4) ?_
 refine Zlx hc74 ?_
 refine Zv J J (Z1 J J (Zo J (ZS (ZT 80) (fun h80=>?_) (fun h80=>?_))))
 refine Zr J J J J (Zr J J J J (Zr J J J J (Zr J J J J (Zr J J J J (Zr J J J J (Zr J J J J (Zr J J J J (Zt J J (Zo J (Zr J J J J (Zr J J J J (Zr J J J J (Zr J J J J (Zr J J J J (Zr J J J J (Zr J J J J (Zr J J J J (Zr J J J J (Zt J J (Zn (Za (wCondT J (Zh (Zi (Zp J (Zn (Za (Zl (Zf ?_)))))))))))))))))))))))))))))
 refine Zc (Zc (Zf (Zc (Zw (fi1 J ?_)))))
 exact ⟨false,(by intro h;cases h),rfl,Lh⟩
 refine Zq J J (Zz (n:=1) (m:=1) J J J (Zzg ?_))
 refine Zq J J (Zo J (Zq J J (oIdxE J J (hE2) ZO J J ?_)))
 have hc84:=(hE2).cell
 refine Zq J J (ZF (ZT 6) (ZT 6) ?_)
 refine Zq J J (Zlx hc84 ?_)
 refine Zq J J (Zv J J (Zq J J (Z1 J J (Zu J J (Zo J (ZS (ZT 90) (fun h90=>?_) (fun h90=>?_)))))))
 refine Zr J J J J (Zr J J J J (Zr J J J J (Zr J J J J (Zr J J J J (Zr J J J J (Zr J J J J (Zr J J J J (Zr J J J J (Zt J J (Zn (Za (wCondT J (Zh (Zi (Zzb ?_)))))))))))))))
 exact ⟨false,(by intro h;cases h),rfl,Lh⟩
 refine Zq J J (Zz (n:=1) (m:=1) J J J (Zzg ?_))
 refine Zq J J (Zo J (Zq J J (oIdxE J J (hE2) ZO J J ?_)))
 have hc94:=(hE2).cell
 refine Zq J J (ZF (ZT 3) (ZT 3) ?_)
 refine Zq J J (ZF (ZT 2) (ZT 5) ?_)
 refine Zq J J (Zlx hc94 ?_)
 refine Zq J J (Zv J J (Zq J J (Z1 J J (Zu J J (Zn (Za (wC (fun h100=>?_) (fun h100=>?_))))))))
 refine Zh (Zi (Zzb ?_))
 exact ⟨false,(by intro h;cases h),rfl,Lh⟩
 refine Zj (Zzd ?_)
 refine Zp J (Zn (Za ?_))
 exact ⟨rfl,i+1,⟨by omega,take_all (P:=fewDat) hs hd ⟨by omega,by omega,by omega⟩⟩,by omega,cv,Lh⟩
 obtain rfl:i=p.fDats.length:=by omega
 rw [List.take_length] at hs
 refine Zm (Zb (Zb (Ze (Za (Zh (Zi (Zz (n:=0) (m:=0) J J J (Zld ?_))))))))
 refine Zv J J (oLeq J J (Zo J (ZS (ZT 105) (fun h105=>?_) (fun h105=>?_))))
 refine Zq J J (Zz (n:=1) (m:=1) J J J (Zzg ?_))
 refine Zq J J (Zv J J (Zq J J (oLeq J J (Zt J J (Zza ?_)))))
 exact ⟨_,(by intro h;first | focus (simp at h;done) | (have:=of_decide_eq_true h;exact ⟨by omega,by omega,hsF,hs⟩)),rfl,Lh⟩
 refine Zr J J J J (Zzp ?_)
 exact ⟨_,(by intro h;first | focus (simp at h;done) | (have:=of_decide_eq_true h;exact ⟨by omega,by omega,hsF,hs⟩)),rfl,Lh⟩
theorem kFunT_hdr {W:World}{t:FunT}{cs:List Value}(h:kFunT.K W t cs):cs[12]?=some (hV (hdT t)):=by
 obtain ⟨c1,d1,rfl,a1,c2,d2,rfl,a2,c3,d3,rfl,a3,c4,d4,rfl,a4,a5⟩:=h
 have h4:=kApiFunc.K_len a4
 rw [show c1=[Value.int .i64 t.1] from a1,show c2=[Value.int .i64 t.2.1] from a2,show c3=[Value.string t.2.2.1] from a3,show d4=[hV (hdT t)] from a5]
 simp only [List.cons_append,List.nil_append,List.getElem?_cons_succ]
 rw [List.getElem?_append_right (by rw [h4];exact Nat.le_refl _),h4];rfl
theorem kDatT_hdr {W:World}{t:DatT}{cs:List Value}(h:kDatT.K W t cs):cs[6]?=some (hV (hdT t)):=by
 obtain ⟨c1,d1,rfl,a1,c2,d2,rfl,a2,c3,d3,rfl,a3,c4,d4,rfl,a4,a5⟩:=h
 have h4:=kApiData.K_len a4
 rw [show c1=[Value.int .i64 t.1] from a1,show c2=[Value.int .i64 t.2.1] from a2,show c3=[Value.string t.2.2.1] from a3,show d4=[hV (hdT t)] from a5]
 simp only [List.cons_append,List.nil_append,List.getElem?_cons_succ]
 rw [List.getElem?_append_right (by rw [h4];exact Nat.le_refl _),h4];rfl
theorem set_same {α:Type}{l:List α}{i:Nat}{u:α}(h:l[i]?=some u):l.set i u=l:=by
 obtain ⟨hi,rfl⟩:=List.getElem?_eq_some_iff.1 h
 simp
structure LikeZ (ft:List FunT) (fr:List (List Int)) (dt:List DatT) (dr:List (List Int)) (z:PZ):Prop where
  ft:z.ft=ft
  dt:z.dt=dt
  fr:z.fr.map List.length=fr.map List.length
  dr:z.dr.map List.length=dr.map List.length
theorem like_set {l:List (List Int)}{i k:Nat}{r:List Int}{n:Int}(h:l[i]?=some r):(l.set i (r.set k n)).map List.length=l.map List.length:=by
 rw [List.map_set,List.length_set]
 exact set_same (by rw [List.getElem?_map,h];rfl)
theorem law_SpoilS {B:Base}{w:World}(Af:Option Addr) (cf:Nat) (ft:List FunT) (fr:List (List Int)) (Ad:Option Addr) (cd:Nat) (dt:List DatT) (dr:List (List Int)) (W0:World) (hS:St B [row kFunT W0 49 (.slice Af ft.length cf) ft,bun (rws (Kd.int .i64) W0 3 (ft.map hdT) fr),row kDatT W0 98 (.slice Ad dt.length cd) dt,bun (rws (Kd.int .i64) W0 3 (dt.map hdT) dr)] w) (hzf:ft.length=fr.length) (hzd:dt.length=dr.length) (e x y n:Int) (is:Bool) :
 CW 18 #[.agg #[.slice Af ft.length cf,.slice Ad dt.length cd,.int .i64 e],.agg #[.int .i64 x,.int .i64 y],.int .i64 n,.bool is] w (Ret B (fun y:PZ×Int=>y.1.ok∧LikeZ ft fr dt dr y.1) (fun y=>.agg (y.1.cells y.2).toArray) (fun y=>[row kFunT W0 49 (.slice y.1.Af y.1.ft.length y.1.cf) y.1.ft,bun (rws (Kd.int .i64) W0 3 (y.1.ft.map hdT) y.1.fr),row kDatT W0 98 (.slice y.1.Ad y.1.dt.length y.1.cd) y.1.dt,bun (rws (Kd.int .i64) W0 3 (y.1.dt.map hdT) y.1.dr)])):=by
 refine ZX Tryz.func18 hS ?_
 refine Zh (Zi (oBox J ZP (fun b4=>?_)))
 refine oBox J ZP (fun b5=>?_)
 refine oAlloc J ZP (fun b8=>?_)
 refine Zn (Za (Zh (Zh (Zi (Zo J (Zno ?_))))))
 refine Zn (Za (wC (fun h10=>?_) (fun h10=>?_)))
 refine Zh (Zi (Zla ?_))
 refine Zsa ?_
 refine Zn (Za (Zl (Zc (Zw (ZI ?_)))))
 exact ⟨(⟨Af,cf,ft,fr,Ad,cd,dt,dr⟩,e),⟨⟨hzf,hzd⟩,⟨rfl,rfl,rfl,rfl⟩⟩,rfl,Lh⟩
 refine Zj (Za (Zh (wCut (ι:=Bool×Option Addr×Option Addr) (fun q=>[(2,.int .i64 n),(4,.pointer (some ⟨b4,0,none⟩)),(5,.pointer (some ⟨b5,0,none⟩)),(8,.pointer (some ⟨b8,0,none⟩)),(40,.bool q.1)]) (fun q=>[blk b4 29 [.slice q.2.1 ft.length cf,.slice q.2.2 dt.length cd,.int .i64 e],blk b5 23 [.int .i64 x,.int .i64 y],blk b8 29 [.slice none 0 0,.slice none 0 0,.int .i64 0],row kFunT W0 49 (.slice q.2.1 ft.length cf) ft,bun (rws (Kd.int .i64) W0 3 (ft.map hdT) fr),row kDatT W0 98 (.slice q.2.2 dt.length cd) dt,bun (rws (Kd.int .i64) W0 3 (dt.map hdT) dr)]) (fun q=>q.1=true→∃ i k:Nat,x=(i:Int)∧y=(k:Int)∧∃ t,ft[i]?=some t∧k<(hdT t).2.1) ?_ ?_)))
 refine wDraw2 J J [] [0,1,2,3,4,5,6,7,8,9,10,11,12,13,14,15,16,17,18,19,20,21,22,23,24,25,26,27] 28 ZK J J J (fun w0=>?_)
 refine oIdxA (i:=0) (m:=0) J J J J (by decide) J ?_
 refine Zld ?_
 refine Z2 J J (Zo J (ZS (ZT 15) (fun h15=>?_) (fun h15=>?_)))
 obtain ⟨i,rfl⟩:=Int.eq_ofNat_of_zero_le (show 0≤x from h15)
 refine Zq J J (oIdxA (i:=0) (m:=0) J J J J (by decide) J ?_)
 refine Zq J J (Zld ?_)
 refine Zq J J (Zz (n:=0) (m:=0) J J J (Zzg ?_))
 refine Zq J J (Zv J J (Zq J J (Zx J J (Zt J J (Zo J (ZS (ZT 23) (fun h23=>?_) (fun h23=>?_)))))))
 refine Zq J J (oIdxA (i:=1) (m:=1) J J J J (by decide) J ?_)
 refine Zq J J (Zld ?_)
 refine Zq J J (Z2 J J (Zt J J (Zo J (ZS (ZT 28) (fun h28=>?_) (fun h28=>?_)))))
 obtain ⟨k,rfl⟩:=Int.eq_ofNat_of_zero_le (show 0≤y by first | exact h28 | simpa using h28)
 have hif:i<ft.length:=by first | omega | (have:=of_decide_eq_true h23;omega)
 refine Zq J J (oIdxA (i:=1) (m:=1) J J J J (by decide) J ?_)
 refine Zq J J (Zld ?_)
 refine Zq J J (Zz (n:=0) (m:=0) J J J (Zzg ?_))
 refine Zq J J (oIdxA (i:=0) (m:=0) J J J J (by decide) J ?_)
 refine Zq J J (Zld ?_)
 refine Zq J J (ZR J J ZP ZO J J (fun g35 hg35=>?_))
 first | subst hg35 | (injection hg35 with hg35;injection hg35 with hg35;subst hg35)
 refine Zq J J (ZF (ZT 12) (ZT 12) ?_)
 refine Zq J J (oLdR (kd:=kFunT) J ZP ZO J J (fun u37 cs37 hu37 hk37=>⟨_,kFunT_hdr hk37,?_⟩))
 refine Zq J J (Zv J J (Zq J J (Zx J J (oHead (Zt J J (oNilT (Za ?_)))))))
 refine ⟨rfl,(_,_,_),?_,cv,Lh⟩;intro hq;first | focus (cases hq;done) | (exact ⟨i,k,rfl,rfl,u37,hu37,by have:=of_decide_eq_true hq;omega⟩)
 refine Zr J J J J (Zr J J J J (Zr J J J J (Zr J J J J (Zr J J J J (Zr J J J J (Zr J J J J (Zr J J J J (Zr J J J J (Zr J J J J (Zr J J J J (oHead (Zu J J (oNilT (Za ?_))))))))))))))
 refine ⟨rfl,(_,_,_),?_,cv,Lh⟩;intro hq;first | focus (cases hq;done) | (exact ⟨i,k,rfl,rfl,u37,hu37,by have:=of_decide_eq_true hq;omega⟩)
 refine Zr J J J J (Zr J J J J (Zr J J J J (Zu J J (Zo J (Zr J J J J (Zr J J J J (Zr J J J J (Zr J J J J (Zr J J J J (Zr J J J J (Zr J J J J (Zr J J J J (Zr J J J J (Zr J J J J (Zr J J J J (oHead (Zu J J (oNilT (Za ?_)))))))))))))))))))
 refine ⟨rfl,(_,_,_),?_,cv,Lh⟩;intro hq;first | focus (cases hq;done) | (exact ⟨i,k,rfl,rfl,u37,hu37,by have:=of_decide_eq_true hq;omega⟩)
 refine Zr J J J J (Zr J J J J (Zr J J J J (Zr J J J J (Zr J J J J (Zr J J J J (Zu J J (Zo J (Zr J J J J (Zr J J J J (Zr J J J J (Zu J J (Zo J (Zr J J J J (Zr J J J J (Zr J J J J (Zr J J J J (Zr J J J J (Zr J J J J (Zr J J J J (Zr J J J J (Zr J J J J (Zr J J J J (Zr J J J J (oHead (Zu J J (oNilT (Za ?_)))))))))))))))))))))))))))
 refine ⟨rfl,(_,_,_),?_,cv,Lh⟩;intro hq;first | focus (cases hq;done) | (exact ⟨i,k,rfl,rfl,u37,hu37,by have:=of_decide_eq_true hq;omega⟩)
 rintro ⟨q,Bf,Bd⟩ hq
 try dsimp only
 refine wC (fun h40=>?_) (fun h40=>?_)
 obtain ⟨i,k,rfl,rfl,t,ht,hkt⟩:=hq h40
 have hil:=(List.getElem?_eq_some_iff.1 ht).1
 refine wDraw2 J J [9] [0,1,2,3,4,5,6,7,8,10] 11 ZK J J J (fun w0=>?_)
 refine Zz (n:=0) (m:=0) J J J (Zld ?_)
 refine oIdxA (i:=0) (m:=0) J J J J (by decide) J ?_
 refine Zld ?_
 refine ZR J J ZP ZO J J (fun g45 hg45=>?_)
 first | subst hg45 | (injection hg45 with hg45;injection hg45 with hg45;subst hg45)
 refine ZF (ZT 12) (ZT 12) ?_
 refine oLdR (kd:=kFunT) J ZP ZO J J (fun u47 cs47 hu47 hk47=>⟨_,kFunT_hdr hk47,?_⟩)
 obtain rfl:u47=t:=Option.some.inj (hu47.symm.trans ht)
 obtain ⟨v0,v1,v2,v3,B3,n3,c3⟩:=u47
 obtain ⟨r,hr⟩:∃ r,fr[i]?=some r:=⟨_,List.getElem?_eq_getElem ZO⟩
 refine oFocus (kd:=Kd.int .i64) (W:=W0) (ei:=3) (hs:=ft.map hdT) (xss:=fr) (i:=i) (u:=(B3,n3,c3)) (xs:=r) ZP (by rw [List.getElem?_map,hu47];rfl) hr ?_
 refine oRoom (kd:=Kd.int .i64) (W0:=W0) (e:=3) (A:=B3) (n:=n3) (cp:=c3) (xs:=r) ZP (fun hrn hrc=>?_)
 refine oIdxA (i:=1) (m:=1) J J J J (by decide) J ?_
 refine Zld ?_
 refine ZR J J ZP (show k<n3 from hkt) J J (fun g51 hg51=>?_)
 first | subst hg51 | (injection hg51 with hg51;injection hg51 with hg51;subst hg51)
 refine oHead ?_
 refine oStR (enc:=Value.int .i64) n J J J J ZP (by show k<_;rw [← hrn];exact hkt) ?_
 refine oBack (kd:=Kd.int .i64) (W:=W0) (ei:=3) (hs:=ft.map hdT) (xss:=fr) (i:=i) (u:=(some ⟨g51,0,none⟩,n3,c3)) (xs:=r.set k n) ZP ZP (by rw [List.length_map];exact hil) (by rw [List.length_map];exact hzf) ?_
 rw [set_same (l:=ft.map hdT) (u:=(some ⟨g51,0,none⟩,n3,c3)) (by rw [List.getElem?_map,hu47];rfl)]
 refine oNilT (Zzk ?_)
 refine Zsa ?_
 refine Zn (Za (Zl (Zw (ZI ?_))))
 exact ⟨(⟨some ⟨g45,0,none⟩,cf,ft,fr.set i (r.set k n),Bd,cd,dt,dr⟩,e),⟨⟨by show _=(fr.set _ _).length;rw [List.length_set];exact hzf,hzd⟩,⟨rfl,rfl,like_set hr,rfl⟩⟩,rfl,Lh⟩
 refine wCut (ι:=Bool×Option Addr×Option Addr) (fun q=>[(2,.int .i64 n),(4,.pointer (some ⟨b4,0,none⟩)),(5,.pointer (some ⟨b5,0,none⟩)),(8,.pointer (some ⟨b8,0,none⟩)),(80,.bool q.1)]) (fun q=>[blk b4 29 [.slice q.2.1 ft.length cf,.slice q.2.2 dt.length cd,.int .i64 e],blk b5 23 [.int .i64 x,.int .i64 y],blk b8 29 [.slice none 0 0,.slice none 0 0,.int .i64 0],row kFunT W0 49 (.slice q.2.1 ft.length cf) ft,bun (rws (Kd.int .i64) W0 3 (ft.map hdT) fr),row kDatT W0 98 (.slice q.2.2 dt.length cd) dt,bun (rws (Kd.int .i64) W0 3 (dt.map hdT) dr)]) (fun q=>q.1=true→∃ i k:Nat,x=(i:Int)∧y=(k:Int)∧∃ t,dt[i]?=some t∧k<(hdT t).2.1) ?_ ?_
 refine wDraw2 J J [] [0,1,2,3,4,5,6,7,8,9,10,11,12,13,14,15,16,17,18,19,20,21,22,23,24,25,26,27] 28 ZK J J J (fun w0=>?_)
 refine oIdxA (i:=0) (m:=0) J J J J (by decide) J ?_
 refine Zld ?_
 refine Z2 J J (Zo J (ZS (ZT 55) (fun h55=>?_) (fun h55=>?_)))
 obtain ⟨i,rfl⟩:=Int.eq_ofNat_of_zero_le (show 0≤x from h55)
 refine Zq J J (oIdxA (i:=0) (m:=0) J J J J (by decide) J ?_)
 refine Zq J J (Zld ?_)
 refine Zq J J (Zz (n:=1) (m:=1) J J J (Zzg ?_))
 refine Zq J J (Zv J J (Zq J J (Zx J J (Zt J J (Zo J (ZS (ZT 63) (fun h63=>?_) (fun h63=>?_)))))))
 refine Zq J J (oIdxA (i:=1) (m:=1) J J J J (by decide) J ?_)
 refine Zq J J (Zld ?_)
 refine Zq J J (Z2 J J (Zt J J (Zo J (ZS (ZT 68) (fun h68=>?_) (fun h68=>?_)))))
 obtain ⟨k,rfl⟩:=Int.eq_ofNat_of_zero_le (show 0≤y by first | exact h68 | simpa using h68)
 have hif:i<dt.length:=by first | omega | (have:=of_decide_eq_true h63;omega)
 refine Zq J J (oIdxA (i:=1) (m:=1) J J J J (by decide) J ?_)
 refine Zq J J (Zld ?_)
 refine Zq J J (Zz (n:=1) (m:=1) J J J (Zzg ?_))
 refine Zq J J (oIdxA (i:=0) (m:=0) J J J J (by decide) J ?_)
 refine Zq J J (Zld ?_)
 refine Zq J J (ZR J J ZP ZO J J (fun g75 hg75=>?_))
 first | subst hg75 | (injection hg75 with hg75;injection hg75 with hg75;subst hg75)
 refine Zq J J (ZF (ZT 6) (ZT 6) ?_)
 refine Zq J J (oLdR (kd:=kDatT) J ZP ZO J J (fun u77 cs77 hu77 hk77=>⟨_,kDatT_hdr hk77,?_⟩))
 refine Zq J J (Zv J J (Zq J J (Zx J J (oHead (Zt J J (oNilT (Za ?_)))))))
 refine ⟨rfl,(_,_,_),?_,cv,Lh⟩;intro hq;first | focus (cases hq;done) | (exact ⟨i,k,rfl,rfl,u77,hu77,by have:=of_decide_eq_true hq;omega⟩)
 refine Zr J J J J (Zr J J J J (Zr J J J J (Zr J J J J (Zr J J J J (Zr J J J J (Zr J J J J (Zr J J J J (Zr J J J J (Zr J J J J (Zr J J J J (oHead (Zu J J (oNilT (Za ?_))))))))))))))
 refine ⟨rfl,(_,_,_),?_,cv,Lh⟩;intro hq;first | focus (cases hq;done) | (exact ⟨i,k,rfl,rfl,u77,hu77,by have:=of_decide_eq_true hq;omega⟩)
 refine Zr J J J J (Zr J J J J (Zr J J J J (Zu J J (Zo J (Zr J J J J (Zr J J J J (Zr J J J J (Zr J J J J (Zr J J J J (Zr J J J J (Zr J J J J (Zr J J J J (Zr J J J J (Zr J J J J (Zr J J J J (oHead (Zu J J (oNilT (Za ?_)))))))))))))))))))
 refine ⟨rfl,(_,_,_),?_,cv,Lh⟩;intro hq;first | focus (cases hq;done) | (exact ⟨i,k,rfl,rfl,u77,hu77,by have:=of_decide_eq_true hq;omega⟩)
 refine Zr J J J J (Zr J J J J (Zr J J J J (Zr J J J J (Zr J J J J (Zr J J J J (Zu J J (Zo J (Zr J J J J (Zr J J J J (Zr J J J J (Zu J J (Zo J (Zr J J J J (Zr J J J J (Zr J J J J (Zr J J J J (Zr J J J J (Zr J J J J (Zr J J J J (Zr J J J J (Zr J J J J (Zr J J J J (Zr J J J J (oHead (Zu J J (oNilT (Za ?_)))))))))))))))))))))))))))
 refine ⟨rfl,(_,_,_),?_,cv,Lh⟩;intro hq;first | focus (cases hq;done) | (exact ⟨i,k,rfl,rfl,u77,hu77,by have:=of_decide_eq_true hq;omega⟩)
 rintro ⟨q2,Cf,Cd⟩ hq2
 try dsimp only
 refine wC (fun h80=>?_) (fun h80=>?_)
 obtain ⟨i,k,rfl,rfl,t,ht,hkt⟩:=hq2 h80
 have hil:=(List.getElem?_eq_some_iff.1 ht).1
 refine wDraw2 J J [9] [0,1,2,3,4,5,6,7,8,10] 11 ZK J J J (fun w0=>?_)
 refine Zz (n:=1) (m:=1) J J J (Zld ?_)
 refine oIdxA (i:=0) (m:=0) J J J J (by decide) J ?_
 refine Zld ?_
 refine ZR J J ZP ZO J J (fun g85 hg85=>?_)
 first | subst hg85 | (injection hg85 with hg85;injection hg85 with hg85;subst hg85)
 refine ZF (ZT 6) (ZT 6) ?_
 refine oLdR (kd:=kDatT) J ZP ZO J J (fun u87 cs87 hu87 hk87=>⟨_,kDatT_hdr hk87,?_⟩)
 obtain rfl:u87=t:=Option.some.inj (hu87.symm.trans ht)
 obtain ⟨v0,v1,v2,v3,B3,n3,c3⟩:=u87
 obtain ⟨r,hr⟩:∃ r,dr[i]?=some r:=⟨_,List.getElem?_eq_getElem ZO⟩
 refine oFocus (kd:=Kd.int .i64) (W:=W0) (ei:=3) (hs:=dt.map hdT) (xss:=dr) (i:=i) (u:=(B3,n3,c3)) (xs:=r) ZP (by rw [List.getElem?_map,hu87];rfl) hr ?_
 refine oRoom (kd:=Kd.int .i64) (W0:=W0) (e:=3) (A:=B3) (n:=n3) (cp:=c3) (xs:=r) ZP (fun hrn hrc=>?_)
 refine oIdxA (i:=1) (m:=1) J J J J (by decide) J ?_
 refine Zld ?_
 refine ZR J J ZP (show k<n3 from hkt) J J (fun g91 hg91=>?_)
 first | subst hg91 | (injection hg91 with hg91;injection hg91 with hg91;subst hg91)
 refine oHead ?_
 refine oStR (enc:=Value.int .i64) n J J J J ZP (by show k<_;rw [← hrn];exact hkt) ?_
 refine oBack (kd:=Kd.int .i64) (W:=W0) (ei:=3) (hs:=dt.map hdT) (xss:=dr) (i:=i) (u:=(some ⟨g91,0,none⟩,n3,c3)) (xs:=r.set k n) ZP ZP (by rw [List.length_map];exact hil) (by rw [List.length_map];exact hzd) ?_
 rw [set_same (l:=dt.map hdT) (u:=(some ⟨g91,0,none⟩,n3,c3)) (by rw [List.getElem?_map,hu87];rfl)]
 refine oNilT (Zzk ?_)
 refine Zsa ?_
 refine Zn (Za (Zl (Zw (ZI ?_))))
 exact ⟨(⟨Cf,cf,ft,fr,some ⟨g85,0,none⟩,cd,dt,dr.set i (r.set k n)⟩,e),⟨⟨hzf,by show _=(dr.set _ _).length;rw [List.length_set];exact hzd⟩,⟨rfl,rfl,rfl,like_set hr⟩⟩,rfl,Lh⟩
 refine Zi (Zo J (Zz (n:=2) (m:=2) J J J (Zst ?_)))
 refine Zn (Zzk ?_)
 refine Zsa ?_
 refine Zn (Za (Zl (Zw (ZI ?_))))
 exact ⟨(⟨Cf,cf,ft,fr,Cd,cd,dt,dr⟩,n),⟨⟨hzf,hzd⟩,⟨rfl,rfl,rfl,rfl⟩⟩,rfl,Lh⟩
def two0:ApiFun:=⟨0,0,⟨#[109,97,105,110]⟩,⟨0,[0,1],0,false,3,4,[],[⟨17,1,0,0,0⟩,⟨20,0,1,0,0⟩,⟨21,0,0,0,0⟩,⟨24,0,0,0,0⟩],[⟨0,1,true⟩,⟨2,2,true⟩]⟩,[1,-1,2,-1]⟩
def two1:ApiFun:=⟨0,1,⟨#[102]⟩,⟨0,[],10,true,0,0,[],[⟨24,0,0,0,0⟩],[]⟩,[-1]⟩
def two2:ApiFun:=⟨0,2,⟨#[103]⟩,⟨0,[],70,false,0,0,[],[⟨24,0,0,0,0⟩],[]⟩,[-1]⟩
def two3:ApiFun:=⟨0,3,⟨#[104]⟩,⟨0,[],0,false,0,0,[],[⟨19,0,0,0,0⟩,⟨24,0,0,0,0⟩],[⟨0,3,true⟩]⟩,[3,-1]⟩
def twoL:List ApiFun:=[two0,two1,two2,two3]
def twoP:ApiProgram:=⟨twoL,[],0⟩
theorem two_C {w:World}{b5 b10 b13 b15 b18 b20 b23 b25 b29 b31 b33 b39:Nat}(hb5:(blk b5 3 [.int .i64 0,.int .i64 1]).q w) (hb10:(blk b10 51 [.int .i64 17,.int .i64 1,.int .i64 0,.int .i64 0,.int .i64 0,.int .i64 20,.int .i64 0,.int .i64 1,.int .i64 0,.int .i64 0,.int .i64 21,.int .i64 0,.int .i64 0,.int .i64 0,.int .i64 0,.int .i64 24,.int .i64 0,.int .i64 0,.int .i64 0,.int .i64 0]).q w) (hb13:(blk b13 147 [.int .i64 0,.int .i64 1,.bool true,.int .i64 2,.int .i64 2,.bool true]).q w) (hb15:(blk b15 3 [.int .i64 1,.int .i64 (-1),.int .i64 2,.int .i64 (-1)]).q w) (hb18:(blk b18 51 [.int .i64 24,.int .i64 0,.int .i64 0,.int .i64 0,.int .i64 0]).q w) (hb20:(blk b20 3 [.int .i64 (-1)]).q w) (hb23:(blk b23 51 [.int .i64 24,.int .i64 0,.int .i64 0,.int .i64 0,.int .i64 0]).q w) (hb25:(blk b25 3 [.int .i64 (-1)]).q w) (hb29:(blk b29 51 [.int .i64 19,.int .i64 0,.int .i64 0,.int .i64 0,.int .i64 0,.int .i64 24,.int .i64 0,.int .i64 0,.int .i64 0,.int .i64 0]).q w) (hb31:(blk b31 147 [.int .i64 0,.int .i64 3,.bool true]).q w) (hb33:(blk b33 3 [.int .i64 3,.int .i64 (-1)]).q w) (hb39:(blk b39 49 [.int .i64 0,.int .i64 0,.string ⟨#[109,97,105,110]⟩,.int .i64 0,.slice (some ⟨b5,0,none⟩) 2 2,.int .i64 0,.bool false,.int .i64 3,.int .i64 4,.slice none 0 0,.slice (some ⟨b10,0,none⟩) 4 4,.slice (some ⟨b13,0,none⟩) 2 2,.slice (some ⟨b15,0,none⟩) 4 4,.int .i64 0,.int .i64 1,.string ⟨#[102]⟩,.int .i64 0,.slice none 0 0,.int .i64 10,.bool true,.int .i64 0,.int .i64 0,.slice none 0 0,.slice (some ⟨b18,0,none⟩) 1 1,.slice none 0 0,.slice (some ⟨b20,0,none⟩) 1 1,.int .i64 0,.int .i64 2,.string ⟨#[103]⟩,.int .i64 0,.slice none 0 0,.int .i64 70,.bool false,.int .i64 0,.int .i64 0,.slice none 0 0,.slice (some ⟨b23,0,none⟩) 1 1,.slice none 0 0,.slice (some ⟨b25,0,none⟩) 1 1,.int .i64 0,.int .i64 3,.string ⟨#[104]⟩,.int .i64 0,.slice none 0 0,.int .i64 0,.bool false,.int .i64 0,.int .i64 0,.slice none 0 0,.slice (some ⟨b29,0,none⟩) 2 2,.slice (some ⟨b31,0,none⟩) 1 1,.slice (some ⟨b33,0,none⟩) 2 2]).q w):kApiFun.C w (some ⟨b39,0,none⟩) twoL:=
 C_blk (kd:=kApiFun) hb39 (by decide) ⟨_,_,rfl,kApiFun_mk w two0 (c0:=2) (c1:=0) (c2:=4) (c3:=2) (c4:=4) (by decide) (C_blk (kd:=Kd.int .i64) hb5 (by decide) (cat_scalar.2 rfl)) (by decide) (Kd.C_nil _ _ _) (by decide) (C_blk (kd:=kApiInstr) hb10 (by decide) ⟨_,_,rfl,kApiInstr_mk w ⟨17,1,0,0,0⟩,⟨_,_,rfl,kApiInstr_mk w ⟨20,0,1,0,0⟩,⟨_,_,rfl,kApiInstr_mk w ⟨21,0,0,0,0⟩,⟨_,_,rfl,kApiInstr_mk w ⟨24,0,0,0,0⟩,rfl⟩⟩⟩⟩) (by decide) (C_blk (kd:=kApiReloc) hb13 (by decide) ⟨_,_,rfl,kApiReloc_mk w ⟨0,1,true⟩,⟨_,_,rfl,kApiReloc_mk w ⟨2,2,true⟩,rfl⟩⟩) (by decide) (C_blk (kd:=Kd.int .i64) hb15 (by decide) (cat_scalar.2 rfl)),_,_,rfl,kApiFun_mk w two1 (c0:=0) (c1:=0) (c2:=1) (c3:=0) (c4:=1) (by decide) (Kd.C_nil _ _ _) (by decide) (Kd.C_nil _ _ _) (by decide) (C_blk (kd:=kApiInstr) hb18 (by decide) ⟨_,_,rfl,kApiInstr_mk w ⟨24,0,0,0,0⟩,rfl⟩) (by decide) (Kd.C_nil _ _ _) (by decide) (C_blk (kd:=Kd.int .i64) hb20 (by decide) (cat_scalar.2 rfl)),_,_,rfl,kApiFun_mk w two2 (c0:=0) (c1:=0) (c2:=1) (c3:=0) (c4:=1) (by decide) (Kd.C_nil _ _ _) (by decide) (Kd.C_nil _ _ _) (by decide) (C_blk (kd:=kApiInstr) hb23 (by decide) ⟨_,_,rfl,kApiInstr_mk w ⟨24,0,0,0,0⟩,rfl⟩) (by decide) (Kd.C_nil _ _ _) (by decide) (C_blk (kd:=Kd.int .i64) hb25 (by decide) (cat_scalar.2 rfl)),_,_,rfl,kApiFun_mk w two3 (c0:=0) (c1:=0) (c2:=2) (c3:=1) (c4:=2) (by decide) (Kd.C_nil _ _ _) (by decide) (Kd.C_nil _ _ _) (by decide) (C_blk (kd:=kApiInstr) hb29 (by decide) ⟨_,_,rfl,kApiInstr_mk w ⟨19,0,0,0,0⟩,⟨_,_,rfl,kApiInstr_mk w ⟨24,0,0,0,0⟩,rfl⟩⟩) (by decide) (C_blk (kd:=kApiReloc) hb31 (by decide) ⟨_,_,rfl,kApiReloc_mk w ⟨0,3,true⟩,rfl⟩) (by decide) (C_blk (kd:=Kd.int .i64) hb33 (by decide) (cat_scalar.2 rfl)),rfl⟩
theorem two_small:SmallP twoP:=⟨by decide,by decide,by decide,by decide⟩
theorem two_K {w:World}{A:Option Addr}{cp:Nat}(h:kApiFun.C w A twoL) (hc:4≤cp):kApiProgram.K w twoP [.slice A 4 cp,.slice none 0 0,.int .i64 0]:=kApiProgram_mk w twoP (A0:=A) (A1:=none) (c0:=cp) (c1:=0) hc h (by decide) (Kd.C_nil _ _ _)
theorem law_Two {B:Base}{w:World}(hS:St B [] w) (W0:World) :
 CW 69 #[] w (Ret B (fun _:Option Addr×(Nat→Prop)=>True) (fun z=>.agg #[.slice z.1 4 4,.slice none 0 0,.int .i64 0]) (fun z=>[rdr W0 z.2 kApiFun z.1 twoL])):=by
 refine ZX Tryz.func69 hS ?_
 refine Zh (Zi (oAlloc J ZP (fun b0=>?_)))
 refine Zn (Za (Zh (Zi ?_)))
 refine oBuildSliceF (Parts.cons J (Parts.cons J Parts.nil)) J J J J J (Fulls.cons ZP J (Fulls.cons ZP J Fulls.nil ap) ap) (fun b5=>?_)
 refine oBuild (Parts.cons J (Parts.cons J Parts.nil)) J J (Built.cons (off:=0) (s:=1) J ZP J ZP (Built.cons (off:=1) (s:=1) J ZP J ZP Built.nil)) ?_
 refine oBuild (Parts.cons J (Parts.cons J Parts.nil)) J J (Built.cons (off:=0) (s:=1) J ZP J ZP (Built.cons (off:=2) (s:=1) J ZP J ZP Built.nil)) ?_
 refine oBuild (Parts.cons J Parts.nil) J J (Built.cons (off:=0) (s:=1) J ZP J ZP Built.nil) ?_
 refine oBuild (Parts.cons J Parts.nil) J J (Built.cons (off:=0) (s:=1) J ZP J ZP Built.nil) ?_
 refine oBuildSliceF (Parts.cons J (Parts.cons J (Parts.cons J (Parts.cons J Parts.nil)))) J J J J J (Fulls.cons ZP J (Fulls.cons ZP J (Fulls.cons ZP J (Fulls.cons ZP J Fulls.nil ap) ap) ap) ap) (fun b10=>?_)
 refine oBuild (Parts.cons J (Parts.cons J (Parts.cons J Parts.nil))) J J (Built.cons (off:=0) (s:=1) J ZP J ZP (Built.cons (off:=1) (s:=1) J ZP J ZP (Built.cons (off:=2) (s:=1) J ZP J ZP Built.nil))) ?_
 refine oBuild (Parts.cons J (Parts.cons J (Parts.cons J Parts.nil))) J J (Built.cons (off:=0) (s:=1) J ZP J ZP (Built.cons (off:=1) (s:=1) J ZP J ZP (Built.cons (off:=2) (s:=1) J ZP J ZP Built.nil))) ?_
 refine oBuildSliceF (Parts.cons J (Parts.cons J Parts.nil)) J J J J J (Fulls.cons ZP J (Fulls.cons ZP J Fulls.nil ap) ap) (fun b13=>?_)
 refine oBuild (Parts.cons J (Parts.cons J (Parts.cons J (Parts.cons J (Parts.cons J Parts.nil))))) J J (Built.cons (off:=1) (s:=1) J ZP J ZP (Built.cons (off:=7) (s:=1) J ZP J ZP (Built.cons (off:=4) (s:=1) J ZP J ZP (Built.cons (off:=5) (s:=1) J ZP J ZP (Built.cons (off:=8) (s:=1) J ZP J ZP Built.nil))))) ?_
 refine oBuildSliceF (Parts.cons J (Parts.cons J (Parts.cons J (Parts.cons J Parts.nil)))) J J J J J (Fulls.cons ZP J (Fulls.cons ZP J (Fulls.cons ZP J (Fulls.cons ZP J Fulls.nil ap) ap) ap) ap) (fun b15=>?_)
 refine oBuild (Parts.cons J (Parts.cons J (Parts.cons J Parts.nil))) J J (Built.cons (off:=2) (s:=1) J ZP J ZP (Built.cons (off:=3) (s:=9) J ZP J ZP (Built.cons (off:=12) (s:=1) J ZP J ZP Built.nil))) ?_
 refine oAlloc J ZP (fun b1=>?_)
 refine Zsa ?_
 refine Zn (Za (Zh (Zi (oBuild (Parts.cons J Parts.nil) J J (Built.cons (off:=0) (s:=1) J ZP J ZP Built.nil) ?_))))
 refine oBuildSlice1 J J J J J ZP J (fun b18=>?_)
 refine oBuild (Parts.cons J (Parts.cons J (Parts.cons J Parts.nil))) J J (Built.cons (off:=3) (s:=1) J ZP J ZP (Built.cons (off:=2) (s:=1) J ZP J ZP (Built.cons (off:=7) (s:=1) J ZP J ZP Built.nil))) ?_
 refine oBuildSlice1 J J J J J ZP J (fun b20=>?_)
 refine oBuild (Parts.cons J (Parts.cons J (Parts.cons J (Parts.cons J Parts.nil)))) J J (Built.cons (off:=1) (s:=1) J ZP J ZP (Built.cons (off:=2) (s:=1) J ZP J ZP (Built.cons (off:=3) (s:=9) J ZP J ZP (Built.cons (off:=12) (s:=1) J ZP J ZP Built.nil)))) ?_
 refine oAlloc J ZP (fun b2=>?_)
 refine Zsa ?_
 refine Zn (Za (Zh (Zi (oBuild (Parts.cons J Parts.nil) J J (Built.cons (off:=0) (s:=1) J ZP J ZP Built.nil) ?_))))
 refine oBuildSlice1 J J J J J ZP J (fun b23=>?_)
 refine oBuild (Parts.cons J (Parts.cons J Parts.nil)) J J (Built.cons (off:=2) (s:=1) J ZP J ZP (Built.cons (off:=7) (s:=1) J ZP J ZP Built.nil)) ?_
 refine oBuildSlice1 J J J J J ZP J (fun b25=>?_)
 refine oBuild (Parts.cons J (Parts.cons J (Parts.cons J (Parts.cons J Parts.nil)))) J J (Built.cons (off:=1) (s:=1) J ZP J ZP (Built.cons (off:=2) (s:=1) J ZP J ZP (Built.cons (off:=3) (s:=9) J ZP J ZP (Built.cons (off:=12) (s:=1) J ZP J ZP Built.nil)))) ?_
 refine oAlloc J ZP (fun b3=>?_)
 refine Zsa ?_
 refine Zn (Za (Zh (Zi (oBuild (Parts.cons J Parts.nil) J J (Built.cons (off:=0) (s:=1) J ZP J ZP Built.nil) ?_))))
 refine oBuild (Parts.cons J Parts.nil) J J (Built.cons (off:=0) (s:=1) J ZP J ZP Built.nil) ?_
 refine oBuildSliceF (Parts.cons J (Parts.cons J Parts.nil)) J J J J J (Fulls.cons ZP J (Fulls.cons ZP J Fulls.nil ap) ap) (fun b29=>?_)
 refine oBuild (Parts.cons J (Parts.cons J (Parts.cons J Parts.nil))) J J (Built.cons (off:=0) (s:=1) J ZP J ZP (Built.cons (off:=1) (s:=1) J ZP J ZP (Built.cons (off:=2) (s:=1) J ZP J ZP Built.nil))) ?_
 refine oBuildSlice1 J J J J J ZP J (fun b31=>?_)
 refine oBuild (Parts.cons J (Parts.cons J Parts.nil)) J J (Built.cons (off:=7) (s:=1) J ZP J ZP (Built.cons (off:=8) (s:=1) J ZP J ZP Built.nil)) ?_
 refine oBuildSliceF (Parts.cons J (Parts.cons J Parts.nil)) J J J J J (Fulls.cons ZP J (Fulls.cons ZP J Fulls.nil ap) ap) (fun b33=>?_)
 refine oBuild (Parts.cons J (Parts.cons J (Parts.cons J (Parts.cons J Parts.nil)))) J J (Built.cons (off:=1) (s:=1) J ZP J ZP (Built.cons (off:=2) (s:=1) J ZP J ZP (Built.cons (off:=3) (s:=9) J ZP J ZP (Built.cons (off:=12) (s:=1) J ZP J ZP Built.nil)))) ?_
 refine oAlloc J ZP (fun b4=>?_)
 refine Zsa ?_
 refine Zn (Zzk ?_)
 refine Zla ?_
 refine Zla ?_
 refine Zla ?_
 refine oBuildSliceF (Parts.cons J (Parts.cons J (Parts.cons J (Parts.cons J Parts.nil)))) J J J J J (Fulls.cons ZP J (Fulls.cons ZP J (Fulls.cons ZP J (Fulls.cons ZP J Fulls.nil ap) ap) ap) ap) (fun b39=>?_)
 refine oBuild (Parts.cons J Parts.nil) J J (Built.cons (off:=0) (s:=1) J ZP J ZP Built.nil) ?_
 refine oSeal (W:=W0) (kd:=kApiFun) (A:=some ⟨b39,0,none⟩) (xs:=twoL) [blk b5 3 [.int .i64 0,.int .i64 1],blk b10 51 [.int .i64 17,.int .i64 1,.int .i64 0,.int .i64 0,.int .i64 0,.int .i64 20,.int .i64 0,.int .i64 1,.int .i64 0,.int .i64 0,.int .i64 21,.int .i64 0,.int .i64 0,.int .i64 0,.int .i64 0,.int .i64 24,.int .i64 0,.int .i64 0,.int .i64 0,.int .i64 0],blk b13 147 [.int .i64 0,.int .i64 1,.bool true,.int .i64 2,.int .i64 2,.bool true],blk b15 3 [.int .i64 1,.int .i64 (-1),.int .i64 2,.int .i64 (-1)],blk b18 51 [.int .i64 24,.int .i64 0,.int .i64 0,.int .i64 0,.int .i64 0],blk b20 3 [.int .i64 (-1)],blk b23 51 [.int .i64 24,.int .i64 0,.int .i64 0,.int .i64 0,.int .i64 0],blk b25 3 [.int .i64 (-1)],blk b29 51 [.int .i64 19,.int .i64 0,.int .i64 0,.int .i64 0,.int .i64 0,.int .i64 24,.int .i64 0,.int .i64 0,.int .i64 0,.int .i64 0],blk b31 147 [.int .i64 0,.int .i64 3,.bool true],blk b33 3 [.int .i64 3,.int .i64 (-1)],blk b39 49 [.int .i64 0,.int .i64 0,.string ⟨#[109,97,105,110]⟩,.int .i64 0,.slice (some ⟨b5,0,none⟩) 2 2,.int .i64 0,.bool false,.int .i64 3,.int .i64 4,.slice none 0 0,.slice (some ⟨b10,0,none⟩) 4 4,.slice (some ⟨b13,0,none⟩) 2 2,.slice (some ⟨b15,0,none⟩) 4 4,.int .i64 0,.int .i64 1,.string ⟨#[102]⟩,.int .i64 0,.slice none 0 0,.int .i64 10,.bool true,.int .i64 0,.int .i64 0,.slice none 0 0,.slice (some ⟨b18,0,none⟩) 1 1,.slice none 0 0,.slice (some ⟨b20,0,none⟩) 1 1,.int .i64 0,.int .i64 2,.string ⟨#[103]⟩,.int .i64 0,.slice none 0 0,.int .i64 70,.bool false,.int .i64 0,.int .i64 0,.slice none 0 0,.slice (some ⟨b23,0,none⟩) 1 1,.slice none 0 0,.slice (some ⟨b25,0,none⟩) 1 1,.int .i64 0,.int .i64 3,.string ⟨#[104]⟩,.int .i64 0,.slice none 0 0,.int .i64 0,.bool false,.int .i64 0,.int .i64 0,.slice none 0 0,.slice (some ⟨b29,0,none⟩) 2 2,.slice (some ⟨b31,0,none⟩) 1 1,.slice (some ⟨b33,0,none⟩) 2 2]] ZQ (fun w hq _=>two_C (b5:=b5) (b10:=b10) (b13:=b13) (b15:=b15) (b18:=b18) (b20:=b20) (b23:=b23) (b25:=b25) (b29:=b29) (b31:=b31) (b33:=b33) (b39:=b39) (hq _ _ ZP) (hq _ _ ZP) (hq _ _ ZP) (hq _ _ ZP) (hq _ _ ZP) (hq _ _ ZP) (hq _ _ ZP) (hq _ _ ZP) (hq _ _ ZP) (hq _ _ ZP) (hq _ _ ZP) (hq _ _ ZP)) (fun S=>?_)
 refine Zsa ?_
 refine Zn (Za (Zl (Zw (ZI ?_))))
 exact ⟨(some ⟨b39,0,none⟩,S),trivial,rfl,Lh⟩
theorem two_V:twoP.fFuns.map (valuesF twoP)=[[1],[],[],[]]:=by decide
theorem two_R:twoP.fFuns.map (refersF twoP)=[[1,2],[],[],[3]]:=by decide
theorem opens_arr2 {P:Program}{t e:TypeId}(ht:P.underlying t=some (.array 2 e)) (hc:P.cellsOf e=1) (hl:P.cellsOf t=2) (he:P.underlying e=some (.int .i64)):Opens P t (Kd.pair (Kd.int .i64) (Kd.int .i64)) (fun _=>True):=by
  constructor
  intro H enc w base held fuel cs x hx
  obtain ⟨xs,m,_,rfl,hl',hlen,hf⟩:=DataW.trod_array ht hx
  rw [hl] at hl'
  match cs,hl' with
  | [u0,u1],_=>
    have key:∀ i,i<2→∃ a:Int,[u0,u1][i]?=some (.int .i64 a):=by
      intro i hi
      have h1:=hf i hi
      rw [hc,Nat.mul_one,List.getElem?_eq_getElem (show i<xs.length by omega)] at h1
      obtain ⟨a,hK,_⟩:=(opens_int he).get enc w base held m _ _ h1
      have hK':([u0,u1].drop i).take 1=[.int .i64 a]:=hK
      refine ⟨a,?_⟩
      have h2:(([u0,u1].drop i).take 1)[0]?=some (.int .i64 a):=by rw [hK'];rfl
      rw [List.getElem?_take,List.getElem?_drop] at h2
      simpa using h2
    obtain ⟨a0,h0⟩:=key 0 ZO
    obtain ⟨a1,h1⟩:=key 1 ZO
    simp at h0 h1
    subst h0 h1
    exact ⟨(a0,a1),⟨[.int .i64 a0],[.int .i64 a1],rfl,rfl,rfl⟩,trivial⟩
abbrev mainS:ByteArray:=⟨#[109,97,105,110]⟩
theorem ref01_Bools {B:Base}{w:World}(hS:St B [] w) (l:List Bool) (A:Option Addr) (cp:Nat) (hC:Kd.bool.C B.e A l) (A1:Option Addr) (cp1:Nat) (hC1:Kd.bool.C B.e A1 l) :
 CW 28 #[.slice A l.length cp,.slice A1 l.length cp1] w (Ret B (fun _:Unit=>True) (fun _=>.bool true) (fun _=>[])):=by
 have hgl:=hC.1
 refine ZX Tryz.func28 hS ?_
 refine Zh (Zi (Zp J (Zn (Za (Zh (Zh (Zi (Zo J (Zv J J (Zo J (Zv J J (Z0 J J (Zn (Za (wC (fun h10=>?_) (fun h10=>?_))))))))))))))))
 exact absurd rfl h10
 refine Zj (Za (Zh (Zh (Zi (Zp J (Zn (Za (Zk (wLoop (ι:=Nat) (fun i=>[(0,.slice A l.length cp),(1,.slice A1 l.length cp1),(5,.int .i64 (i:Int))]) (fun i=>[]) (fun i=>i≤l.length) (fun i=>l.length-i) 0 ?_ cv Lh ?_)))))))))
 exact Nat.zero_le _
 rintro i hi
 try dsimp only
 refine Zh (Zh (Zi (Zo J (Zo J (Zv J J (Zx J J (Zn (Za (wC (fun h14=>?_) (fun h14=>?_))))))))))
 obtain ⟨x,hx⟩:∃ x,l[i]?=some x:=⟨_,List.getElem?_eq_getElem ZO⟩
 obtain ⟨e1,cs1,hE⟩:=hC.elm hx
 obtain rfl:=(show cs1=[Value.bool x] from hE.K)
 obtain ⟨e2,cs2,hE2⟩:=hC1.elm hx
 obtain rfl:=(show cs2=[Value.bool x] from hE2.K)
 refine Zj (Za (Zh (Zk (Zh (wDraw2 J J [0,1,4,5] [2,3,6,7] 8 ZK J J J (fun w0=>?_))))))
 refine oIdxE J J (hE) ZO J J ?_
 have hc19:=(hE).cell
 refine Zlx hc19 ?_
 refine oIdxE J J (hE2) ZO J J ?_
 have hc23:=(hE2).cell
 refine Zlx hc23 ?_
 refine oHead (oNeqBool J J J (oNilT (Za (wC (fun h25=>?_) (fun h25=>?_)))))
 exact absurd rfl h25
 refine Zj (Zzd ?_)
 refine Zp J (Zn (Za ?_))
 exact ⟨rfl,i+1,by omega,by omega,cv,Lh⟩
 refine Zm (Zzj ?_)
 exact ⟨(),trivial,rfl,Lh⟩
theorem ref01_Bools' {B:Base}{w:World}(hS:St B [] w) (l:List Bool) (n:Nat) (hn:l.length=n) (A:Option Addr) (cp:Nat) (hC:Kd.bool.C B.e A l) (A1:Option Addr) (cp1:Nat) (hC1:Kd.bool.C B.e A1 l) :
 CW 28 #[.slice A n cp,.slice A1 n cp1] w (Ret B (fun _:Unit=>True) (fun _=>.bool true) (fun _=>[])):=by
 subst hn
 exact ref01_Bools hS l A cp hC A1 cp1 hC1
theorem reachB_of {g:Graph}{f:List Int}{l:List Bool}(hl:l.length=g.length) (hs:∀ x ∈ f,inG g x=true→l[x.toNat]?=some true) (hc:∀ a<g.length,∀ b ∈ endsOf g a,l[a]?=some true→l[b.toNat]?=some true)
 (hr:∀ i<g.length,l[i]?=some true→RP g f (i:Int)):reachB g f=l:=by
 refine reach_uniq hl (fun i=>⟨fun h=>hr i ?_ h,fun h=>?_⟩)
 · have:=(List.getElem?_eq_some_iff.1 h).1;omega
 · have key : ∀ x, RP g f x → l[x.toNat]? = some true := by
    intro x hx
    induction hx with
    | start h1 h2=>exact hs _ h1 h2
    | @step a b h1 h2 ih=>
     have:=(inG_iff.1 h1.inG).2
     exact hc a ZO _ h2 ih
   exact key _ h
theorem two_live:liveL twoP=[true,true,true,false]:=by
  unfold liveL
  rw [two_R]
  have h0:RP [[1,2],[],[],[3]] [twoP.fEntry] ((0:Nat):Int):=.start (by decide) (by decide)
  refine reachB_of J (by decide) (by decide) (fun i hi h=>?_)
  match i,hi,h with
  | 0,_,_=>exact h0
  | 1,_,_=>exact .step h0 (by decide)
  | 2,_,_=>exact .step h0 (by decide)
  | 3,_,h=>exact absurd h (by decide)
theorem two_taken:takenL twoP=[false,true,false,false]:=by
  refine bools_eq (by rw [takenL_len];rfl) (fun k=>?_)
  rw [takenL_at]
  constructor
  · rintro ⟨hk,i,f,hf,_,hv⟩
    have h1:(twoP.fFuns.map (valuesF twoP))[i]?=some (valuesF twoP f):=by rw [List.getElem?_map,hf];rfl
    rw [two_V] at h1
    match i,h1 with
    | 0, h1 => obtain h1 := Option.some.inj h1; rw [← h1] at hv; simp at hv; obtain rfl : k = 1 := by omega
               rfl
    | 1,h1=>obtain h1:=Option.some.inj h1;rw [← h1] at hv;cases hv
    | 2,h1=>obtain h1:=Option.some.inj h1;rw [← h1] at hv;cases hv
    | 3,h1=>obtain h1:=Option.some.inj h1;rw [← h1] at hv;cases hv
  · intro h
    obtain rfl:k=1:=by
      match k,h with
      | 0,h=>exact absurd h (by decide)
      | 1,_=>rfl
      | 2,h=>exact absurd h (by decide)
      | 3,h=>exact absurd h (by decide)
    exact ⟨by decide,0,two0,rfl,by unfold lv;rw [two_live];rfl,by decide⟩
theorem two_graph:graphF twoP=[[1,2],[],[],[]]:=by
 unfold graphF
 simp only [rowF,partF,two_live,two_taken]
 decide
theorem two_called:calledL twoP=[true,true,true,false]:=by
  unfold calledL
  rw [two_graph]
  have h0:RP [[1,2],[],[],[]] [twoP.fEntry] ((0:Nat):Int):=.start (by decide) (by decide)
  refine reachB_of J (by decide) (by decide) (fun i hi h=>?_)
  match i,hi,h with
  | 0,_,_=>exact h0
  | 1,_,_=>exact .step h0 (by decide)
  | 2,_,_=>exact .step h0 (by decide)
  | 3,_,h=>exact absurd h (by decide)
theorem graph_at {p:ApiProgram}{i:Nat}(hi:i<p.fFuns.length):(graphF p)[i]?=some (ris (rowF p i) p.fFuns.length):=by
 unfold graphF
 rw [List.getElem?_map,List.getElem?_range hi];rfl
theorem ends_graph {p:ApiProgram}{i:Nat}(hi:i<p.fFuns.length) {x:Int} : x ∈ endsOf (graphF p) i↔x ∈ ris (rowF p i) p.fFuns.length:=by
 unfold endsOf
 rw [getD_at (graph_at hi),List.mem_filter,inG_iff,graphF_len]
 exact ⟨fun h=>h.1,fun h=>⟨h,(mem_ris.1 h).2⟩⟩
end Go.Proofs.YtogaiijhicfoaaaGreatU
namespace Go.Proofs.YtogaiijhicfoaaaGreatY
set_option maxRecDepth 100000
set_option maxHeartbeats 4000000
open Go.RowKit Go.Proofs.YtogaiijhicfoaaaGreatK Go.Proofs.YtogaiijhicfoaaaGreatT Go.Proofs.YtogaiijhicfoaaaGreatL Go.Proofs.YtogaiijhicfoaaaGreatV Go.Proofs.YtogaiijhicfoaaaGreatG Go.Proofs.YtogaiijhicfoaaaGreatW Go.Proofs.YtogaiijhicfoaaaGreatU

def nearF (x lo hi:Int):Int:=if x<lo then lo else if hi<x then hi else x
theorem num_Near {B:Base}{w:World}(hS:St B [] w) (x lo hi:Int):CW 166 #[.int .i64 x,.int .i64 lo,.int .i64 hi] w (Ret B (fun _:Unit=>True) (fun _=>.int .i64 (nearF x lo hi)) (fun _=>[])):=by
 refine ZX Tryz.func166 hS ?_
 refine Zh (Zi (Zp J (Zn (Za (Zh (Zk (Zh (Zi (Zo J (Zo J (Zx J J (Zp J (Zn (Za (wC (fun h7=>?_) (fun h7=>?_))))))))))))))))
 refine Zh (Zi (Zo J (Zzs ?_)))
 exact ⟨(),trivial,by unfold nearF;rw [if_pos (by first | omega | simpa using h7)];rfl,Lh⟩
 refine Zh (Zi (Zo J (Zo J (Z1 J J (Zp J (Zn (Za (wC (fun h12=>?_) (fun h12=>?_)))))))))
 refine Zh (Zi (Zo J (Zzs ?_)))
 exact ⟨(),trivial,by unfold nearF;rw [if_neg (by first | omega | simpa using h7),if_pos (by first | omega | simpa using h12)];rfl,Lh⟩
 refine Zj (Zd (Za (Zh (Zi (Zo J (Zza ?_))))))
 exact ⟨(),trivial,by unfold nearF;rw [if_neg (by first | omega | simpa using h7),if_neg (by first | omega | simpa using h12)];rfl,Lh⟩
theorem ref01_Near {B:Base}{w:World}(hS:St B [] w) (x lo hi:Int):CW 169 #[.int .i64 x,.int .i64 lo,.int .i64 hi] w (Ret B (fun _:Unit=>True) (fun _=>.int .i64 (nearF x lo hi)) (fun _=>[])):=by
 refine ZX Tryz.func169 hS ?_
 refine Zh (Zi (Zp J (Zn (Za (Zh (Zh (Zi (Zo J (Zo J (Zx J J (Zn (Za (wC (fun h9=>?_) (fun h9=>?_))))))))))))))
 refine Zh (Zi (Zo J (Zze ?_)))
 exact ⟨(),trivial,by unfold nearF;rw [if_pos (by first | omega | simpa using h9)];rfl,Lh⟩
 refine Zj (Za (Zh (Zh (Zi (Zo J (Zo J (Z1 J J (Zn (Za (wC (fun h13=>?_) (fun h13=>?_)))))))))))
 refine Zh (Zi (Zo J (Zze ?_)))
 exact ⟨(),trivial,by unfold nearF;rw [if_neg (by first | omega | simpa using h9),if_pos (by first | omega | simpa using h13)];rfl,Lh⟩
 refine Zj (Za (Zh (Zi (Zo J (Zza ?_)))))
 exact ⟨(),trivial,by unfold nearF;rw [if_neg (by first | omega | simpa using h9),if_neg (by first | omega | simpa using h13)];rfl,Lh⟩
theorem near_in (x:Int):0≤nearF x 0 1048576∧nearF x 0 1048576≤1048576:=by 
 unfold nearF
 split
 · omega
 · split <;> omega
def frameN (f:ApiFunc):Int:=(f.fKinds.length:Int)+nearF f.fPad 0 1048576
theorem fun_Frame {B:Base}{w:World}(hS:St B [] w) (f:ApiFunc) (fc:List Value) (hf:kApiFunc.K B.e f fc) (hk:f.fKinds.length≤1000):CW 112 #[.agg fc.toArray] w (Ret B (fun _:Unit=>True) (fun _=>.int .i64 (frameN f)) (fun _=>[])):=by
 obtain ⟨A0,c0,A1,c1,A2,c2,A3,c3,rfl,m0,q0,m1,q1,m2,q2,m3,q3⟩:=kApiFunc_open hf
 have hn:=near_in f.fPad
 have hb:=q0.1
 refine ZX Tryz.func112 hS ?_
 refine Zh (Zi (oBox J ZP (fun b1=>?_)))
 refine Zp J (Zn (Za (Zh (wDrawG J [0,1,2,3,4] [(5,[0,1,2],[6])] [7] 24 ZK J J (fun w0=>?_)))))
 refine Zz (n:=1) (m:=1) J J J (Zld ?_)
 refine Zv J J (Zz (n:=2) (m:=2) J J J (Zld ?_))
 refine Z4 (Z5 J ?_)
 (refine ZC0 rfl ZK (fun w hS=>frame hS ZQ (fun B' hB hS'=>num_Near hS' f.fPad 0 1048576)) ?_;rintro ⟨⟩ -)
 refine ZG ?_ J (fun w0=>?_)
 refine Z8 J J J J (fun w0=>?_) ?_
 refine Zz (n:=1) (m:=1) J J J ?_
 exact Z9 rfl
 refine Z8 J J J J (fun w0=>?_) ?_
 refine Zld ?_
 exact Z9 rfl
 refine Z8 J J J J (fun w0=>?_) ?_
 refine Zv J J ?_
 exact Z9 rfl
 exact AgainG.nil
 refine oAdd J J ZO ?_
 refine Z6 (Zza ?_)
 exact ⟨(),trivial,rfl,Lh⟩
theorem ref16_Frame {B:Base}{w:World}(hS:St B [] w) (f:ApiFunc) (fc:List Value) (hf:kApiFunc.K B.e f fc) (hk:f.fKinds.length≤1000):CW 115 #[.agg fc.toArray] w (Ret B (fun _:Unit=>True) (fun _=>.int .i64 (frameN f)) (fun _=>[])):=by
 obtain ⟨A0,c0,A1,c1,A2,c2,A3,c3,rfl,m0,q0,m1,q1,m2,q2,m3,q3⟩:=kApiFunc_open hf
 have hn:=near_in f.fPad
 have hb:=q0.1
 refine ZX Tryz.func115 hS ?_
 refine Zh (Zi (oBox J ZP (fun b1=>?_)))
 refine Zp J (Zn (Za (Zh (wDrawG J [0,1,2,3,4] [(5,[0,1,2],[6])] [7] 24 ZK J J (fun w0=>?_)))))
 refine Zz (n:=1) (m:=1) J J J (Zld ?_)
 refine Zv J J (Zz (n:=2) (m:=2) J J J (Zld ?_))
 refine Z4 (Z5 J ?_)
 (refine ZC0 rfl ZK (fun w hS=>frame hS ZQ (fun B' hB hS'=>ref01_Near hS' f.fPad 0 1048576)) ?_;rintro ⟨⟩ -)
 refine ZG ?_ J (fun w0=>?_)
 refine Z8 J J J J (fun w0=>?_) ?_
 refine Zz (n:=1) (m:=1) J J J ?_
 exact Z9 rfl
 refine Z8 J J J J (fun w0=>?_) ?_
 refine Zld ?_
 exact Z9 rfl
 refine Z8 J J J J (fun w0=>?_) ?_
 refine Zv J J ?_
 exact Z9 rfl
 exact AgainG.nil
 refine oAdd J J ZO ?_
 refine Z6 (Zza ?_)
 exact ⟨(),trivial,rfl,Lh⟩
def ownN (f:ApiFunc):Int:=if frameN f<1 then 1 else frameN f
theorem chain_own {B:Base}{w:World}(hS:St B [] w) (f:ApiFunc) (fc:List Value) (hf:kApiFunc.K B.e f fc) (hk:f.fKinds.length≤1000):CW 154 #[.agg fc.toArray] w (Ret B (fun _:Unit=>True) (fun _=>.int .i64 (ownN f)) (fun _=>[])):=by
 obtain ⟨A0,c0,A1,c1,A2,c2,A3,c3,rfl,m0,q0,m1,q1,m2,q2,m3,q3⟩:=kApiFunc_open hf
 refine ZX Tryz.func154 hS ?_
 refine Zh (Zi (oBox J ZP (fun b1=>?_)))
 refine Zp J (Zn (Zzk ?_))
 (refine ZC0 rfl ZK (fun w hS=>frame hS ZQ (fun B' hB hS'=>fun_Frame hS' f _ (kApiFunc.K_grow hB hf) hk)) ?_;rintro ⟨⟩ -)
 refine oMaxI J J (Zza ?_)
 exact ⟨(),trivial,rfl,Lh⟩
theorem chain_nos1 {B:Base}{w:World}(hS:St B [] w) (f:ApiFunc) (fc:List Value) (hf:kApiFunc.K B.e f fc):CW 101 #[.agg fc.toArray] w (Ret B (fun _:Unit=>True) (fun _=>.bool f.fNosplit) (fun _=>[])):=by
 obtain ⟨A0,c0,A1,c1,A2,c2,A3,c3,rfl,m0,q0,m1,q1,m2,q2,m3,q3⟩:=kApiFunc_open hf
 refine ZX Tryz.func101 hS ?_
 refine Zh (Zi (oBox J ZP (fun b1=>?_)))
 refine Zp J (Zn (Za (Zh (Zi (Zz (n:=3) (m:=3) J J J (Zld ?_))))))
 refine Zp J (Zzx ?_)
 exact ⟨(),trivial,rfl,Lh⟩
theorem each_bool {B:Base}{w:World}(hS:St B [] w) (p:ApiProgram) (pc:List Value) (hp:kApiProgram.K B.e p pc) (hn:p.fFuns.length≤1000) (gf:Nat) (F:ApiFunc→Bool) (hg:goodF Tryz.prog gf=true) (W0:World)
 (hh:∀ B' w f fc,f ∈ p.fFuns→kApiFunc.K B'.e f.fF fc→St B' [] w→CW gf #[.agg fc.toArray] w (Ret B' (fun _:Unit=>True) (fun _=>.bool (F f.fF)) (fun _=>[]))) :
 CW 100 #[.agg pc.toArray,.func (.func gf) #[] #[]] w (Ret B (fun _:Option Addr×Nat=>True) (fun z=>.slice z.1 p.fFuns.length z.2) (fun z=>[row (Kd.bool) W0 4 (.slice z.1 p.fFuns.length z.2) (p.fFuns.map fun f=>F f.fF)])):=by
 obtain ⟨A0,c0,A1,c1,rfl,l0,g0,l1,g1⟩:=kApiProgram_open hp
 refine ZX Tryz.func100 hS ?_
 refine Zh (Zi (oBox J ZP (fun b2=>?_)))
 refine Zp J (Zn (Za (Zh (Zi (Zp J (Zn (Za (Zh (Zh (Zi (Zz (n:=0) (m:=0) J J J (Zld ?_))))))))))))
 refine Zv J J (Zo J (Zn (Za (Zk (wLoop (ι:=Nat×Option Addr×Nat) (fun z=>[(1,.func (.func gf) #[] #[]),(5,.slice z.2.1 z.1 z.2.2),(9,.slice A0 p.fFuns.length c0),(10,.int .i64 (p.fFuns.length:Int)),(11,.int .i64 (z.1:Int))]) (fun z=>[row (Kd.bool) W0 4 (.slice z.2.1 z.1 z.2.2) ((p.fFuns.map fun f=>F f.fF).take z.1)]) (fun z=>z.1≤p.fFuns.length) (fun z=>p.fFuns.length-z.1) (0,none,0) ?_ cv (Leads.nilrow.trans Lh) ?_)))))
 exact Nat.zero_le _
 rintro ⟨i,A5,c5⟩ hi
 dsimp only at hi
 have hxl:((p.fFuns.map fun f=>F f.fF).take i).length=i:=by rw [List.length_take,List.length_map];omega
 try dsimp only
 refine Zh (Zi (Zx J J (Zn (Za (Zh (wC (fun h12=>?_) (fun h12=>?_)))))))
 obtain ⟨f,hf⟩:∃ f,p.fFuns[i]?=some f:=⟨_,List.getElem?_eq_getElem ZO⟩
 obtain ⟨e1,cs1,hE⟩:=g0.elm hf
 obtain ⟨D0,d0,D1,d1,D2,d2,D3,d3,D4,d4,rfl,m0,q0,m1,q1,m2,q2,m3,q3,m4,q4⟩:=kApiFun_open hE.K
 refine Zj (Za (Zh (Zk (Zh (Zi (oIdxE J J (hE) ZO J J ?_))))))
 have hc13:=(hE).cell
 refine Zlx hc13 ?_
 refine oAlloc J ZP (fun b7=>?_)
 refine Zsa ?_
 refine Zn (Za (Zi (Zo J (Zo J (Zz (n:=3) (m:=3) J J J (Zla ?_))))))
 (refine oCallV rfl rfl rfl hg (fun w hS=>frame hS (Ψ:=[]) ZQ (fun B' hB hS'=>hh B' w f _ (List.mem_of_getElem? hf) (kApiFunc_mk _ f.fF m0 (Kd.C_grow hB q0) m1 (Kd.C_grow hB q1) m2 (Kd.C_grow hB q2) m3 (Kd.C_grow hB q3)) hS')) ?_;rintro ⟨⟩ -)
 refine oBuildSlice1 J J J J J ZP J (fun b20=>?_)
 refine oApp1 (F f.fF) J J J J ZP ZP J ZO J (fun g21 cp21=>?_)
 rw [map_take_succ (fun f=>F f.fF) hf,hxl]
 refine Zp J (Zn (Zzi ?_))
 refine Zo J (Zn (Za ?_))
 exact ⟨rfl,(i+1,some ⟨g21,0,none⟩,cp21),by show i+1≤_;omega,by show p.fFuns.length-(i+1)<p.fFuns.length-i;omega,cv,Lh⟩
 obtain rfl:i=p.fFuns.length:=by omega
 rw [show (p.fFuns.map fun f=>F f.fF).take p.fFuns.length=p.fFuns.map fun f=>F f.fF from List.take_of_length_le (by simp)]
 refine Zm (Zzf ?_)
 exact ⟨(A5,c5),trivial,rfl,Lh⟩
theorem each_int {B:Base}{w:World}(hS:St B [] w) (p:ApiProgram) (pc:List Value) (hp:kApiProgram.K B.e p pc) (hn:p.fFuns.length≤1000) (gf:Nat) (F:ApiFunc→Int) (hg:goodF Tryz.prog gf=true) (W0:World)
 (hh:∀ B' w f fc,f ∈ p.fFuns→kApiFunc.K B'.e f.fF fc→St B' [] w→CW gf #[.agg fc.toArray] w (Ret B' (fun _:Unit=>True) (fun _=>.int .i64 (F f.fF)) (fun _=>[]))) :
 CW 153 #[.agg pc.toArray,.func (.func gf) #[] #[]] w (Ret B (fun _:Option Addr×Nat=>True) (fun z=>.slice z.1 p.fFuns.length z.2) (fun z=>[row (Kd.int .i64) W0 3 (.slice z.1 p.fFuns.length z.2) (p.fFuns.map fun f=>F f.fF)])):=by
 obtain ⟨A0,c0,A1,c1,rfl,l0,g0,l1,g1⟩:=kApiProgram_open hp
 refine ZX Tryz.func153 hS ?_
 refine Zh (Zi (oBox J ZP (fun b2=>?_)))
 refine Zp J (Zn (Za (Zh (Zi (Zp J (Zn (Za (Zh (Zh (Zi (Zz (n:=0) (m:=0) J J J (Zld ?_))))))))))))
 refine Zv J J (Zo J (Zn (Za (Zk (wLoop (ι:=Nat×Option Addr×Nat) (fun z=>[(1,.func (.func gf) #[] #[]),(5,.slice z.2.1 z.1 z.2.2),(9,.slice A0 p.fFuns.length c0),(10,.int .i64 (p.fFuns.length:Int)),(11,.int .i64 (z.1:Int))]) (fun z=>[row (Kd.int .i64) W0 3 (.slice z.2.1 z.1 z.2.2) ((p.fFuns.map fun f=>F f.fF).take z.1)]) (fun z=>z.1≤p.fFuns.length) (fun z=>p.fFuns.length-z.1) (0,none,0) ?_ cv (Leads.nilrow.trans Lh) ?_)))))
 exact Nat.zero_le _
 rintro ⟨i,A5,c5⟩ hi
 dsimp only at hi
 have hxl:((p.fFuns.map fun f=>F f.fF).take i).length=i:=by rw [List.length_take,List.length_map];omega
 try dsimp only
 refine Zh (Zi (Zx J J (Zn (Za (Zh (wC (fun h12=>?_) (fun h12=>?_)))))))
 obtain ⟨f,hf⟩:∃ f,p.fFuns[i]?=some f:=⟨_,List.getElem?_eq_getElem ZO⟩
 obtain ⟨e1,cs1,hE⟩:=g0.elm hf
 obtain ⟨D0,d0,D1,d1,D2,d2,D3,d3,D4,d4,rfl,m0,q0,m1,q1,m2,q2,m3,q3,m4,q4⟩:=kApiFun_open hE.K
 refine Zj (Za (Zh (Zk (Zh (Zi (oIdxE J J (hE) ZO J J ?_))))))
 have hc13:=(hE).cell
 refine Zlx hc13 ?_
 refine oAlloc J ZP (fun b7=>?_)
 refine Zsa ?_
 refine Zn (Za (Zi (Zo J (Zo J (Zz (n:=3) (m:=3) J J J (Zla ?_))))))
 (refine oCallV rfl rfl rfl hg (fun w hS=>frame hS (Ψ:=[]) ZQ (fun B' hB hS'=>hh B' w f _ (List.mem_of_getElem? hf) (kApiFunc_mk _ f.fF m0 (Kd.C_grow hB q0) m1 (Kd.C_grow hB q1) m2 (Kd.C_grow hB q2) m3 (Kd.C_grow hB q3)) hS')) ?_;rintro ⟨⟩ -)
 refine oBuildSlice1 J J J J J ZP J (fun b20=>?_)
 refine oApp1 (F f.fF) J J J J ZP ZP J ZO J (fun g21 cp21=>?_)
 rw [map_take_succ (fun f=>F f.fF) hf,hxl]
 refine Zp J (Zn (Zzi ?_))
 refine Zo J (Zn (Za ?_))
 exact ⟨rfl,(i+1,some ⟨g21,0,none⟩,cp21),by show i+1≤_;omega,by show p.fFuns.length-(i+1)<p.fFuns.length-i;omega,cv,Lh⟩
 obtain rfl:i=p.fFuns.length:=by omega
 rw [show (p.fFuns.map fun f=>F f.fF).take p.fFuns.length=p.fFuns.map fun f=>F f.fF from List.take_of_length_le (by simp)]
 refine Zm (Zzf ?_)
 exact ⟨(A5,c5),trivial,rfl,Lh⟩
def nosL (p:ApiProgram):List Bool:=p.fFuns.map fun f=>f.fF.fNosplit
def frmL (p:ApiProgram):List Int:=p.fFuns.map fun f=>ownN f.fF
theorem chain_Nosplit {B:Base}{w:World}(hS:St B [] w) (p:ApiProgram) (pc:List Value) (hp:kApiProgram.K B.e p pc) (hsm:SmallP p) (W0:World) :
 CW 41 #[.agg pc.toArray] w (Ret B (fun _:Option Addr×Nat=>True) (fun z=>.slice z.1 p.fFuns.length z.2) (fun z=>[row Kd.bool W0 4 (.slice z.1 p.fFuns.length z.2) (nosL p)])):=by
 obtain ⟨A0,c0,A1,c1,rfl,l0,g0,l1,g1⟩:=kApiProgram_open hp
 have hn:=hsm.funs
 refine ZX Tryz.func41 hS ?_
 refine Zh (Zi (oBox J ZP (fun b1=>?_)))
 refine Zp J (Zn (Zzk ?_))
 (refine ZC0 rfl ZK (fun w hS=>frame hS ZQ (fun B' hB hS'=>each_bool hS' p _ (gPg hB hp) ZO 101 (fun f=>f.fNosplit) ZK W0 (fun B' w f fc _ hf hS=>chain_nos1 hS f.fF fc hf))) ?_;rintro ⟨A4,c4⟩ -)
 refine Zp J (Zzx ?_)
 exact ⟨(A4,c4),trivial,rfl,Lh⟩
theorem ref27_Nosplit {B:Base}{w:World}(hS:St B [] w) (p:ApiProgram) (pc:List Value) (hp:kApiProgram.K B.e p pc) (hsm:SmallP p) (W0:World) :
 CW 42 #[.agg pc.toArray] w (Ret B (fun _:Option Addr×Nat=>True) (fun z=>.slice z.1 p.fFuns.length z.2) (fun z=>[row (Kd.bool) W0 4 (.slice z.1 p.fFuns.length z.2) (nosL p)])):=by
 obtain ⟨A0,c0,A1,c1,rfl,l0,g0,l1,g1⟩:=kApiProgram_open hp
 have hn:=hsm.funs
 refine ZX Tryz.func42 hS ?_
 refine Zh (Zi (oBox J ZP (fun b1=>?_)))
 refine Zp J (Zn (Za (Zh (Zi (Zp J (Zn (Za (Zh (Zh (Zi (Zp J (Zn (Za (Zk (wLoop (ι:=Nat×Option Addr×Nat) (fun z=>[(1,.pointer (some ⟨b1,0,none⟩)),(3,.slice z.2.1 z.1 z.2.2),(4,.int .i64 (z.1:Int))]) (fun z=>[blk b1 29 (pcL p A0 c0 A1 c1),row (Kd.bool) W0 4 (.slice z.2.1 z.1 z.2.2) ((nosL p).take z.1)]) (fun z=>z.1≤p.fFuns.length) (fun z=>p.fFuns.length-z.1) (0,none,0) ?_ cv (Leads.nilrow.trans Lh) ?_)))))))))))))))
 exact Nat.zero_le _
 rintro ⟨i,A3,c3⟩ hi
 dsimp only at hi
 have hxl:((nosL p).take i).length=i:=by unfold nosL;rw [List.length_take,List.length_map];omega
 try dsimp only
 refine Zh (Zh (Zi (Zo J (Zz (n:=0) (m:=0) J J J (Zld ?_)))))
 refine Zv J J (Zx J J (Zn (Za (wC (fun h9=>?_) (fun h9=>?_)))))
 obtain ⟨f,hf⟩:∃ f,p.fFuns[i]?=some f:=⟨_,List.getElem?_eq_getElem ZO⟩
 obtain ⟨e1,cs1,hE⟩:=g0.elm hf
 obtain ⟨D0,d0,D1,d1,D2,d2,D3,d3,D4,d4,rfl,m0,q0,m1,q1,m2,q2,m3,q3,m4,q4⟩:=kApiFun_open hE.K
 refine Zj (Za (Zh (Zk (Zi (Zo J (Zz (n:=0) (m:=0) J J J (Zld ?_)))))))
 refine Zo J (oIdxE J J (hE) ZO J J ?_)
 have hc16:=(hE).cell
 refine ZF (ZT 3) (ZT 3) ?_
 refine ZF (ZT 3) (ZT 6) ?_
 refine Zlx hc16 ?_
 refine oBuildSlice1 J J J J J ZP J (fun b20=>?_)
 refine oApp1 (f.fF.fNosplit) J J J J ZP ZP J ZO J (fun g21 cp21=>?_)
 rw [show (nosL p).take i++[f.fF.fNosplit]=(nosL p).take (i+1) from map_take_succ (fun f:ApiFun=>f.fF.fNosplit) hf,hxl]
 refine Zp J (Zn (Zzd ?_))
 refine Zp J (Zn (Za ?_))
 exact ⟨rfl,(i+1,some ⟨g21,0,none⟩,cp21),by show i+1≤_;omega,by show p.fFuns.length-(i+1)<p.fFuns.length-i;omega,cv,Lh⟩
 obtain rfl:i=p.fFuns.length:=by omega
 rw [show (nosL p).take p.fFuns.length=nosL p from List.take_of_length_le (by unfold nosL;simp)]
 refine Zm (Zzf ?_)
 exact ⟨(A3,c3),trivial,rfl,Lh⟩
theorem ref27_frames {B:Base}{w:World}(hS:St B [] w) (p:ApiProgram) (pc:List Value) (hp:kApiProgram.K B.e p pc) (hsm:SmallP p) (W0:World) :
 CW 99 #[.agg pc.toArray] w (Ret B (fun _:Option Addr×Nat=>True) (fun z=>.slice z.1 p.fFuns.length z.2) (fun z=>[row (Kd.int .i64) W0 3 (.slice z.1 p.fFuns.length z.2) (frmL p)])):=by
 obtain ⟨A0,c0,A1,c1,rfl,l0,g0,l1,g1⟩:=kApiProgram_open hp
 have hn:=hsm.funs
 refine ZX Tryz.func99 hS ?_
 refine Zh (Zi (oBox J ZP (fun b1=>?_)))
 refine Zp J (Zn (Za (Zh (Zi (Zp J (Zn (Za (Zh (Zh (Zi (Zp J (Zn (Za (Zk (wLoop (ι:=Nat×Option Addr×Nat) (fun z=>[(1,.pointer (some ⟨b1,0,none⟩)),(3,.slice z.2.1 z.1 z.2.2),(4,.int .i64 (z.1:Int))]) (fun z=>[blk b1 29 (pcL p A0 c0 A1 c1),row (Kd.int .i64) W0 3 (.slice z.2.1 z.1 z.2.2) ((frmL p).take z.1)]) (fun z=>z.1≤p.fFuns.length) (fun z=>p.fFuns.length-z.1) (0,none,0) ?_ cv (Leads.nilrow.trans Lh) ?_)))))))))))))))
 exact Nat.zero_le _
 rintro ⟨i,A3,c3⟩ hi
 dsimp only at hi
 have hxl:((frmL p).take i).length=i:=by unfold frmL;rw [List.length_take,List.length_map];omega
 try dsimp only
 refine Zh (Zh (Zi (Zo J (Zz (n:=0) (m:=0) J J J (Zld ?_)))))
 refine Zv J J (Zx J J (Zn (Za (wC (fun h9=>?_) (fun h9=>?_)))))
 obtain ⟨f,hf⟩:∃ f,p.fFuns[i]?=some f:=⟨_,List.getElem?_eq_getElem ZO⟩
 obtain ⟨e1,cs1,hE⟩:=g0.elm hf
 obtain ⟨D0,d0,D1,d1,D2,d2,D3,d3,D4,d4,rfl,m0,q0,m1,q1,m2,q2,m3,q3,m4,q4⟩:=kApiFun_open hE.K
 refine Zj (Za (Zh (Zk (Zi (Zo J (Zz (n:=0) (m:=0) J J J (Zld ?_)))))))
 refine Zo J (oIdxE J J (hE) ZO J J ?_)
 have hc16:=(hE).cell
 refine ZF (ZT 3) (ZT 3) ?_
 refine Zlx hc16 ?_
 (refine ZC0 rfl ZK (fun w hS=>frame hS ZQ (fun B' hB hS'=>ref16_Frame hS' f.fF _ (kApiFunc_mk _ f.fF m0 (Kd.C_grow hB q0) m1 (Kd.C_grow hB q1) m2 (Kd.C_grow hB q2) m3 (Kd.C_grow hB q3)) (by have:=(hsm.fn f (List.mem_of_getElem? hf)).2.2.1;omega))) ?_;rintro ⟨⟩ -)
 refine oMaxI J J (oBuildSlice1 J J J J J ZP J (fun b21=>?_))
 refine oApp1 (ownN f.fF) J J J J ZP ZP J ZO J (fun g22 cp22=>?_)
 rw [show (frmL p).take i++[ownN f.fF]=(frmL p).take (i+1) from map_take_succ (fun f:ApiFun=>ownN f.fF) hf,hxl]
 refine Zp J (Zn (Zzd ?_))
 refine Zp J (Zn (Za ?_))
 exact ⟨rfl,(i+1,some ⟨g22,0,none⟩,cp22),by show i+1≤_;omega,by show p.fFuns.length-(i+1)<p.fFuns.length-i;omega,cv,Lh⟩
 obtain rfl:i=p.fFuns.length:=by omega
 rw [show (frmL p).take p.fFuns.length=frmL p from List.take_of_length_le (by unfold frmL;simp)]
 refine Zm (Zzf ?_)
 exact ⟨(A3,c3),trivial,rfl,Lh⟩
end Go.Proofs.YtogaiijhicfoaaaGreatY
namespace Go.Proofs.YtogaiijhicfoaaaGreatK
open Go.RowKit
section
variable {c : Cx} {Q : Post} {ops : Array Oper} {E E' : Env} {D : List Deferred} {H H' : List Res} {f : Nat} {l l' listed : Array Bool}
theorem anWith (h:∀ R:Nat→Array Bool→Env→List Res→Prop,(∀ f l E H,R f l E H=AN c ops Q f l E D H)→R f listed E H):AN c ops Q f listed E D H:=h (fun f l E H=>AN c ops Q f l E D H) (fun _ _ _ _=>rfl)
theorem anCov {R:Nat→Array Bool→Env→List Res→Prop}(hR:∀ f l E H,R f l E H=AN c ops Q f l E D H) (h:R f l' E' H') (hl:l=l') (hE:Cov E E') (hH:Leads c.B H H'):AN c ops Q f l E D H:=by
 subst hl
 rw [hR] at h
 exact fun a w ha hw=>h a w (ha.cov hE) (hH _ hw)
theorem anPut {R:Nat→Array Bool→Env→List Res→Prop}(hR:∀ f l E H,R f l E H=AN c ops Q f l E D H) (h:AN c ops Q f l E D H):R f l E H:=by rw [hR];exact h
end
end Go.Proofs.YtogaiijhicfoaaaGreatK
namespace Go.Proofs.YtogaiijhicfoaaaGreatY
set_option maxRecDepth 100000
set_option maxHeartbeats 4000000
open Go.RowKit Go.Proofs.YtogaiijhicfoaaaGreatK Go.Proofs.YtogaiijhicfoaaaGreatT Go.Proofs.YtogaiijhicfoaaaGreatL Go.Proofs.YtogaiijhicfoaaaGreatV Go.Proofs.YtogaiijhicfoaaaGreatG Go.Proofs.YtogaiijhicfoaaaGreatW Go.Proofs.YtogaiijhicfoaaaGreatU

noncomputable def memF (p:ApiProgram) (free:List Bool):List Bool:=(List.range p.fFuns.length).map fun i=>(calledL p).getD i false && free.getD i false
noncomputable def midM (p:ApiProgram) (free:List Bool) (k:Nat):List Bool:=(List.range p.fFuns.length).map fun i=>free.getD i false && (if i<k then (calledL p).getD i false else true)
theorem memF_len (p:ApiProgram) (free:List Bool):(memF p free).length=p.fFuns.length:=by unfold memF;simp
theorem midM_len (p:ApiProgram) (free:List Bool) (k:Nat):(midM p free k).length=p.fFuns.length:=by unfold midM;simp
theorem midM_zero (p:ApiProgram) (free:List Bool):free.take p.fFuns.length++(List.replicate p.fFuns.length false).drop free.length=midM p free 0:=by
 unfold midM
 apply List.ext_getElem?
 intro i
 rw [List.getElem?_map,List.getElem?_append,List.length_take,List.getElem?_take,List.getElem?_drop,List.getElem?_replicate]
 by_cases h:i<p.fFuns.length
 · rw [List.getElem?_range h]
   simp only [Option.map_some,Nat.not_lt_zero,if_false,Bool.and_true]
   by_cases h2:i<free.length
   · rw [if_pos ZO,if_pos h,List.getD_eq_getElem?_getD,List.getElem?_eq_getElem h2];rfl
   · rw [if_neg ZO,if_pos ZO,List.getD_eq_getElem?_getD,List.getElem?_eq_none ZO];rfl
 · rw [List.getElem?_eq_none (l:=List.range p.fFuns.length) (by rw [List.length_range];omega)]
   rw [if_neg ZO,if_neg ZO];rfl
theorem midM_at {p:ApiProgram}{free:List Bool}{k:Nat}(hk:k<p.fFuns.length):(midM p free k)[k]?=some (free.getD k false):=by
 unfold midM
 rw [List.getElem?_map,List.getElem?_range hk]
 simp
theorem midM_set {p:ApiProgram}{free:List Bool}{k:Nat}(hk:k<p.fFuns.length) {b:Bool}(h:(free.getD k false && (calledL p).getD k false)=b):(midM p free k).set k b=midM p free (k+1):=by
 apply List.ext_getElem?
 intro i
 rw [List.getElem?_set,midM_len]
 by_cases e:k=i
 · subst e
   rw [if_pos rfl,if_pos hk]
   unfold midM
   rw [List.getElem?_map,List.getElem?_range hk,← h]
   simp
 · rw [if_neg e]
   unfold midM
   rw [List.getElem?_map,List.getElem?_map]
   cases hr:(List.range p.fFuns.length)[i]? with
   | none=>rfl
   | some j=>
    obtain ⟨hk2,rfl⟩:=List.getElem?_eq_some_iff.1 hr
    simp only [List.getElem_range,Option.map_some]
    by_cases h3:i<k
    · rw [if_pos h3,if_pos ZO]
    · rw [if_neg h3,if_neg ZO]
theorem midM_all (p:ApiProgram) (free:List Bool):midM p free p.fFuns.length=memF p free:=by
 unfold midM memF
 refine List.map_congr_left (fun i hi=>?_)
 rw [if_pos (List.mem_range.1 hi),Bool.and_comm]
theorem chain_look {B:Base}{w:World}(hS:St B [] w) (p:ApiProgram) (pc:List Value) (hp:kApiProgram.K B.e p pc) (hsm:SmallP p) (free:List Bool) (A':Option Addr) (c':Nat) (hF:Kd.bool.C B.e A' free) (W0:World) :
 CW 95 #[.agg pc.toArray,.slice A' free.length c'] w (Ret B (fun z:Nat×(Option Addr×Nat×List Hdr)×(Option Addr×Nat)×(Option Addr×Nat)×(Option Addr×Nat)=>z.2.1.2.2.length=p.fFuns.length) (fun z=>.pointer (some ⟨z.1,0,none⟩)) (fun z=>[blk z.1 123 [.slice z.2.1.1 p.fFuns.length z.2.1.2.1,.slice z.2.2.1.1 p.fFuns.length z.2.2.1.2,.slice z.2.2.2.1.1 p.fFuns.length z.2.2.2.1.2,.slice z.2.2.2.2.1 p.fFuns.length z.2.2.2.2.2],row kHdr W0 42 (.slice z.2.1.1 p.fFuns.length z.2.1.2.1) z.2.1.2.2,bun (rws (Kd.int .i64) W0 3 z.2.1.2.2 (graphF p)),row Kd.bool W0 4 (.slice z.2.2.1.1 p.fFuns.length z.2.2.1.2) (calledL p),row Kd.bool W0 4 (.slice z.2.2.2.1.1 p.fFuns.length z.2.2.2.1.2) (memF p free),row (Kd.int .i64) W0 3 (.slice z.2.2.2.2.1 p.fFuns.length z.2.2.2.2.2) (frmL p)])):=by
 obtain ⟨A0,c0,A1,c1,rfl,l0,g0,l1,g1⟩:=kApiProgram_open hp
 have hn:=hsm.funs
 have hcl:=calledL_len p
 refine ZX Tryz.func95 hS ?_
 refine Zh (Zi (oBox J ZP (fun b2=>?_)))
 refine Zp J (Zn (Za (Zh (wDrawN J J (anWith (fun R1 hR1=>?_))))))
 have an1_72:∀ (A9:Option Addr) (c9:Nat) (hs9:List Hdr) (hl9:hs9.length=p.fFuns.length) (A11:Option Addr) (c11:Nat) (g15:Nat),R1 4 #[tT,tT,tT,tT,tT,tT,tT,tT,tT,fF,fF,fF,fF] [(9,.slice A9 p.fFuns.length c9),(11,.slice A11 p.fFuns.length c11),(15,.slice (some ⟨g15,0,none⟩) p.fFuns.length p.fFuns.length),(16,.agg (pcA p A0 c0 A1 c1)),(1,.slice A' free.length c'),(2,.pointer (some ⟨b2,0,none⟩))] [row kHdr W0 42 (.slice A9 p.fFuns.length c9) hs9,bun (rws (Kd.int .i64) W0 3 hs9 (graphF p)),row Kd.bool W0 4 (.slice A11 p.fFuns.length c11) (calledL p),row Kd.bool W0 4 (.slice (some ⟨g15,0,none⟩) p.fFuns.length p.fFuns.length) (List.replicate p.fFuns.length false),blk b2 29 (pcL p A0 c0 A1 c1)]:=by
  intro A9 c9 hs9 hl9 A11 c11 g15
  refine anPut hR1 (ZM (i:=9) (rs:=[]) ZK ?_)
  refine ZA J ?_ ?_
  (refine ZC0 rfl ZK (fun w hS=>frame hS ZQ (fun B' hB hS'=>each_int hS' p _ (gPg hB hp) ZO 154 ownN ZK W0 (fun B' w f fc hf hK hS=>chain_own hS f.fF fc hK (by have:=(hsm.fn f hf).2.2.1;omega)))) ?_;rintro ⟨A17,c17⟩ -)
  rw [show (p.fFuns.map fun f=>ownN f.fF)=frmL p from rfl]
  refine Z7 (ZM (i:=10) (rs:=[]) ZK ?_)
  refine ZA J ?_ ?_
  refine oBuild (Parts.cons J (Parts.cons J (Parts.cons J (Parts.cons J Parts.nil)))) J J (Built.cons (off:=0) (s:=1) J ZP J ZP (Built.cons (off:=1) (s:=1) J ZP J ZP (Built.cons (off:=2) (s:=1) J ZP J ZP (Built.cons (off:=3) (s:=1) J ZP J ZP Built.nil)))) ?_
  refine Z7 (ZM (i:=11) (rs:=[]) ZK ?_)
  refine ZA J ?_ ?_
  refine oBox J ZP (fun b19=>?_)
  refine Z7 (ZM (i:=12) (rs:=[]) ZK ?_)
  refine ZA J ?_ ?_
  refine Zp J (Z7 (anNil ZK ?_))
  refine Za (Zh (Zi (Zo J (Z3 J (Zz (n:=2) (m:=2) J J J (Zld ?_))))))
  refine Zo J (oCopy (enc:=Value.bool) (ys:=free) J J J ZP J hF ?_)
  rw [midM_zero]
  refine Zn (Za (Zh (Zh (Zi (Zo J (Z3 J (Zz (n:=1) (m:=1) J J J (Zld ?_))))))))
  refine Zv J J (Zo J (Zn (Za (Zk (wLoop (ι:=Nat×Option Addr) (fun z=>[(5,.pointer (some ⟨b19,0,none⟩)),(29,.slice z.2 p.fFuns.length c11),(30,.int .i64 (p.fFuns.length:Int)),(31,.int .i64 (z.1:Int))]) (fun z=>[blk b19 123 [.slice A9 p.fFuns.length c9,.slice z.2 p.fFuns.length c11,.slice (some ⟨g15,0,none⟩) p.fFuns.length p.fFuns.length,.slice A17 p.fFuns.length c17],row kHdr W0 42 (.slice A9 p.fFuns.length c9) hs9,bun (rws (Kd.int .i64) W0 3 hs9 (graphF p)),row Kd.bool W0 4 (.slice z.2 p.fFuns.length c11) (calledL p),row Kd.bool W0 4 (.slice (some ⟨g15,0,none⟩) p.fFuns.length p.fFuns.length) (midM p free z.1),row (Kd.int .i64) W0 3 (.slice A17 p.fFuns.length c17) (frmL p)]) (fun z=>z.1≤p.fFuns.length) (fun z=>p.fFuns.length-z.1) (0,A11) ?_ cv Lh ?_)))))
  exact Nat.zero_le _
  rintro ⟨k,A11'⟩ hk
  dsimp only at hk
  have hml:=midM_len p free k
  try dsimp only
  refine Zh (Zi (Zx J J (Zn (Za (Zh (wC (fun h32=>?_) (fun h32=>?_)))))))
  have hkl:k<p.fFuns.length:=by omega
  refine Zj (Za (Zh (Zk (Zh (Zi (Zo J (ZR J J ZP ZO J J (fun g34 hg34=>?_))))))))
  first | subst hg34 | (injection hg34 with hg34;injection hg34 with hg34;subst hg34)
  refine ZR1 J ZP ZO J (fun u35 hu35=>?_)
  have hce:(calledL p).getD k false=u35:=getD_at hu35
  refine Zp J (Zp J (Zn (Za (wDrawG J [0,1,2,3,4,5,6,7,8,9,10,11,12,13,14] [] [15,16] 24 ZK J J (fun w0=>?_)))))
  refine Zo J (Z3 J (Zz (n:=2) (m:=2) J J J (Zld ?_)))
  refine Zo J (Zo J (Z3 J (Zz (n:=2) (m:=2) J J J (Zld ?_))))
  refine Zo J (ZR J J ZP ZO J J (fun g46 hg46=>?_))
  first | subst hg46 | (injection hg46 with hg46;injection hg46 with hg46;subst hg46)
  refine ZR1 J ZP ZO J (fun u47 hu47=>?_)
  have hfe:free.getD k false=u47:=Option.some.inj ((midM_at hkl).symm.trans hu47)
  refine Zo J (ZS (ZT 48) (fun h48=>?_) (fun h48=>?_))
  refine Zq J J (Zo J (Zt J J (Z6 (ZR J J ZP ZO J J (fun g51 hg51=>?_)))))
  first | subst hg51 | (injection hg51 with hg51;injection hg51 with hg51;subst hg51)
  refine oStR _ J J J J ZP (by first | omega | (simp only [List.length_set];omega)) ?_
  refine Zn (Zzi ?_)
  refine Zo J (Zn (Za ?_))
  exact ⟨rfl,(k+1,some ⟨g34,0,none⟩),by show k+1≤_;omega,by show p.fFuns.length-(k+1)<p.fFuns.length-k;omega,cv,by dsimp only;rw [← midM_set hkl (b:=u35) (by rw [hfe,hce,h48,Bool.true_and])];exact (Leads.has ZQ)⟩
  refine Zr J J J J (Zu J J (Z6 (ZR J J ZP ZO J J (fun g51 hg51=>?_))))
  first | subst hg51 | (injection hg51 with hg51;injection hg51 with hg51;subst hg51)
  refine oStR _ J J J J ZP (by first | omega | (simp only [List.length_set];omega)) ?_
  refine Zn (Zzi ?_)
  refine Zo J (Zn (Za ?_))
  exact ⟨rfl,(k+1,some ⟨g34,0,none⟩),by show k+1≤_;omega,by show p.fFuns.length-(k+1)<p.fFuns.length-k;omega,cv,by dsimp only;rw [← midM_set hkl (b:=false) (by rw [hfe,h48,Bool.false_and])];exact (Leads.has ZQ)⟩
  obtain rfl:k=p.fFuns.length:=by omega
  rw [midM_all]
  refine Zm (Zzf ?_)
  exact ⟨(b19,(A9,c9,hs9),(A11',c11),(some ⟨g15,0,none⟩,p.fFuns.length),(A17,c17)),hl9,rfl,Lh⟩
  exact ZB
  exact ZB
  exact ZB
  exact ZB
 have an1_73:∀ (A9:Option Addr) (c9:Nat) (hs9:List Hdr) (hl9:hs9.length=p.fFuns.length) (A11:Option Addr) (c11:Nat) (A17:Option Addr) (c17:Nat),R1 4 #[tT,tT,tT,tT,tT,tT,tT,fF,tT,tT,fF,fF,fF] [(9,.slice A9 p.fFuns.length c9),(11,.slice A11 p.fFuns.length c11),(14,.int .i64 (p.fFuns.length:Int)),(17,.slice A17 p.fFuns.length c17),(1,.slice A' free.length c'),(2,.pointer (some ⟨b2,0,none⟩))] [row kHdr W0 42 (.slice A9 p.fFuns.length c9) hs9,bun (rws (Kd.int .i64) W0 3 hs9 (graphF p)),row Kd.bool W0 4 (.slice A11 p.fFuns.length c11) (calledL p),row (Kd.int .i64) W0 3 (.slice A17 p.fFuns.length c17) (frmL p),blk b2 29 (pcL p A0 c0 A1 c1)]:=by
  intro A9 c9 hs9 hl9 A11 c11 A17 c17
  refine anPut hR1 (ZM (i:=7) (rs:=[]) ZK ?_)
  refine ZA J ?_ ?_
  refine oMake (kd:=Kd.bool) (W:=W0) false J J J J J J ZO J (fun g15=>?_)
  refine Z7 (ZM (i:=10) (rs:=[]) ZK ?_)
  refine ZA J ?_ ?_
  refine oBuild (Parts.cons J (Parts.cons J (Parts.cons J (Parts.cons J Parts.nil)))) J J (Built.cons (off:=0) (s:=1) J ZP J ZP (Built.cons (off:=1) (s:=1) J ZP J ZP (Built.cons (off:=2) (s:=1) J ZP J ZP (Built.cons (off:=3) (s:=1) J ZP J ZP Built.nil)))) ?_
  refine Z7 (ZM (i:=11) (rs:=[]) ZK ?_)
  refine ZA J ?_ ?_
  refine oBox J ZP (fun b19=>?_)
  refine Z7 (ZM (i:=12) (rs:=[]) ZK ?_)
  refine ZA J ?_ ?_
  refine Zp J (Z7 (anNil ZK ?_))
  refine Za (Zh (Zi (Zo J (Z3 J (Zz (n:=2) (m:=2) J J J (Zld ?_))))))
  refine Zo J (oCopy (enc:=Value.bool) (ys:=free) J J J ZP J hF ?_)
  rw [midM_zero]
  refine Zn (Za (Zh (Zh (Zi (Zo J (Z3 J (Zz (n:=1) (m:=1) J J J (Zld ?_))))))))
  refine Zv J J (Zo J (Zn (Za (Zk (wLoop (ι:=Nat×Option Addr) (fun z=>[(5,.pointer (some ⟨b19,0,none⟩)),(29,.slice z.2 p.fFuns.length c11),(30,.int .i64 (p.fFuns.length:Int)),(31,.int .i64 (z.1:Int))]) (fun z=>[blk b19 123 [.slice A9 p.fFuns.length c9,.slice z.2 p.fFuns.length c11,.slice (some ⟨g15,0,none⟩) p.fFuns.length p.fFuns.length,.slice A17 p.fFuns.length c17],row kHdr W0 42 (.slice A9 p.fFuns.length c9) hs9,bun (rws (Kd.int .i64) W0 3 hs9 (graphF p)),row Kd.bool W0 4 (.slice z.2 p.fFuns.length c11) (calledL p),row Kd.bool W0 4 (.slice (some ⟨g15,0,none⟩) p.fFuns.length p.fFuns.length) (midM p free z.1),row (Kd.int .i64) W0 3 (.slice A17 p.fFuns.length c17) (frmL p)]) (fun z=>z.1≤p.fFuns.length) (fun z=>p.fFuns.length-z.1) (0,A11) ?_ cv Lh ?_)))))
  exact Nat.zero_le _
  rintro ⟨k,A11'⟩ hk
  dsimp only at hk
  have hml:=midM_len p free k
  try dsimp only
  refine Zh (Zi (Zx J J (Zn (Za (Zh (wC (fun h32=>?_) (fun h32=>?_)))))))
  have hkl:k<p.fFuns.length:=by omega
  refine Zj (Za (Zh (Zk (Zh (Zi (Zo J (ZR J J ZP ZO J J (fun g34 hg34=>?_))))))))
  first | subst hg34 | (injection hg34 with hg34;injection hg34 with hg34;subst hg34)
  refine ZR1 J ZP ZO J (fun u35 hu35=>?_)
  have hce:(calledL p).getD k false=u35:=getD_at hu35
  refine Zp J (Zp J (Zn (Za (wDrawG J [0,1,2,3,4,5,6,7,8,9,10,11,12,13,14] [] [15,16] 24 ZK J J (fun w0=>?_)))))
  refine Zo J (Z3 J (Zz (n:=2) (m:=2) J J J (Zld ?_)))
  refine Zo J (Zo J (Z3 J (Zz (n:=2) (m:=2) J J J (Zld ?_))))
  refine Zo J (ZR J J ZP ZO J J (fun g46 hg46=>?_))
  first | subst hg46 | (injection hg46 with hg46;injection hg46 with hg46;subst hg46)
  refine ZR1 J ZP ZO J (fun u47 hu47=>?_)
  have hfe:free.getD k false=u47:=Option.some.inj ((midM_at hkl).symm.trans hu47)
  refine Zo J (ZS (ZT 48) (fun h48=>?_) (fun h48=>?_))
  refine Zq J J (Zo J (Zt J J (Z6 (ZR J J ZP ZO J J (fun g51 hg51=>?_)))))
  first | subst hg51 | (injection hg51 with hg51;injection hg51 with hg51;subst hg51)
  refine oStR _ J J J J ZP (by first | omega | (simp only [List.length_set];omega)) ?_
  refine Zn (Zzi ?_)
  refine Zo J (Zn (Za ?_))
  exact ⟨rfl,(k+1,some ⟨g34,0,none⟩),by show k+1≤_;omega,by show p.fFuns.length-(k+1)<p.fFuns.length-k;omega,cv,by dsimp only;rw [← midM_set hkl (b:=u35) (by rw [hfe,hce,h48,Bool.true_and])];exact (Leads.has ZQ)⟩
  refine Zr J J J J (Zu J J (Z6 (ZR J J ZP ZO J J (fun g51 hg51=>?_))))
  first | subst hg51 | (injection hg51 with hg51;injection hg51 with hg51;subst hg51)
  refine oStR _ J J J J ZP (by first | omega | (simp only [List.length_set];omega)) ?_
  refine Zn (Zzi ?_)
  refine Zo J (Zn (Za ?_))
  exact ⟨rfl,(k+1,some ⟨g34,0,none⟩),by show k+1≤_;omega,by show p.fFuns.length-(k+1)<p.fFuns.length-k;omega,cv,by dsimp only;rw [← midM_set hkl (b:=false) (by rw [hfe,h48,Bool.false_and])];exact (Leads.has ZQ)⟩
  obtain rfl:k=p.fFuns.length:=by omega
  rw [midM_all]
  refine Zm (Zzf ?_)
  exact ⟨(b19,(A9,c9,hs9),(A11',c11),(some ⟨g15,0,none⟩,p.fFuns.length),(A17,c17)),hl9,rfl,Lh⟩
  exact ZB
  exact ZB
  exact ZB
  exact ZB
 have an1_69:∀ (A9:Option Addr) (c9:Nat) (hs9:List Hdr) (hl9:hs9.length=p.fFuns.length) (A11:Option Addr) (c11:Nat),R1 5 #[tT,tT,tT,tT,tT,tT,tT,fF,tT,fF,fF,fF,fF] [(9,.slice A9 p.fFuns.length c9),(11,.slice A11 p.fFuns.length c11),(14,.int .i64 (p.fFuns.length:Int)),(16,.agg (pcA p A0 c0 A1 c1)),(1,.slice A' free.length c'),(2,.pointer (some ⟨b2,0,none⟩))] [row kHdr W0 42 (.slice A9 p.fFuns.length c9) hs9,bun (rws (Kd.int .i64) W0 3 hs9 (graphF p)),row Kd.bool W0 4 (.slice A11 p.fFuns.length c11) (calledL p),blk b2 29 (pcL p A0 c0 A1 c1)]:=by
  intro A9 c9 hs9 hl9 A11 c11
  refine anPut hR1 (ZM (i:=7) (rs:=[9]) ZK ?_)
  refine ZA J ?_ ?_
  refine oMake (kd:=Kd.bool) (W:=W0) false J J J J J J ZO J (fun g15=>?_)
  refine Z7 ?_
  exact anCov hR1 (an1_72 A9 c9 hs9 hl9 A11 c11 g15) rfl cv Lh
  refine ZA J ?_ ?_
  (refine ZC0 rfl ZK (fun w hS=>frame hS ZQ (fun B' hB hS'=>each_int hS' p _ (gPg hB hp) ZO 154 ownN ZK W0 (fun B' w f fc hf hK hS=>chain_own hS f.fF fc hK (by have:=(hsm.fn f hf).2.2.1;omega)))) ?_;rintro ⟨A17,c17⟩ -)
  rw [show (p.fFuns.map fun f=>ownN f.fF)=frmL p from rfl]
  refine Z7 ?_
  exact anCov hR1 (an1_73 A9 c9 hs9 hl9 A11 c11 A17 c17) rfl cv Lh
  exact ZB
 have an1_71:∀ (A9:Option Addr) (c9:Nat) (hs9:List Hdr) (hl9:hs9.length=p.fFuns.length) (g15:Nat),R1 5 #[tT,tT,tT,fF,tT,tT,tT,tT,tT,fF,fF,fF,fF] [(9,.slice A9 p.fFuns.length c9),(10,.agg (pcA p A0 c0 A1 c1)),(15,.slice (some ⟨g15,0,none⟩) p.fFuns.length p.fFuns.length),(16,.agg (pcA p A0 c0 A1 c1)),(1,.slice A' free.length c'),(2,.pointer (some ⟨b2,0,none⟩))] [row kHdr W0 42 (.slice A9 p.fFuns.length c9) hs9,bun (rws (Kd.int .i64) W0 3 hs9 (graphF p)),row Kd.bool W0 4 (.slice (some ⟨g15,0,none⟩) p.fFuns.length p.fFuns.length) (List.replicate p.fFuns.length false),blk b2 29 (pcL p A0 c0 A1 c1)]:=by
  intro A9 c9 hs9 hl9 g15
  refine anPut hR1 (ZM (i:=3) (rs:=[]) ZK ?_)
  refine ZA J ?_ ?_
  (refine ZC0 rfl ZK (fun w hS=>frame hS ZQ (fun B' hB hS'=>prog_Called hS' p _ (gPg hB hp) hsm W0)) ?_;rintro ⟨A11,c11⟩ -)
  refine Z7 ?_
  exact anCov hR1 (an1_72 A9 c9 hs9 hl9 A11 c11 g15) rfl cv Lh
  exact ZB
 have an1_68:∀ (A9:Option Addr) (c9:Nat) (hs9:List Hdr) (hl9:hs9.length=p.fFuns.length) (A11:Option Addr) (c11:Nat) (g15:Nat),R1 5 #[tT,tT,tT,tT,tT,tT,tT,tT,fF,fF,fF,fF,fF] [(9,.slice A9 p.fFuns.length c9),(11,.slice A11 p.fFuns.length c11),(15,.slice (some ⟨g15,0,none⟩) p.fFuns.length p.fFuns.length),(1,.slice A' free.length c'),(2,.pointer (some ⟨b2,0,none⟩))] [row kHdr W0 42 (.slice A9 p.fFuns.length c9) hs9,bun (rws (Kd.int .i64) W0 3 hs9 (graphF p)),row Kd.bool W0 4 (.slice A11 p.fFuns.length c11) (calledL p),row Kd.bool W0 4 (.slice (some ⟨g15,0,none⟩) p.fFuns.length p.fFuns.length) (List.replicate p.fFuns.length false),blk b2 29 (pcL p A0 c0 A1 c1)]:=by
  intro A9 c9 hs9 hl9 A11 c11 g15
  refine anPut hR1 (ZM (i:=8) (rs:=[]) ZK ?_)
  refine ZA J ?_ ?_
  refine Zla ?_
  refine Z7 ?_
  exact anCov hR1 (an1_72 A9 c9 hs9 hl9 A11 c11 g15) rfl cv Lh
  exact ZB
 have an1_70:∀ (A9:Option Addr) (c9:Nat) (hs9:List Hdr) (hl9:hs9.length=p.fFuns.length) (A11:Option Addr) (c11:Nat) (A17:Option Addr) (c17:Nat),R1 5 #[tT,tT,tT,tT,tT,tT,fF,fF,tT,tT,fF,fF,fF] [(9,.slice A9 p.fFuns.length c9),(11,.slice A11 p.fFuns.length c11),(13,.slice A0 p.fFuns.length c0),(17,.slice A17 p.fFuns.length c17),(1,.slice A' free.length c'),(2,.pointer (some ⟨b2,0,none⟩))] [row kHdr W0 42 (.slice A9 p.fFuns.length c9) hs9,bun (rws (Kd.int .i64) W0 3 hs9 (graphF p)),row Kd.bool W0 4 (.slice A11 p.fFuns.length c11) (calledL p),row (Kd.int .i64) W0 3 (.slice A17 p.fFuns.length c17) (frmL p),blk b2 29 (pcL p A0 c0 A1 c1)]:=by
  intro A9 c9 hs9 hl9 A11 c11 A17 c17
  refine anPut hR1 (ZM (i:=6) (rs:=[]) ZK ?_)
  refine ZA J ?_ ?_
  refine Zv J J (Z7 ?_)
  exact anCov hR1 (an1_73 A9 c9 hs9 hl9 A11 c11 A17 c17) rfl cv Lh
  exact ZB
 have an1_62:∀ (A9:Option Addr) (c9:Nat) (hs9:List Hdr) (hl9:hs9.length=p.fFuns.length) (A11:Option Addr) (c11:Nat),R1 6 #[tT,tT,tT,tT,tT,tT,fF,fF,tT,fF,fF,fF,fF] [(9,.slice A9 p.fFuns.length c9),(11,.slice A11 p.fFuns.length c11),(13,.slice A0 p.fFuns.length c0),(16,.agg (pcA p A0 c0 A1 c1)),(1,.slice A' free.length c'),(2,.pointer (some ⟨b2,0,none⟩))] [row kHdr W0 42 (.slice A9 p.fFuns.length c9) hs9,bun (rws (Kd.int .i64) W0 3 hs9 (graphF p)),row Kd.bool W0 4 (.slice A11 p.fFuns.length c11) (calledL p),blk b2 29 (pcL p A0 c0 A1 c1)]:=by
  intro A9 c9 hs9 hl9 A11 c11
  refine anPut hR1 (ZM (i:=6) (rs:=[9]) ZK ?_)
  refine ZA J ?_ ?_
  refine Zv J J (Z7 ?_)
  exact anCov hR1 (an1_69 A9 c9 hs9 hl9 A11 c11) rfl cv Lh
  refine ZA J ?_ ?_
  (refine ZC0 rfl ZK (fun w hS=>frame hS ZQ (fun B' hB hS'=>each_int hS' p _ (gPg hB hp) ZO 154 ownN ZK W0 (fun B' w f fc hf hK hS=>chain_own hS f.fF fc hK (by have:=(hsm.fn f hf).2.2.1;omega)))) ?_;rintro ⟨A17,c17⟩ -)
  rw [show (p.fFuns.map fun f=>ownN f.fF)=frmL p from rfl]
  refine Z7 ?_
  exact anCov hR1 (an1_70 A9 c9 hs9 hl9 A11 c11 A17 c17) rfl cv Lh
  exact ZB
 have an1_64:∀ (A9:Option Addr) (c9:Nat) (hs9:List Hdr) (hl9:hs9.length=p.fFuns.length) (g15:Nat),R1 6 #[tT,tT,tT,fF,tT,tT,tT,tT,fF,fF,fF,fF,fF] [(9,.slice A9 p.fFuns.length c9),(10,.agg (pcA p A0 c0 A1 c1)),(15,.slice (some ⟨g15,0,none⟩) p.fFuns.length p.fFuns.length),(1,.slice A' free.length c'),(2,.pointer (some ⟨b2,0,none⟩))] [row kHdr W0 42 (.slice A9 p.fFuns.length c9) hs9,bun (rws (Kd.int .i64) W0 3 hs9 (graphF p)),row Kd.bool W0 4 (.slice (some ⟨g15,0,none⟩) p.fFuns.length p.fFuns.length) (List.replicate p.fFuns.length false),blk b2 29 (pcL p A0 c0 A1 c1)]:=by
  intro A9 c9 hs9 hl9 g15
  refine anPut hR1 (ZM (i:=3) (rs:=[8]) ZK ?_)
  refine ZA J ?_ ?_
  (refine ZC0 rfl ZK (fun w hS=>frame hS ZQ (fun B' hB hS'=>prog_Called hS' p _ (gPg hB hp) hsm W0)) ?_;rintro ⟨A11,c11⟩ -)
  refine Z7 ?_
  exact anCov hR1 (an1_68 A9 c9 hs9 hl9 A11 c11 g15) rfl cv Lh
  refine ZA J ?_ ?_
  refine Zla ?_
  refine Z7 ?_
  exact anCov hR1 (an1_71 A9 c9 hs9 hl9 g15) rfl cv Lh
  exact ZB
 have an1_67:∀ (g15:Nat),R1 6 #[tT,fF,tT,fF,tT,tT,tT,tT,tT,fF,fF,fF,fF] [(8,.agg (pcA p A0 c0 A1 c1)),(10,.agg (pcA p A0 c0 A1 c1)),(15,.slice (some ⟨g15,0,none⟩) p.fFuns.length p.fFuns.length),(16,.agg (pcA p A0 c0 A1 c1)),(1,.slice A' free.length c'),(2,.pointer (some ⟨b2,0,none⟩))] [row Kd.bool W0 4 (.slice (some ⟨g15,0,none⟩) p.fFuns.length p.fFuns.length) (List.replicate p.fFuns.length false),blk b2 29 (pcL p A0 c0 A1 c1)]:=by
  intro g15
  refine anPut hR1 (ZM (i:=1) (rs:=[]) ZK ?_)
  refine ZA J ?_ ?_
  (refine ZC0 rfl ZK (fun w hS=>frame hS ZQ (fun B' hB hS'=>prog_Graph hS' p _ (gPg hB hp) hsm W0)) ?_;rintro ⟨A9,c9,hs9⟩ hl9)
  refine Z7 ?_
  exact anCov hR1 (an1_71 A9 c9 hs9 hl9 g15) rfl cv Lh
  exact ZB
 have an1_61:∀ (A9:Option Addr) (c9:Nat) (hs9:List Hdr) (hl9:hs9.length=p.fFuns.length) (A11:Option Addr) (c11:Nat),R1 6 #[tT,tT,tT,tT,tT,tT,tT,fF,fF,fF,fF,fF,fF] [(9,.slice A9 p.fFuns.length c9),(11,.slice A11 p.fFuns.length c11),(14,.int .i64 (p.fFuns.length:Int)),(1,.slice A' free.length c'),(2,.pointer (some ⟨b2,0,none⟩))] [row kHdr W0 42 (.slice A9 p.fFuns.length c9) hs9,bun (rws (Kd.int .i64) W0 3 hs9 (graphF p)),row Kd.bool W0 4 (.slice A11 p.fFuns.length c11) (calledL p),blk b2 29 (pcL p A0 c0 A1 c1)]:=by
  intro A9 c9 hs9 hl9 A11 c11
  refine anPut hR1 (ZM (i:=7) (rs:=[8]) ZK ?_)
  refine ZA J ?_ ?_
  refine oMake (kd:=Kd.bool) (W:=W0) false J J J J J J ZO J (fun g15=>?_)
  refine Z7 ?_
  exact anCov hR1 (an1_68 A9 c9 hs9 hl9 A11 c11 g15) rfl cv Lh
  refine ZA J ?_ ?_
  refine Zla ?_
  refine Z7 ?_
  exact anCov hR1 (an1_69 A9 c9 hs9 hl9 A11 c11) rfl cv Lh
  exact ZB
 have an1_63:∀ (A9:Option Addr) (c9:Nat) (hs9:List Hdr) (hl9:hs9.length=p.fFuns.length) (A11:Option Addr) (c11:Nat) (A17:Option Addr) (c17:Nat),R1 6 #[tT,tT,tT,tT,tT,fF,fF,fF,tT,tT,fF,fF,fF] [(9,.slice A9 p.fFuns.length c9),(11,.slice A11 p.fFuns.length c11),(12,.pointer (some ⟨b2,0,none⟩)),(17,.slice A17 p.fFuns.length c17),(1,.slice A' free.length c'),(2,.pointer (some ⟨b2,0,none⟩))] [row kHdr W0 42 (.slice A9 p.fFuns.length c9) hs9,bun (rws (Kd.int .i64) W0 3 hs9 (graphF p)),row Kd.bool W0 4 (.slice A11 p.fFuns.length c11) (calledL p),row (Kd.int .i64) W0 3 (.slice A17 p.fFuns.length c17) (frmL p),blk b2 29 (pcL p A0 c0 A1 c1)]:=by
  intro A9 c9 hs9 hl9 A11 c11 A17 c17
  refine anPut hR1 (ZM (i:=5) (rs:=[]) ZK ?_)
  refine ZA J ?_ ?_
  refine Zld ?_
  refine Z7 ?_
  exact anCov hR1 (an1_70 A9 c9 hs9 hl9 A11 c11 A17 c17) rfl cv Lh
  exact ZB
 have an1_66:∀ (A9:Option Addr) (c9:Nat) (hs9:List Hdr) (hl9:hs9.length=p.fFuns.length) (g15:Nat),R1 6 #[tT,tT,fF,fF,tT,tT,tT,tT,tT,fF,fF,fF,fF] [(9,.slice A9 p.fFuns.length c9),(15,.slice (some ⟨g15,0,none⟩) p.fFuns.length p.fFuns.length),(16,.agg (pcA p A0 c0 A1 c1)),(1,.slice A' free.length c'),(2,.pointer (some ⟨b2,0,none⟩))] [row kHdr W0 42 (.slice A9 p.fFuns.length c9) hs9,bun (rws (Kd.int .i64) W0 3 hs9 (graphF p)),row Kd.bool W0 4 (.slice (some ⟨g15,0,none⟩) p.fFuns.length p.fFuns.length) (List.replicate p.fFuns.length false),blk b2 29 (pcL p A0 c0 A1 c1)]:=by
  intro A9 c9 hs9 hl9 g15
  refine anPut hR1 (ZM (i:=2) (rs:=[]) ZK ?_)
  refine ZA J ?_ ?_
  refine Zla ?_
  refine Z7 ?_
  exact anCov hR1 (an1_71 A9 c9 hs9 hl9 g15) rfl cv Lh
  exact ZB
 have an1_65:∀ (A9:Option Addr) (c9:Nat) (hs9:List Hdr) (hl9:hs9.length=p.fFuns.length),R1 6 #[tT,tT,tT,fF,tT,tT,tT,fF,tT,fF,fF,fF,fF] [(9,.slice A9 p.fFuns.length c9),(10,.agg (pcA p A0 c0 A1 c1)),(14,.int .i64 (p.fFuns.length:Int)),(16,.agg (pcA p A0 c0 A1 c1)),(1,.slice A' free.length c'),(2,.pointer (some ⟨b2,0,none⟩))] [row kHdr W0 42 (.slice A9 p.fFuns.length c9) hs9,bun (rws (Kd.int .i64) W0 3 hs9 (graphF p)),blk b2 29 (pcL p A0 c0 A1 c1)]:=by
  intro A9 c9 hs9 hl9
  refine anPut hR1 (ZM (i:=3) (rs:=[7]) ZK ?_)
  refine ZA J ?_ ?_
  (refine ZC0 rfl ZK (fun w hS=>frame hS ZQ (fun B' hB hS'=>prog_Called hS' p _ (gPg hB hp) hsm W0)) ?_;rintro ⟨A11,c11⟩ -)
  refine Z7 ?_
  exact anCov hR1 (an1_69 A9 c9 hs9 hl9 A11 c11) rfl cv Lh
  refine ZA J ?_ ?_
  refine oMake (kd:=Kd.bool) (W:=W0) false J J J J J J ZO J (fun g15=>?_)
  refine Z7 ?_
  exact anCov hR1 (an1_71 A9 c9 hs9 hl9 g15) rfl cv Lh
  exact ZB
 have an1_54:∀ (A9:Option Addr) (c9:Nat) (hs9:List Hdr) (hl9:hs9.length=p.fFuns.length),R1 7 #[tT,tT,tT,fF,tT,tT,fF,fF,tT,fF,fF,fF,fF] [(9,.slice A9 p.fFuns.length c9),(10,.agg (pcA p A0 c0 A1 c1)),(13,.slice A0 p.fFuns.length c0),(16,.agg (pcA p A0 c0 A1 c1)),(1,.slice A' free.length c'),(2,.pointer (some ⟨b2,0,none⟩))] [row kHdr W0 42 (.slice A9 p.fFuns.length c9) hs9,bun (rws (Kd.int .i64) W0 3 hs9 (graphF p)),blk b2 29 (pcL p A0 c0 A1 c1)]:=by
  intro A9 c9 hs9 hl9
  refine anPut hR1 (ZM (i:=3) (rs:=[6]) ZK ?_)
  refine ZA J ?_ ?_
  (refine ZC0 rfl ZK (fun w hS=>frame hS ZQ (fun B' hB hS'=>prog_Called hS' p _ (gPg hB hp) hsm W0)) ?_;rintro ⟨A11,c11⟩ -)
  refine Z7 ?_
  exact anCov hR1 (an1_62 A9 c9 hs9 hl9 A11 c11) rfl cv Lh
  refine ZA J ?_ ?_
  refine Zv J J (Z7 ?_)
  exact anCov hR1 (an1_65 A9 c9 hs9 hl9) rfl cv Lh
  exact ZB
 have an1_58:R1 7 #[tT,fF,tT,fF,tT,tT,tT,fF,tT,fF,fF,fF,fF] [(8,.agg (pcA p A0 c0 A1 c1)),(10,.agg (pcA p A0 c0 A1 c1)),(14,.int .i64 (p.fFuns.length:Int)),(16,.agg (pcA p A0 c0 A1 c1)),(1,.slice A' free.length c'),(2,.pointer (some ⟨b2,0,none⟩))] [blk b2 29 (pcL p A0 c0 A1 c1)]:=by
  refine anPut hR1 (ZM (i:=1) (rs:=[7]) ZK ?_)
  refine ZA J ?_ ?_
  (refine ZC0 rfl ZK (fun w hS=>frame hS ZQ (fun B' hB hS'=>prog_Graph hS' p _ (gPg hB hp) hsm W0)) ?_;rintro ⟨A9,c9,hs9⟩ hl9)
  refine Z7 ?_
  exact anCov hR1 (an1_65 A9 c9 hs9 hl9) rfl cv Lh
  refine ZA J ?_ ?_
  refine oMake (kd:=Kd.bool) (W:=W0) false J J J J J J ZO J (fun g15=>?_)
  refine Z7 ?_
  exact anCov hR1 (an1_67 g15) rfl cv Lh
  exact ZB
 have an1_60:∀ (g15:Nat),R1 7 #[fF,fF,tT,fF,tT,tT,tT,tT,tT,fF,fF,fF,fF] [(10,.agg (pcA p A0 c0 A1 c1)),(15,.slice (some ⟨g15,0,none⟩) p.fFuns.length p.fFuns.length),(16,.agg (pcA p A0 c0 A1 c1)),(1,.slice A' free.length c'),(2,.pointer (some ⟨b2,0,none⟩))] [row Kd.bool W0 4 (.slice (some ⟨g15,0,none⟩) p.fFuns.length p.fFuns.length) (List.replicate p.fFuns.length false),blk b2 29 (pcL p A0 c0 A1 c1)]:=by
  intro g15
  refine anPut hR1 (ZM (i:=0) (rs:=[]) ZK ?_)
  refine ZA J ?_ ?_
  refine Zla ?_
  refine Z7 ?_
  exact anCov hR1 (an1_67 g15) rfl cv Lh
  exact ZB
 have an1_53:∀ (A9:Option Addr) (c9:Nat) (hs9:List Hdr) (hl9:hs9.length=p.fFuns.length),R1 7 #[tT,tT,tT,fF,tT,tT,tT,fF,fF,fF,fF,fF,fF] [(9,.slice A9 p.fFuns.length c9),(10,.agg (pcA p A0 c0 A1 c1)),(14,.int .i64 (p.fFuns.length:Int)),(1,.slice A' free.length c'),(2,.pointer (some ⟨b2,0,none⟩))] [row kHdr W0 42 (.slice A9 p.fFuns.length c9) hs9,bun (rws (Kd.int .i64) W0 3 hs9 (graphF p)),blk b2 29 (pcL p A0 c0 A1 c1)]:=by
  intro A9 c9 hs9 hl9
  refine anPut hR1 (ZM (i:=3) (rs:=[7,8]) ZK ?_)
  refine ZA J ?_ ?_
  (refine ZC0 rfl ZK (fun w hS=>frame hS ZQ (fun B' hB hS'=>prog_Called hS' p _ (gPg hB hp) hsm W0)) ?_;rintro ⟨A11,c11⟩ -)
  refine Z7 ?_
  exact anCov hR1 (an1_61 A9 c9 hs9 hl9 A11 c11) rfl cv Lh
  refine ZA J ?_ ?_
  refine oMake (kd:=Kd.bool) (W:=W0) false J J J J J J ZO J (fun g15=>?_)
  refine Z7 ?_
  exact anCov hR1 (an1_64 A9 c9 hs9 hl9 g15) rfl cv Lh
  refine ZA J ?_ ?_
  refine Zla ?_
  refine Z7 ?_
  exact anCov hR1 (an1_65 A9 c9 hs9 hl9) rfl cv Lh
  exact ZB
 have an1_51:∀ (A9:Option Addr) (c9:Nat) (hs9:List Hdr) (hl9:hs9.length=p.fFuns.length) (A11:Option Addr) (c11:Nat),R1 7 #[tT,tT,tT,tT,tT,fF,fF,fF,tT,fF,fF,fF,fF] [(9,.slice A9 p.fFuns.length c9),(11,.slice A11 p.fFuns.length c11),(12,.pointer (some ⟨b2,0,none⟩)),(16,.agg (pcA p A0 c0 A1 c1)),(1,.slice A' free.length c'),(2,.pointer (some ⟨b2,0,none⟩))] [row kHdr W0 42 (.slice A9 p.fFuns.length c9) hs9,bun (rws (Kd.int .i64) W0 3 hs9 (graphF p)),row Kd.bool W0 4 (.slice A11 p.fFuns.length c11) (calledL p),blk b2 29 (pcL p A0 c0 A1 c1)]:=by
  intro A9 c9 hs9 hl9 A11 c11
  refine anPut hR1 (ZM (i:=5) (rs:=[9]) ZK ?_)
  refine ZA J ?_ ?_
  refine Zld ?_
  refine Z7 ?_
  exact anCov hR1 (an1_62 A9 c9 hs9 hl9 A11 c11) rfl cv Lh
  refine ZA J ?_ ?_
  (refine ZC0 rfl ZK (fun w hS=>frame hS ZQ (fun B' hB hS'=>each_int hS' p _ (gPg hB hp) ZO 154 ownN ZK W0 (fun B' w f fc hf hK hS=>chain_own hS f.fF fc hK (by have:=(hsm.fn f hf).2.2.1;omega)))) ?_;rintro ⟨A17,c17⟩ -)
  rw [show (p.fFuns.map fun f=>ownN f.fF)=frmL p from rfl]
  refine Z7 ?_
  exact anCov hR1 (an1_63 A9 c9 hs9 hl9 A11 c11 A17 c17) rfl cv Lh
  exact ZB
 have an1_56:∀ (A9:Option Addr) (c9:Nat) (hs9:List Hdr) (hl9:hs9.length=p.fFuns.length),R1 7 #[tT,tT,fF,fF,tT,tT,tT,fF,tT,fF,fF,fF,fF] [(9,.slice A9 p.fFuns.length c9),(14,.int .i64 (p.fFuns.length:Int)),(16,.agg (pcA p A0 c0 A1 c1)),(1,.slice A' free.length c'),(2,.pointer (some ⟨b2,0,none⟩))] [row kHdr W0 42 (.slice A9 p.fFuns.length c9) hs9,bun (rws (Kd.int .i64) W0 3 hs9 (graphF p)),blk b2 29 (pcL p A0 c0 A1 c1)]:=by
  intro A9 c9 hs9 hl9
  refine anPut hR1 (ZM (i:=2) (rs:=[7]) ZK ?_)
  refine ZA J ?_ ?_
  refine Zla ?_
  refine Z7 ?_
  exact anCov hR1 (an1_65 A9 c9 hs9 hl9) rfl cv Lh
  refine ZA J ?_ ?_
  refine oMake (kd:=Kd.bool) (W:=W0) false J J J J J J ZO J (fun g15=>?_)
  refine Z7 ?_
  exact anCov hR1 (an1_66 A9 c9 hs9 hl9 g15) rfl cv Lh
  exact ZB
 have an1_59:∀ (g15:Nat),R1 7 #[tT,fF,fF,fF,tT,tT,tT,tT,tT,fF,fF,fF,fF] [(8,.agg (pcA p A0 c0 A1 c1)),(15,.slice (some ⟨g15,0,none⟩) p.fFuns.length p.fFuns.length),(16,.agg (pcA p A0 c0 A1 c1)),(1,.slice A' free.length c'),(2,.pointer (some ⟨b2,0,none⟩))] [row Kd.bool W0 4 (.slice (some ⟨g15,0,none⟩) p.fFuns.length p.fFuns.length) (List.replicate p.fFuns.length false),blk b2 29 (pcL p A0 c0 A1 c1)]:=by
  intro g15
  refine anPut hR1 (ZM (i:=1) (rs:=[2]) ZK ?_)
  refine ZA J ?_ ?_
  (refine ZC0 rfl ZK (fun w hS=>frame hS ZQ (fun B' hB hS'=>prog_Graph hS' p _ (gPg hB hp) hsm W0)) ?_;rintro ⟨A9,c9,hs9⟩ hl9)
  refine Z7 ?_
  exact anCov hR1 (an1_66 A9 c9 hs9 hl9 g15) rfl cv Lh
  refine ZA J ?_ ?_
  refine Zla ?_
  refine Z7 ?_
  exact anCov hR1 (an1_67 g15) rfl cv Lh
  exact ZB
 have an1_55:∀ (A9:Option Addr) (c9:Nat) (hs9:List Hdr) (hl9:hs9.length=p.fFuns.length) (g15:Nat),R1 7 #[tT,tT,fF,fF,tT,tT,tT,tT,fF,fF,fF,fF,fF] [(9,.slice A9 p.fFuns.length c9),(15,.slice (some ⟨g15,0,none⟩) p.fFuns.length p.fFuns.length),(1,.slice A' free.length c'),(2,.pointer (some ⟨b2,0,none⟩))] [row kHdr W0 42 (.slice A9 p.fFuns.length c9) hs9,bun (rws (Kd.int .i64) W0 3 hs9 (graphF p)),row Kd.bool W0 4 (.slice (some ⟨g15,0,none⟩) p.fFuns.length p.fFuns.length) (List.replicate p.fFuns.length false),blk b2 29 (pcL p A0 c0 A1 c1)]:=by
  intro A9 c9 hs9 hl9 g15
  refine anPut hR1 (ZM (i:=2) (rs:=[8]) ZK ?_)
  refine ZA J ?_ ?_
  refine Zla ?_
  refine Z7 ?_
  exact anCov hR1 (an1_64 A9 c9 hs9 hl9 g15) rfl cv Lh
  refine ZA J ?_ ?_
  refine Zla ?_
  refine Z7 ?_
  exact anCov hR1 (an1_66 A9 c9 hs9 hl9 g15) rfl cv Lh
  exact ZB
 have an1_52:∀ (A9:Option Addr) (c9:Nat) (hs9:List Hdr) (hl9:hs9.length=p.fFuns.length) (A11:Option Addr) (c11:Nat) (A17:Option Addr) (c17:Nat),R1 7 #[tT,tT,tT,tT,fF,fF,fF,fF,tT,tT,fF,fF,fF] [(9,.slice A9 p.fFuns.length c9),(11,.slice A11 p.fFuns.length c11),(17,.slice A17 p.fFuns.length c17),(1,.slice A' free.length c'),(2,.pointer (some ⟨b2,0,none⟩))] [row kHdr W0 42 (.slice A9 p.fFuns.length c9) hs9,bun (rws (Kd.int .i64) W0 3 hs9 (graphF p)),row Kd.bool W0 4 (.slice A11 p.fFuns.length c11) (calledL p),row (Kd.int .i64) W0 3 (.slice A17 p.fFuns.length c17) (frmL p),blk b2 29 (pcL p A0 c0 A1 c1)]:=by
  intro A9 c9 hs9 hl9 A11 c11 A17 c17
  refine anPut hR1 (ZM (i:=4) (rs:=[]) ZK ?_)
  refine ZA J ?_ ?_
  refine Zz (n:=0) (m:=0) J J J (Z7 ?_)
  exact anCov hR1 (an1_63 A9 c9 hs9 hl9 A11 c11 A17 c17) rfl cv Lh
  exact ZB
 have an1_50:∀ (A9:Option Addr) (c9:Nat) (hs9:List Hdr) (hl9:hs9.length=p.fFuns.length) (A11:Option Addr) (c11:Nat),R1 7 #[tT,tT,tT,tT,tT,tT,fF,fF,fF,fF,fF,fF,fF] [(9,.slice A9 p.fFuns.length c9),(11,.slice A11 p.fFuns.length c11),(13,.slice A0 p.fFuns.length c0),(1,.slice A' free.length c'),(2,.pointer (some ⟨b2,0,none⟩))] [row kHdr W0 42 (.slice A9 p.fFuns.length c9) hs9,bun (rws (Kd.int .i64) W0 3 hs9 (graphF p)),row Kd.bool W0 4 (.slice A11 p.fFuns.length c11) (calledL p),blk b2 29 (pcL p A0 c0 A1 c1)]:=by
  intro A9 c9 hs9 hl9 A11 c11
  refine anPut hR1 (ZM (i:=6) (rs:=[8]) ZK ?_)
  refine ZA J ?_ ?_
  refine Zv J J (Z7 ?_)
  exact anCov hR1 (an1_61 A9 c9 hs9 hl9 A11 c11) rfl cv Lh
  refine ZA J ?_ ?_
  refine Zla ?_
  refine Z7 ?_
  exact anCov hR1 (an1_62 A9 c9 hs9 hl9 A11 c11) rfl cv Lh
  exact ZB
 have an1_57:∀ (g15:Nat),R1 7 #[tT,fF,tT,fF,tT,tT,tT,tT,fF,fF,fF,fF,fF] [(8,.agg (pcA p A0 c0 A1 c1)),(10,.agg (pcA p A0 c0 A1 c1)),(15,.slice (some ⟨g15,0,none⟩) p.fFuns.length p.fFuns.length),(1,.slice A' free.length c'),(2,.pointer (some ⟨b2,0,none⟩))] [row Kd.bool W0 4 (.slice (some ⟨g15,0,none⟩) p.fFuns.length p.fFuns.length) (List.replicate p.fFuns.length false),blk b2 29 (pcL p A0 c0 A1 c1)]:=by
  intro g15
  refine anPut hR1 (ZM (i:=1) (rs:=[8]) ZK ?_)
  refine ZA J ?_ ?_
  (refine ZC0 rfl ZK (fun w hS=>frame hS ZQ (fun B' hB hS'=>prog_Graph hS' p _ (gPg hB hp) hsm W0)) ?_;rintro ⟨A9,c9,hs9⟩ hl9)
  refine Z7 ?_
  exact anCov hR1 (an1_64 A9 c9 hs9 hl9 g15) rfl cv Lh
  refine ZA J ?_ ?_
  refine Zla ?_
  refine Z7 ?_
  exact anCov hR1 (an1_67 g15) rfl cv Lh
  exact ZB
 have an1_42:∀ (A9:Option Addr) (c9:Nat) (hs9:List Hdr) (hl9:hs9.length=p.fFuns.length),R1 8 #[tT,tT,fF,fF,tT,tT,fF,fF,tT,fF,fF,fF,fF] [(9,.slice A9 p.fFuns.length c9),(13,.slice A0 p.fFuns.length c0),(16,.agg (pcA p A0 c0 A1 c1)),(1,.slice A' free.length c'),(2,.pointer (some ⟨b2,0,none⟩))] [row kHdr W0 42 (.slice A9 p.fFuns.length c9) hs9,bun (rws (Kd.int .i64) W0 3 hs9 (graphF p)),blk b2 29 (pcL p A0 c0 A1 c1)]:=by
  intro A9 c9 hs9 hl9
  refine anPut hR1 (ZM (i:=2) (rs:=[6]) ZK ?_)
  refine ZA J ?_ ?_
  refine Zla ?_
  refine Z7 ?_
  exact anCov hR1 (an1_54 A9 c9 hs9 hl9) rfl cv Lh
  refine ZA J ?_ ?_
  refine Zv J J (Z7 ?_)
  exact anCov hR1 (an1_56 A9 c9 hs9 hl9) rfl cv Lh
  exact ZB
 have an1_49:∀ (g15:Nat),R1 8 #[fF,fF,fF,fF,tT,tT,tT,tT,tT,fF,fF,fF,fF] [(15,.slice (some ⟨g15,0,none⟩) p.fFuns.length p.fFuns.length),(16,.agg (pcA p A0 c0 A1 c1)),(1,.slice A' free.length c'),(2,.pointer (some ⟨b2,0,none⟩))] [row Kd.bool W0 4 (.slice (some ⟨g15,0,none⟩) p.fFuns.length p.fFuns.length) (List.replicate p.fFuns.length false),blk b2 29 (pcL p A0 c0 A1 c1)]:=by
  intro g15
  refine anPut hR1 (ZM (i:=0) (rs:=[2]) ZK ?_)
  refine ZA J ?_ ?_
  refine Zla ?_
  refine Z7 ?_
  exact anCov hR1 (an1_59 g15) rfl cv Lh
  refine ZA J ?_ ?_
  refine Zla ?_
  refine Z7 ?_
  exact anCov hR1 (an1_60 g15) rfl cv Lh
  exact ZB
 have an1_41:∀ (A9:Option Addr) (c9:Nat) (hs9:List Hdr) (hl9:hs9.length=p.fFuns.length),R1 8 #[tT,tT,fF,fF,tT,tT,tT,fF,fF,fF,fF,fF,fF] [(9,.slice A9 p.fFuns.length c9),(14,.int .i64 (p.fFuns.length:Int)),(1,.slice A' free.length c'),(2,.pointer (some ⟨b2,0,none⟩))] [row kHdr W0 42 (.slice A9 p.fFuns.length c9) hs9,bun (rws (Kd.int .i64) W0 3 hs9 (graphF p)),blk b2 29 (pcL p A0 c0 A1 c1)]:=by
  intro A9 c9 hs9 hl9
  refine anPut hR1 (ZM (i:=2) (rs:=[7,8]) ZK ?_)
  refine ZA J ?_ ?_
  refine Zla ?_
  refine Z7 ?_
  exact anCov hR1 (an1_53 A9 c9 hs9 hl9) rfl cv Lh
  refine ZA J ?_ ?_
  refine oMake (kd:=Kd.bool) (W:=W0) false J J J J J J ZO J (fun g15=>?_)
  refine Z7 ?_
  exact anCov hR1 (an1_55 A9 c9 hs9 hl9 g15) rfl cv Lh
  refine ZA J ?_ ?_
  refine Zla ?_
  refine Z7 ?_
  exact anCov hR1 (an1_56 A9 c9 hs9 hl9) rfl cv Lh
  exact ZB
 have an1_48:R1 8 #[fF,fF,tT,fF,tT,tT,tT,fF,tT,fF,fF,fF,fF] [(10,.agg (pcA p A0 c0 A1 c1)),(14,.int .i64 (p.fFuns.length:Int)),(16,.agg (pcA p A0 c0 A1 c1)),(1,.slice A' free.length c'),(2,.pointer (some ⟨b2,0,none⟩))] [blk b2 29 (pcL p A0 c0 A1 c1)]:=by
  refine anPut hR1 (ZM (i:=0) (rs:=[7]) ZK ?_)
  refine ZA J ?_ ?_
  refine Zla ?_
  refine Z7 ?_
  exact anCov hR1 (an1_58 ) rfl cv Lh
  refine ZA J ?_ ?_
  refine oMake (kd:=Kd.bool) (W:=W0) false J J J J J J ZO J (fun g15=>?_)
  refine Z7 ?_
  exact anCov hR1 (an1_60 g15) rfl cv Lh
  exact ZB
 have an1_45:∀ (g15:Nat),R1 8 #[tT,fF,fF,fF,tT,tT,tT,tT,fF,fF,fF,fF,fF] [(8,.agg (pcA p A0 c0 A1 c1)),(15,.slice (some ⟨g15,0,none⟩) p.fFuns.length p.fFuns.length),(1,.slice A' free.length c'),(2,.pointer (some ⟨b2,0,none⟩))] [row Kd.bool W0 4 (.slice (some ⟨g15,0,none⟩) p.fFuns.length p.fFuns.length) (List.replicate p.fFuns.length false),blk b2 29 (pcL p A0 c0 A1 c1)]:=by
  intro g15
  refine anPut hR1 (ZM (i:=1) (rs:=[2,8]) ZK ?_)
  refine ZA J ?_ ?_
  (refine ZC0 rfl ZK (fun w hS=>frame hS ZQ (fun B' hB hS'=>prog_Graph hS' p _ (gPg hB hp) hsm W0)) ?_;rintro ⟨A9,c9,hs9⟩ hl9)
  refine Z7 ?_
  exact anCov hR1 (an1_55 A9 c9 hs9 hl9 g15) rfl cv Lh
  refine ZA J ?_ ?_
  refine Zla ?_
  refine Z7 ?_
  exact anCov hR1 (an1_57 g15) rfl cv Lh
  refine ZA J ?_ ?_
  refine Zla ?_
  refine Z7 ?_
  exact anCov hR1 (an1_59 g15) rfl cv Lh
  exact ZB
 have an1_37:∀ (A9:Option Addr) (c9:Nat) (hs9:List Hdr) (hl9:hs9.length=p.fFuns.length) (A11:Option Addr) (c11:Nat),R1 8 #[tT,tT,tT,tT,tT,fF,fF,fF,fF,fF,fF,fF,fF] [(9,.slice A9 p.fFuns.length c9),(11,.slice A11 p.fFuns.length c11),(12,.pointer (some ⟨b2,0,none⟩)),(1,.slice A' free.length c'),(2,.pointer (some ⟨b2,0,none⟩))] [row kHdr W0 42 (.slice A9 p.fFuns.length c9) hs9,bun (rws (Kd.int .i64) W0 3 hs9 (graphF p)),row Kd.bool W0 4 (.slice A11 p.fFuns.length c11) (calledL p),blk b2 29 (pcL p A0 c0 A1 c1)]:=by
  intro A9 c9 hs9 hl9 A11 c11
  refine anPut hR1 (ZM (i:=5) (rs:=[8]) ZK ?_)
  refine ZA J ?_ ?_
  refine Zld ?_
  refine Z7 ?_
  exact anCov hR1 (an1_50 A9 c9 hs9 hl9 A11 c11) rfl cv Lh
  refine ZA J ?_ ?_
  refine Zla ?_
  refine Z7 ?_
  exact anCov hR1 (an1_51 A9 c9 hs9 hl9 A11 c11) rfl cv Lh
  exact ZB
 have an1_44:R1 8 #[tT,fF,tT,fF,tT,tT,fF,fF,tT,fF,fF,fF,fF] [(8,.agg (pcA p A0 c0 A1 c1)),(10,.agg (pcA p A0 c0 A1 c1)),(13,.slice A0 p.fFuns.length c0),(16,.agg (pcA p A0 c0 A1 c1)),(1,.slice A' free.length c'),(2,.pointer (some ⟨b2,0,none⟩))] [blk b2 29 (pcL p A0 c0 A1 c1)]:=by
  refine anPut hR1 (ZM (i:=1) (rs:=[6]) ZK ?_)
  refine ZA J ?_ ?_
  (refine ZC0 rfl ZK (fun w hS=>frame hS ZQ (fun B' hB hS'=>prog_Graph hS' p _ (gPg hB hp) hsm W0)) ?_;rintro ⟨A9,c9,hs9⟩ hl9)
  refine Z7 ?_
  exact anCov hR1 (an1_54 A9 c9 hs9 hl9) rfl cv Lh
  refine ZA J ?_ ?_
  refine Zv J J (Z7 ?_)
  exact anCov hR1 (an1_58 ) rfl cv Lh
  exact ZB
 have an1_40:∀ (A9:Option Addr) (c9:Nat) (hs9:List Hdr) (hl9:hs9.length=p.fFuns.length),R1 8 #[tT,tT,tT,fF,tT,fF,fF,fF,tT,fF,fF,fF,fF] [(9,.slice A9 p.fFuns.length c9),(10,.agg (pcA p A0 c0 A1 c1)),(12,.pointer (some ⟨b2,0,none⟩)),(16,.agg (pcA p A0 c0 A1 c1)),(1,.slice A' free.length c'),(2,.pointer (some ⟨b2,0,none⟩))] [row kHdr W0 42 (.slice A9 p.fFuns.length c9) hs9,bun (rws (Kd.int .i64) W0 3 hs9 (graphF p)),blk b2 29 (pcL p A0 c0 A1 c1)]:=by
  intro A9 c9 hs9 hl9
  refine anPut hR1 (ZM (i:=3) (rs:=[5]) ZK ?_)
  refine ZA J ?_ ?_
  (refine ZC0 rfl ZK (fun w hS=>frame hS ZQ (fun B' hB hS'=>prog_Called hS' p _ (gPg hB hp) hsm W0)) ?_;rintro ⟨A11,c11⟩ -)
  refine Z7 ?_
  exact anCov hR1 (an1_51 A9 c9 hs9 hl9 A11 c11) rfl cv Lh
  refine ZA J ?_ ?_
  refine Zld ?_
  refine Z7 ?_
  exact anCov hR1 (an1_54 A9 c9 hs9 hl9) rfl cv Lh
  exact ZB
 have an1_43:R1 8 #[tT,fF,tT,fF,tT,tT,tT,fF,fF,fF,fF,fF,fF] [(8,.agg (pcA p A0 c0 A1 c1)),(10,.agg (pcA p A0 c0 A1 c1)),(14,.int .i64 (p.fFuns.length:Int)),(1,.slice A' free.length c'),(2,.pointer (some ⟨b2,0,none⟩))] [blk b2 29 (pcL p A0 c0 A1 c1)]:=by
  refine anPut hR1 (ZM (i:=1) (rs:=[7,8]) ZK ?_)
  refine ZA J ?_ ?_
  (refine ZC0 rfl ZK (fun w hS=>frame hS ZQ (fun B' hB hS'=>prog_Graph hS' p _ (gPg hB hp) hsm W0)) ?_;rintro ⟨A9,c9,hs9⟩ hl9)
  refine Z7 ?_
  exact anCov hR1 (an1_53 A9 c9 hs9 hl9) rfl cv Lh
  refine ZA J ?_ ?_
  refine oMake (kd:=Kd.bool) (W:=W0) false J J J J J J ZO J (fun g15=>?_)
  refine Z7 ?_
  exact anCov hR1 (an1_57 g15) rfl cv Lh
  refine ZA J ?_ ?_
  refine Zla ?_
  refine Z7 ?_
  exact anCov hR1 (an1_58 ) rfl cv Lh
  exact ZB
 have an1_39:∀ (A9:Option Addr) (c9:Nat) (hs9:List Hdr) (hl9:hs9.length=p.fFuns.length),R1 8 #[tT,tT,tT,fF,tT,tT,fF,fF,fF,fF,fF,fF,fF] [(9,.slice A9 p.fFuns.length c9),(10,.agg (pcA p A0 c0 A1 c1)),(13,.slice A0 p.fFuns.length c0),(1,.slice A' free.length c'),(2,.pointer (some ⟨b2,0,none⟩))] [row kHdr W0 42 (.slice A9 p.fFuns.length c9) hs9,bun (rws (Kd.int .i64) W0 3 hs9 (graphF p)),blk b2 29 (pcL p A0 c0 A1 c1)]:=by
  intro A9 c9 hs9 hl9
  refine anPut hR1 (ZM (i:=3) (rs:=[6,8]) ZK ?_)
  refine ZA J ?_ ?_
  (refine ZC0 rfl ZK (fun w hS=>frame hS ZQ (fun B' hB hS'=>prog_Called hS' p _ (gPg hB hp) hsm W0)) ?_;rintro ⟨A11,c11⟩ -)
  refine Z7 ?_
  exact anCov hR1 (an1_50 A9 c9 hs9 hl9 A11 c11) rfl cv Lh
  refine ZA J ?_ ?_
  refine Zv J J (Z7 ?_)
  exact anCov hR1 (an1_53 A9 c9 hs9 hl9) rfl cv Lh
  refine ZA J ?_ ?_
  refine Zla ?_
  refine Z7 ?_
  exact anCov hR1 (an1_54 A9 c9 hs9 hl9) rfl cv Lh
  exact ZB
 have an1_47:∀ (g15:Nat),R1 8 #[fF,fF,tT,fF,tT,tT,tT,tT,fF,fF,fF,fF,fF] [(10,.agg (pcA p A0 c0 A1 c1)),(15,.slice (some ⟨g15,0,none⟩) p.fFuns.length p.fFuns.length),(1,.slice A' free.length c'),(2,.pointer (some ⟨b2,0,none⟩))] [row Kd.bool W0 4 (.slice (some ⟨g15,0,none⟩) p.fFuns.length p.fFuns.length) (List.replicate p.fFuns.length false),blk b2 29 (pcL p A0 c0 A1 c1)]:=by
  intro g15
  refine anPut hR1 (ZM (i:=0) (rs:=[8]) ZK ?_)
  refine ZA J ?_ ?_
  refine Zla ?_
  refine Z7 ?_
  exact anCov hR1 (an1_57 g15) rfl cv Lh
  refine ZA J ?_ ?_
  refine Zla ?_
  refine Z7 ?_
  exact anCov hR1 (an1_60 g15) rfl cv Lh
  exact ZB
 have an1_38:∀ (A9:Option Addr) (c9:Nat) (hs9:List Hdr) (hl9:hs9.length=p.fFuns.length) (A11:Option Addr) (c11:Nat),R1 8 #[tT,tT,tT,tT,fF,fF,fF,fF,tT,fF,fF,fF,fF] [(9,.slice A9 p.fFuns.length c9),(11,.slice A11 p.fFuns.length c11),(16,.agg (pcA p A0 c0 A1 c1)),(1,.slice A' free.length c'),(2,.pointer (some ⟨b2,0,none⟩))] [row kHdr W0 42 (.slice A9 p.fFuns.length c9) hs9,bun (rws (Kd.int .i64) W0 3 hs9 (graphF p)),row Kd.bool W0 4 (.slice A11 p.fFuns.length c11) (calledL p),blk b2 29 (pcL p A0 c0 A1 c1)]:=by
  intro A9 c9 hs9 hl9 A11 c11
  refine anPut hR1 (ZM (i:=4) (rs:=[9]) ZK ?_)
  refine ZA J ?_ ?_
  refine Zz (n:=0) (m:=0) J J J (Z7 ?_)
  exact anCov hR1 (an1_51 A9 c9 hs9 hl9 A11 c11) rfl cv Lh
  refine ZA J ?_ ?_
  (refine ZC0 rfl ZK (fun w hS=>frame hS ZQ (fun B' hB hS'=>each_int hS' p _ (gPg hB hp) ZO 154 ownN ZK W0 (fun B' w f fc hf hK hS=>chain_own hS f.fF fc hK (by have:=(hsm.fn f hf).2.2.1;omega)))) ?_;rintro ⟨A17,c17⟩ -)
  rw [show (p.fFuns.map fun f=>ownN f.fF)=frmL p from rfl]
  refine Z7 ?_
  exact anCov hR1 (an1_52 A9 c9 hs9 hl9 A11 c11 A17 c17) rfl cv Lh
  exact ZB
 have an1_46:R1 8 #[tT,fF,fF,fF,tT,tT,tT,fF,tT,fF,fF,fF,fF] [(8,.agg (pcA p A0 c0 A1 c1)),(14,.int .i64 (p.fFuns.length:Int)),(16,.agg (pcA p A0 c0 A1 c1)),(1,.slice A' free.length c'),(2,.pointer (some ⟨b2,0,none⟩))] [blk b2 29 (pcL p A0 c0 A1 c1)]:=by
  refine anPut hR1 (ZM (i:=1) (rs:=[2,7]) ZK ?_)
  refine ZA J ?_ ?_
  (refine ZC0 rfl ZK (fun w hS=>frame hS ZQ (fun B' hB hS'=>prog_Graph hS' p _ (gPg hB hp) hsm W0)) ?_;rintro ⟨A9,c9,hs9⟩ hl9)
  refine Z7 ?_
  exact anCov hR1 (an1_56 A9 c9 hs9 hl9) rfl cv Lh
  refine ZA J ?_ ?_
  refine Zla ?_
  refine Z7 ?_
  exact anCov hR1 (an1_58 ) rfl cv Lh
  refine ZA J ?_ ?_
  refine oMake (kd:=Kd.bool) (W:=W0) false J J J J J J ZO J (fun g15=>?_)
  refine Z7 ?_
  exact anCov hR1 (an1_59 g15) rfl cv Lh
  exact ZB
 have an1_36:R1 9 #[fF,fF,fF,fF,tT,tT,tT,fF,tT,fF,fF,fF,fF] [(14,.int .i64 (p.fFuns.length:Int)),(16,.agg (pcA p A0 c0 A1 c1)),(1,.slice A' free.length c'),(2,.pointer (some ⟨b2,0,none⟩))] [blk b2 29 (pcL p A0 c0 A1 c1)]:=by
  refine anPut hR1 (ZM (i:=0) (rs:=[2,7]) ZK ?_)
  refine ZA J ?_ ?_
  refine Zla ?_
  refine Z7 ?_
  exact anCov hR1 (an1_46 ) rfl cv Lh
  refine ZA J ?_ ?_
  refine Zla ?_
  refine Z7 ?_
  exact anCov hR1 (an1_48 ) rfl cv Lh
  refine ZA J ?_ ?_
  refine oMake (kd:=Kd.bool) (W:=W0) false J J J J J J ZO J (fun g15=>?_)
  refine Z7 ?_
  exact anCov hR1 (an1_49 g15) rfl cv Lh
  exact ZB
 have an1_26:∀ (A9:Option Addr) (c9:Nat) (hs9:List Hdr) (hl9:hs9.length=p.fFuns.length),R1 9 #[tT,tT,tT,fF,fF,fF,fF,fF,tT,fF,fF,fF,fF] [(9,.slice A9 p.fFuns.length c9),(10,.agg (pcA p A0 c0 A1 c1)),(16,.agg (pcA p A0 c0 A1 c1)),(1,.slice A' free.length c'),(2,.pointer (some ⟨b2,0,none⟩))] [row kHdr W0 42 (.slice A9 p.fFuns.length c9) hs9,bun (rws (Kd.int .i64) W0 3 hs9 (graphF p)),blk b2 29 (pcL p A0 c0 A1 c1)]:=by
  intro A9 c9 hs9 hl9
  refine anPut hR1 (ZM (i:=3) (rs:=[4]) ZK ?_)
  refine ZA J ?_ ?_
  (refine ZC0 rfl ZK (fun w hS=>frame hS ZQ (fun B' hB hS'=>prog_Called hS' p _ (gPg hB hp) hsm W0)) ?_;rintro ⟨A11,c11⟩ -)
  refine Z7 ?_
  exact anCov hR1 (an1_38 A9 c9 hs9 hl9 A11 c11) rfl cv Lh
  refine ZA J ?_ ?_
  refine Zz (n:=0) (m:=0) J J J (Z7 ?_)
  exact anCov hR1 (an1_40 A9 c9 hs9 hl9) rfl cv Lh
  exact ZB
 have an1_28:∀ (A9:Option Addr) (c9:Nat) (hs9:List Hdr) (hl9:hs9.length=p.fFuns.length),R1 9 #[tT,tT,fF,fF,tT,fF,fF,fF,tT,fF,fF,fF,fF] [(9,.slice A9 p.fFuns.length c9),(12,.pointer (some ⟨b2,0,none⟩)),(16,.agg (pcA p A0 c0 A1 c1)),(1,.slice A' free.length c'),(2,.pointer (some ⟨b2,0,none⟩))] [row kHdr W0 42 (.slice A9 p.fFuns.length c9) hs9,bun (rws (Kd.int .i64) W0 3 hs9 (graphF p)),blk b2 29 (pcL p A0 c0 A1 c1)]:=by
  intro A9 c9 hs9 hl9
  refine anPut hR1 (ZM (i:=2) (rs:=[5]) ZK ?_)
  refine ZA J ?_ ?_
  refine Zla ?_
  refine Z7 ?_
  exact anCov hR1 (an1_40 A9 c9 hs9 hl9) rfl cv Lh
  refine ZA J ?_ ?_
  refine Zld ?_
  refine Z7 ?_
  exact anCov hR1 (an1_42 A9 c9 hs9 hl9) rfl cv Lh
  exact ZB
 have an1_31:R1 9 #[tT,fF,fF,fF,tT,tT,tT,fF,fF,fF,fF,fF,fF] [(8,.agg (pcA p A0 c0 A1 c1)),(14,.int .i64 (p.fFuns.length:Int)),(1,.slice A' free.length c'),(2,.pointer (some ⟨b2,0,none⟩))] [blk b2 29 (pcL p A0 c0 A1 c1)]:=by
  refine anPut hR1 (ZM (i:=1) (rs:=[2,7,8]) ZK ?_)
  refine ZA J ?_ ?_
  (refine ZC0 rfl ZK (fun w hS=>frame hS ZQ (fun B' hB hS'=>prog_Graph hS' p _ (gPg hB hp) hsm W0)) ?_;rintro ⟨A9,c9,hs9⟩ hl9)
  refine Z7 ?_
  exact anCov hR1 (an1_41 A9 c9 hs9 hl9) rfl cv Lh
  refine ZA J ?_ ?_
  refine Zla ?_
  refine Z7 ?_
  exact anCov hR1 (an1_43 ) rfl cv Lh
  refine ZA J ?_ ?_
  refine oMake (kd:=Kd.bool) (W:=W0) false J J J J J J ZO J (fun g15=>?_)
  refine Z7 ?_
  exact anCov hR1 (an1_45 g15) rfl cv Lh
  refine ZA J ?_ ?_
  refine Zla ?_
  refine Z7 ?_
  exact anCov hR1 (an1_46 ) rfl cv Lh
  exact ZB
 have an1_33:R1 9 #[fF,fF,tT,fF,tT,tT,tT,fF,fF,fF,fF,fF,fF] [(10,.agg (pcA p A0 c0 A1 c1)),(14,.int .i64 (p.fFuns.length:Int)),(1,.slice A' free.length c'),(2,.pointer (some ⟨b2,0,none⟩))] [blk b2 29 (pcL p A0 c0 A1 c1)]:=by
  refine anPut hR1 (ZM (i:=0) (rs:=[7,8]) ZK ?_)
  refine ZA J ?_ ?_
  refine Zla ?_
  refine Z7 ?_
  exact anCov hR1 (an1_43 ) rfl cv Lh
  refine ZA J ?_ ?_
  refine oMake (kd:=Kd.bool) (W:=W0) false J J J J J J ZO J (fun g15=>?_)
  refine Z7 ?_
  exact anCov hR1 (an1_47 g15) rfl cv Lh
  refine ZA J ?_ ?_
  refine Zla ?_
  refine Z7 ?_
  exact anCov hR1 (an1_48 ) rfl cv Lh
  exact ZB
 have an1_34:R1 9 #[fF,fF,tT,fF,tT,tT,fF,fF,tT,fF,fF,fF,fF] [(10,.agg (pcA p A0 c0 A1 c1)),(13,.slice A0 p.fFuns.length c0),(16,.agg (pcA p A0 c0 A1 c1)),(1,.slice A' free.length c'),(2,.pointer (some ⟨b2,0,none⟩))] [blk b2 29 (pcL p A0 c0 A1 c1)]:=by
  refine anPut hR1 (ZM (i:=0) (rs:=[6]) ZK ?_)
  refine ZA J ?_ ?_
  refine Zla ?_
  refine Z7 ?_
  exact anCov hR1 (an1_44 ) rfl cv Lh
  refine ZA J ?_ ?_
  refine Zv J J (Z7 ?_)
  exact anCov hR1 (an1_48 ) rfl cv Lh
  exact ZB
 have an1_27:∀ (A9:Option Addr) (c9:Nat) (hs9:List Hdr) (hl9:hs9.length=p.fFuns.length),R1 9 #[tT,tT,fF,fF,tT,tT,fF,fF,fF,fF,fF,fF,fF] [(9,.slice A9 p.fFuns.length c9),(13,.slice A0 p.fFuns.length c0),(1,.slice A' free.length c'),(2,.pointer (some ⟨b2,0,none⟩))] [row kHdr W0 42 (.slice A9 p.fFuns.length c9) hs9,bun (rws (Kd.int .i64) W0 3 hs9 (graphF p)),blk b2 29 (pcL p A0 c0 A1 c1)]:=by
  intro A9 c9 hs9 hl9
  refine anPut hR1 (ZM (i:=2) (rs:=[6,8]) ZK ?_)
  refine ZA J ?_ ?_
  refine Zla ?_
  refine Z7 ?_
  exact anCov hR1 (an1_39 A9 c9 hs9 hl9) rfl cv Lh
  refine ZA J ?_ ?_
  refine Zv J J (Z7 ?_)
  exact anCov hR1 (an1_41 A9 c9 hs9 hl9) rfl cv Lh
  refine ZA J ?_ ?_
  refine Zla ?_
  refine Z7 ?_
  exact anCov hR1 (an1_42 A9 c9 hs9 hl9) rfl cv Lh
  exact ZB
 have an1_29:R1 9 #[tT,fF,tT,fF,tT,tT,fF,fF,fF,fF,fF,fF,fF] [(8,.agg (pcA p A0 c0 A1 c1)),(10,.agg (pcA p A0 c0 A1 c1)),(13,.slice A0 p.fFuns.length c0),(1,.slice A' free.length c'),(2,.pointer (some ⟨b2,0,none⟩))] [blk b2 29 (pcL p A0 c0 A1 c1)]:=by
  refine anPut hR1 (ZM (i:=1) (rs:=[6,8]) ZK ?_)
  refine ZA J ?_ ?_
  (refine ZC0 rfl ZK (fun w hS=>frame hS ZQ (fun B' hB hS'=>prog_Graph hS' p _ (gPg hB hp) hsm W0)) ?_;rintro ⟨A9,c9,hs9⟩ hl9)
  refine Z7 ?_
  exact anCov hR1 (an1_39 A9 c9 hs9 hl9) rfl cv Lh
  refine ZA J ?_ ?_
  refine Zv J J (Z7 ?_)
  exact anCov hR1 (an1_43 ) rfl cv Lh
  refine ZA J ?_ ?_
  refine Zla ?_
  refine Z7 ?_
  exact anCov hR1 (an1_44 ) rfl cv Lh
  exact ZB
 have an1_35:∀ (g15:Nat),R1 9 #[fF,fF,fF,fF,tT,tT,tT,tT,fF,fF,fF,fF,fF] [(15,.slice (some ⟨g15,0,none⟩) p.fFuns.length p.fFuns.length),(1,.slice A' free.length c'),(2,.pointer (some ⟨b2,0,none⟩))] [row Kd.bool W0 4 (.slice (some ⟨g15,0,none⟩) p.fFuns.length p.fFuns.length) (List.replicate p.fFuns.length false),blk b2 29 (pcL p A0 c0 A1 c1)]:=by
  intro g15
  refine anPut hR1 (ZM (i:=0) (rs:=[2,8]) ZK ?_)
  refine ZA J ?_ ?_
  refine Zla ?_
  refine Z7 ?_
  exact anCov hR1 (an1_45 g15) rfl cv Lh
  refine ZA J ?_ ?_
  refine Zla ?_
  refine Z7 ?_
  exact anCov hR1 (an1_47 g15) rfl cv Lh
  refine ZA J ?_ ?_
  refine Zla ?_
  refine Z7 ?_
  exact anCov hR1 (an1_49 g15) rfl cv Lh
  exact ZB
 have an1_30:R1 9 #[tT,fF,tT,fF,tT,fF,fF,fF,tT,fF,fF,fF,fF] [(8,.agg (pcA p A0 c0 A1 c1)),(10,.agg (pcA p A0 c0 A1 c1)),(12,.pointer (some ⟨b2,0,none⟩)),(16,.agg (pcA p A0 c0 A1 c1)),(1,.slice A' free.length c'),(2,.pointer (some ⟨b2,0,none⟩))] [blk b2 29 (pcL p A0 c0 A1 c1)]:=by
  refine anPut hR1 (ZM (i:=1) (rs:=[5]) ZK ?_)
  refine ZA J ?_ ?_
  (refine ZC0 rfl ZK (fun w hS=>frame hS ZQ (fun B' hB hS'=>prog_Graph hS' p _ (gPg hB hp) hsm W0)) ?_;rintro ⟨A9,c9,hs9⟩ hl9)
  refine Z7 ?_
  exact anCov hR1 (an1_40 A9 c9 hs9 hl9) rfl cv Lh
  refine ZA J ?_ ?_
  refine Zld ?_
  refine Z7 ?_
  exact anCov hR1 (an1_44 ) rfl cv Lh
  exact ZB
 have an1_24:∀ (A9:Option Addr) (c9:Nat) (hs9:List Hdr) (hl9:hs9.length=p.fFuns.length) (A11:Option Addr) (c11:Nat),R1 9 #[tT,tT,tT,tT,fF,fF,fF,fF,fF,fF,fF,fF,fF] [(9,.slice A9 p.fFuns.length c9),(11,.slice A11 p.fFuns.length c11),(1,.slice A' free.length c'),(2,.pointer (some ⟨b2,0,none⟩))] [row kHdr W0 42 (.slice A9 p.fFuns.length c9) hs9,bun (rws (Kd.int .i64) W0 3 hs9 (graphF p)),row Kd.bool W0 4 (.slice A11 p.fFuns.length c11) (calledL p),blk b2 29 (pcL p A0 c0 A1 c1)]:=by
  intro A9 c9 hs9 hl9 A11 c11
  refine anPut hR1 (ZM (i:=4) (rs:=[8]) ZK ?_)
  refine ZA J ?_ ?_
  refine Zz (n:=0) (m:=0) J J J (Z7 ?_)
  exact anCov hR1 (an1_37 A9 c9 hs9 hl9 A11 c11) rfl cv Lh
  refine ZA J ?_ ?_
  refine Zla ?_
  refine Z7 ?_
  exact anCov hR1 (an1_38 A9 c9 hs9 hl9 A11 c11) rfl cv Lh
  exact ZB
 have an1_32:R1 9 #[tT,fF,fF,fF,tT,tT,fF,fF,tT,fF,fF,fF,fF] [(8,.agg (pcA p A0 c0 A1 c1)),(13,.slice A0 p.fFuns.length c0),(16,.agg (pcA p A0 c0 A1 c1)),(1,.slice A' free.length c'),(2,.pointer (some ⟨b2,0,none⟩))] [blk b2 29 (pcL p A0 c0 A1 c1)]:=by
  refine anPut hR1 (ZM (i:=1) (rs:=[2,6]) ZK ?_)
  refine ZA J ?_ ?_
  (refine ZC0 rfl ZK (fun w hS=>frame hS ZQ (fun B' hB hS'=>prog_Graph hS' p _ (gPg hB hp) hsm W0)) ?_;rintro ⟨A9,c9,hs9⟩ hl9)
  refine Z7 ?_
  exact anCov hR1 (an1_42 A9 c9 hs9 hl9) rfl cv Lh
  refine ZA J ?_ ?_
  refine Zla ?_
  refine Z7 ?_
  exact anCov hR1 (an1_44 ) rfl cv Lh
  refine ZA J ?_ ?_
  refine Zv J J (Z7 ?_)
  exact anCov hR1 (an1_46 ) rfl cv Lh
  exact ZB
 have an1_25:∀ (A9:Option Addr) (c9:Nat) (hs9:List Hdr) (hl9:hs9.length=p.fFuns.length),R1 9 #[tT,tT,tT,fF,tT,fF,fF,fF,fF,fF,fF,fF,fF] [(9,.slice A9 p.fFuns.length c9),(10,.agg (pcA p A0 c0 A1 c1)),(12,.pointer (some ⟨b2,0,none⟩)),(1,.slice A' free.length c'),(2,.pointer (some ⟨b2,0,none⟩))] [row kHdr W0 42 (.slice A9 p.fFuns.length c9) hs9,bun (rws (Kd.int .i64) W0 3 hs9 (graphF p)),blk b2 29 (pcL p A0 c0 A1 c1)]:=by
  intro A9 c9 hs9 hl9
  refine anPut hR1 (ZM (i:=3) (rs:=[5,8]) ZK ?_)
  refine ZA J ?_ ?_
  (refine ZC0 rfl ZK (fun w hS=>frame hS ZQ (fun B' hB hS'=>prog_Called hS' p _ (gPg hB hp) hsm W0)) ?_;rintro ⟨A11,c11⟩ -)
  refine Z7 ?_
  exact anCov hR1 (an1_37 A9 c9 hs9 hl9 A11 c11) rfl cv Lh
  refine ZA J ?_ ?_
  refine Zld ?_
  refine Z7 ?_
  exact anCov hR1 (an1_39 A9 c9 hs9 hl9) rfl cv Lh
  refine ZA J ?_ ?_
  refine Zla ?_
  refine Z7 ?_
  exact anCov hR1 (an1_40 A9 c9 hs9 hl9) rfl cv Lh
  exact ZB
 have an1_16:R1 10 #[tT,fF,tT,fF,tT,fF,fF,fF,fF,fF,fF,fF,fF] [(8,.agg (pcA p A0 c0 A1 c1)),(10,.agg (pcA p A0 c0 A1 c1)),(12,.pointer (some ⟨b2,0,none⟩)),(1,.slice A' free.length c'),(2,.pointer (some ⟨b2,0,none⟩))] [blk b2 29 (pcL p A0 c0 A1 c1)]:=by
  refine anPut hR1 (ZM (i:=1) (rs:=[5,8]) ZK ?_)
  refine ZA J ?_ ?_
  (refine ZC0 rfl ZK (fun w hS=>frame hS ZQ (fun B' hB hS'=>prog_Graph hS' p _ (gPg hB hp) hsm W0)) ?_;rintro ⟨A9,c9,hs9⟩ hl9)
  refine Z7 ?_
  exact anCov hR1 (an1_25 A9 c9 hs9 hl9) rfl cv Lh
  refine ZA J ?_ ?_
  refine Zld ?_
  refine Z7 ?_
  exact anCov hR1 (an1_29 ) rfl cv Lh
  refine ZA J ?_ ?_
  refine Zla ?_
  refine Z7 ?_
  exact anCov hR1 (an1_30 ) rfl cv Lh
  exact ZB
 have an1_15:∀ (A9:Option Addr) (c9:Nat) (hs9:List Hdr) (hl9:hs9.length=p.fFuns.length),R1 10 #[tT,tT,fF,fF,fF,fF,fF,fF,tT,fF,fF,fF,fF] [(9,.slice A9 p.fFuns.length c9),(16,.agg (pcA p A0 c0 A1 c1)),(1,.slice A' free.length c'),(2,.pointer (some ⟨b2,0,none⟩))] [row kHdr W0 42 (.slice A9 p.fFuns.length c9) hs9,bun (rws (Kd.int .i64) W0 3 hs9 (graphF p)),blk b2 29 (pcL p A0 c0 A1 c1)]:=by
  intro A9 c9 hs9 hl9
  refine anPut hR1 (ZM (i:=2) (rs:=[4]) ZK ?_)
  refine ZA J ?_ ?_
  refine Zla ?_
  refine Z7 ?_
  exact anCov hR1 (an1_26 A9 c9 hs9 hl9) rfl cv Lh
  refine ZA J ?_ ?_
  refine Zz (n:=0) (m:=0) J J J (Z7 ?_)
  exact anCov hR1 (an1_28 A9 c9 hs9 hl9) rfl cv Lh
  exact ZB
 have an1_22:R1 10 #[fF,fF,fF,fF,tT,tT,tT,fF,fF,fF,fF,fF,fF] [(14,.int .i64 (p.fFuns.length:Int)),(1,.slice A' free.length c'),(2,.pointer (some ⟨b2,0,none⟩))] [blk b2 29 (pcL p A0 c0 A1 c1)]:=by
  refine anPut hR1 (ZM (i:=0) (rs:=[2,7,8]) ZK ?_)
  refine ZA J ?_ ?_
  refine Zla ?_
  refine Z7 ?_
  exact anCov hR1 (an1_31 ) rfl cv Lh
  refine ZA J ?_ ?_
  refine Zla ?_
  refine Z7 ?_
  exact anCov hR1 (an1_33 ) rfl cv Lh
  refine ZA J ?_ ?_
  refine oMake (kd:=Kd.bool) (W:=W0) false J J J J J J ZO J (fun g15=>?_)
  refine Z7 ?_
  exact anCov hR1 (an1_35 g15) rfl cv Lh
  refine ZA J ?_ ?_
  refine Zla ?_
  refine Z7 ?_
  exact anCov hR1 (an1_36 ) rfl cv Lh
  exact ZB
 have an1_21:R1 10 #[fF,fF,tT,fF,tT,fF,fF,fF,tT,fF,fF,fF,fF] [(10,.agg (pcA p A0 c0 A1 c1)),(12,.pointer (some ⟨b2,0,none⟩)),(16,.agg (pcA p A0 c0 A1 c1)),(1,.slice A' free.length c'),(2,.pointer (some ⟨b2,0,none⟩))] [blk b2 29 (pcL p A0 c0 A1 c1)]:=by
  refine anPut hR1 (ZM (i:=0) (rs:=[5]) ZK ?_)
  refine ZA J ?_ ?_
  refine Zla ?_
  refine Z7 ?_
  exact anCov hR1 (an1_30 ) rfl cv Lh
  refine ZA J ?_ ?_
  refine Zld ?_
  refine Z7 ?_
  exact anCov hR1 (an1_34 ) rfl cv Lh
  exact ZB
 have an1_23:R1 10 #[fF,fF,fF,fF,tT,tT,fF,fF,tT,fF,fF,fF,fF] [(13,.slice A0 p.fFuns.length c0),(16,.agg (pcA p A0 c0 A1 c1)),(1,.slice A' free.length c'),(2,.pointer (some ⟨b2,0,none⟩))] [blk b2 29 (pcL p A0 c0 A1 c1)]:=by
  refine anPut hR1 (ZM (i:=0) (rs:=[2,6]) ZK ?_)
  refine ZA J ?_ ?_
  refine Zla ?_
  refine Z7 ?_
  exact anCov hR1 (an1_32 ) rfl cv Lh
  refine ZA J ?_ ?_
  refine Zla ?_
  refine Z7 ?_
  exact anCov hR1 (an1_34 ) rfl cv Lh
  refine ZA J ?_ ?_
  refine Zv J J (Z7 ?_)
  exact anCov hR1 (an1_36 ) rfl cv Lh
  exact ZB
 have an1_18:R1 10 #[tT,fF,fF,fF,tT,tT,fF,fF,fF,fF,fF,fF,fF] [(8,.agg (pcA p A0 c0 A1 c1)),(13,.slice A0 p.fFuns.length c0),(1,.slice A' free.length c'),(2,.pointer (some ⟨b2,0,none⟩))] [blk b2 29 (pcL p A0 c0 A1 c1)]:=by
  refine anPut hR1 (ZM (i:=1) (rs:=[2,6,8]) ZK ?_)
  refine ZA J ?_ ?_
  (refine ZC0 rfl ZK (fun w hS=>frame hS ZQ (fun B' hB hS'=>prog_Graph hS' p _ (gPg hB hp) hsm W0)) ?_;rintro ⟨A9,c9,hs9⟩ hl9)
  refine Z7 ?_
  exact anCov hR1 (an1_27 A9 c9 hs9 hl9) rfl cv Lh
  refine ZA J ?_ ?_
  refine Zla ?_
  refine Z7 ?_
  exact anCov hR1 (an1_29 ) rfl cv Lh
  refine ZA J ?_ ?_
  refine Zv J J (Z7 ?_)
  exact anCov hR1 (an1_31 ) rfl cv Lh
  refine ZA J ?_ ?_
  refine Zla ?_
  refine Z7 ?_
  exact anCov hR1 (an1_32 ) rfl cv Lh
  exact ZB
 have an1_13:∀ (A9:Option Addr) (c9:Nat) (hs9:List Hdr) (hl9:hs9.length=p.fFuns.length),R1 10 #[tT,tT,tT,fF,fF,fF,fF,fF,fF,fF,fF,fF,fF] [(9,.slice A9 p.fFuns.length c9),(10,.agg (pcA p A0 c0 A1 c1)),(1,.slice A' free.length c'),(2,.pointer (some ⟨b2,0,none⟩))] [row kHdr W0 42 (.slice A9 p.fFuns.length c9) hs9,bun (rws (Kd.int .i64) W0 3 hs9 (graphF p)),blk b2 29 (pcL p A0 c0 A1 c1)]:=by
  intro A9 c9 hs9 hl9
  refine anPut hR1 (ZM (i:=3) (rs:=[4,8]) ZK ?_)
  refine ZA J ?_ ?_
  (refine ZC0 rfl ZK (fun w hS=>frame hS ZQ (fun B' hB hS'=>prog_Called hS' p _ (gPg hB hp) hsm W0)) ?_;rintro ⟨A11,c11⟩ -)
  refine Z7 ?_
  exact anCov hR1 (an1_24 A9 c9 hs9 hl9 A11 c11) rfl cv Lh
  refine ZA J ?_ ?_
  refine Zz (n:=0) (m:=0) J J J (Z7 ?_)
  exact anCov hR1 (an1_25 A9 c9 hs9 hl9) rfl cv Lh
  refine ZA J ?_ ?_
  refine Zla ?_
  refine Z7 ?_
  exact anCov hR1 (an1_26 A9 c9 hs9 hl9) rfl cv Lh
  exact ZB
 have an1_19:R1 10 #[tT,fF,fF,fF,tT,fF,fF,fF,tT,fF,fF,fF,fF] [(8,.agg (pcA p A0 c0 A1 c1)),(12,.pointer (some ⟨b2,0,none⟩)),(16,.agg (pcA p A0 c0 A1 c1)),(1,.slice A' free.length c'),(2,.pointer (some ⟨b2,0,none⟩))] [blk b2 29 (pcL p A0 c0 A1 c1)]:=by
  refine anPut hR1 (ZM (i:=1) (rs:=[2,5]) ZK ?_)
  refine ZA J ?_ ?_
  (refine ZC0 rfl ZK (fun w hS=>frame hS ZQ (fun B' hB hS'=>prog_Graph hS' p _ (gPg hB hp) hsm W0)) ?_;rintro ⟨A9,c9,hs9⟩ hl9)
  refine Z7 ?_
  exact anCov hR1 (an1_28 A9 c9 hs9 hl9) rfl cv Lh
  refine ZA J ?_ ?_
  refine Zla ?_
  refine Z7 ?_
  exact anCov hR1 (an1_30 ) rfl cv Lh
  refine ZA J ?_ ?_
  refine Zld ?_
  refine Z7 ?_
  exact anCov hR1 (an1_32 ) rfl cv Lh
  exact ZB
 have an1_14:∀ (A9:Option Addr) (c9:Nat) (hs9:List Hdr) (hl9:hs9.length=p.fFuns.length),R1 10 #[tT,tT,fF,fF,tT,fF,fF,fF,fF,fF,fF,fF,fF] [(9,.slice A9 p.fFuns.length c9),(12,.pointer (some ⟨b2,0,none⟩)),(1,.slice A' free.length c'),(2,.pointer (some ⟨b2,0,none⟩))] [row kHdr W0 42 (.slice A9 p.fFuns.length c9) hs9,bun (rws (Kd.int .i64) W0 3 hs9 (graphF p)),blk b2 29 (pcL p A0 c0 A1 c1)]:=by
  intro A9 c9 hs9 hl9
  refine anPut hR1 (ZM (i:=2) (rs:=[5,8]) ZK ?_)
  refine ZA J ?_ ?_
  refine Zla ?_
  refine Z7 ?_
  exact anCov hR1 (an1_25 A9 c9 hs9 hl9) rfl cv Lh
  refine ZA J ?_ ?_
  refine Zld ?_
  refine Z7 ?_
  exact anCov hR1 (an1_27 A9 c9 hs9 hl9) rfl cv Lh
  refine ZA J ?_ ?_
  refine Zla ?_
  refine Z7 ?_
  exact anCov hR1 (an1_28 A9 c9 hs9 hl9) rfl cv Lh
  exact ZB
 have an1_17:R1 10 #[tT,fF,tT,fF,fF,fF,fF,fF,tT,fF,fF,fF,fF] [(8,.agg (pcA p A0 c0 A1 c1)),(10,.agg (pcA p A0 c0 A1 c1)),(16,.agg (pcA p A0 c0 A1 c1)),(1,.slice A' free.length c'),(2,.pointer (some ⟨b2,0,none⟩))] [blk b2 29 (pcL p A0 c0 A1 c1)]:=by
  refine anPut hR1 (ZM (i:=1) (rs:=[4]) ZK ?_)
  refine ZA J ?_ ?_
  (refine ZC0 rfl ZK (fun w hS=>frame hS ZQ (fun B' hB hS'=>prog_Graph hS' p _ (gPg hB hp) hsm W0)) ?_;rintro ⟨A9,c9,hs9⟩ hl9)
  refine Z7 ?_
  exact anCov hR1 (an1_26 A9 c9 hs9 hl9) rfl cv Lh
  refine ZA J ?_ ?_
  refine Zz (n:=0) (m:=0) J J J (Z7 ?_)
  exact anCov hR1 (an1_30 ) rfl cv Lh
  exact ZB
 have an1_20:R1 10 #[fF,fF,tT,fF,tT,tT,fF,fF,fF,fF,fF,fF,fF] [(10,.agg (pcA p A0 c0 A1 c1)),(13,.slice A0 p.fFuns.length c0),(1,.slice A' free.length c'),(2,.pointer (some ⟨b2,0,none⟩))] [blk b2 29 (pcL p A0 c0 A1 c1)]:=by
  refine anPut hR1 (ZM (i:=0) (rs:=[6,8]) ZK ?_)
  refine ZA J ?_ ?_
  refine Zla ?_
  refine Z7 ?_
  exact anCov hR1 (an1_29 ) rfl cv Lh
  refine ZA J ?_ ?_
  refine Zv J J (Z7 ?_)
  exact anCov hR1 (an1_33 ) rfl cv Lh
  refine ZA J ?_ ?_
  refine Zla ?_
  refine Z7 ?_
  exact anCov hR1 (an1_34 ) rfl cv Lh
  exact ZB
 have an1_10:R1 11 #[fF,fF,tT,fF,fF,fF,fF,fF,tT,fF,fF,fF,fF] [(10,.agg (pcA p A0 c0 A1 c1)),(16,.agg (pcA p A0 c0 A1 c1)),(1,.slice A' free.length c'),(2,.pointer (some ⟨b2,0,none⟩))] [blk b2 29 (pcL p A0 c0 A1 c1)]:=by
  refine anPut hR1 (ZM (i:=0) (rs:=[4]) ZK ?_)
  refine ZA J ?_ ?_
  refine Zla ?_
  refine Z7 ?_
  exact anCov hR1 (an1_17 ) rfl cv Lh
  refine ZA J ?_ ?_
  refine Zz (n:=0) (m:=0) J J J (Z7 ?_)
  exact anCov hR1 (an1_21 ) rfl cv Lh
  exact ZB
 have an1_11:R1 11 #[fF,fF,fF,fF,tT,tT,fF,fF,fF,fF,fF,fF,fF] [(13,.slice A0 p.fFuns.length c0),(1,.slice A' free.length c'),(2,.pointer (some ⟨b2,0,none⟩))] [blk b2 29 (pcL p A0 c0 A1 c1)]:=by
  refine anPut hR1 (ZM (i:=0) (rs:=[2,6,8]) ZK ?_)
  refine ZA J ?_ ?_
  refine Zla ?_
  refine Z7 ?_
  exact anCov hR1 (an1_18 ) rfl cv Lh
  refine ZA J ?_ ?_
  refine Zla ?_
  refine Z7 ?_
  exact anCov hR1 (an1_20 ) rfl cv Lh
  refine ZA J ?_ ?_
  refine Zv J J (Z7 ?_)
  exact anCov hR1 (an1_22 ) rfl cv Lh
  refine ZA J ?_ ?_
  refine Zla ?_
  refine Z7 ?_
  exact anCov hR1 (an1_23 ) rfl cv Lh
  exact ZB
 have an1_6:R1 11 #[tT,fF,tT,fF,fF,fF,fF,fF,fF,fF,fF,fF,fF] [(8,.agg (pcA p A0 c0 A1 c1)),(10,.agg (pcA p A0 c0 A1 c1)),(1,.slice A' free.length c'),(2,.pointer (some ⟨b2,0,none⟩))] [blk b2 29 (pcL p A0 c0 A1 c1)]:=by
  refine anPut hR1 (ZM (i:=1) (rs:=[4,8]) ZK ?_)
  refine ZA J ?_ ?_
  (refine ZC0 rfl ZK (fun w hS=>frame hS ZQ (fun B' hB hS'=>prog_Graph hS' p _ (gPg hB hp) hsm W0)) ?_;rintro ⟨A9,c9,hs9⟩ hl9)
  refine Z7 ?_
  exact anCov hR1 (an1_13 A9 c9 hs9 hl9) rfl cv Lh
  refine ZA J ?_ ?_
  refine Zz (n:=0) (m:=0) J J J (Z7 ?_)
  exact anCov hR1 (an1_16 ) rfl cv Lh
  refine ZA J ?_ ?_
  refine Zla ?_
  refine Z7 ?_
  exact anCov hR1 (an1_17 ) rfl cv Lh
  exact ZB
 have an1_7:R1 11 #[tT,fF,fF,fF,tT,fF,fF,fF,fF,fF,fF,fF,fF] [(8,.agg (pcA p A0 c0 A1 c1)),(12,.pointer (some ⟨b2,0,none⟩)),(1,.slice A' free.length c'),(2,.pointer (some ⟨b2,0,none⟩))] [blk b2 29 (pcL p A0 c0 A1 c1)]:=by
  refine anPut hR1 (ZM (i:=1) (rs:=[2,5,8]) ZK ?_)
  refine ZA J ?_ ?_
  (refine ZC0 rfl ZK (fun w hS=>frame hS ZQ (fun B' hB hS'=>prog_Graph hS' p _ (gPg hB hp) hsm W0)) ?_;rintro ⟨A9,c9,hs9⟩ hl9)
  refine Z7 ?_
  exact anCov hR1 (an1_14 A9 c9 hs9 hl9) rfl cv Lh
  refine ZA J ?_ ?_
  refine Zla ?_
  refine Z7 ?_
  exact anCov hR1 (an1_16 ) rfl cv Lh
  refine ZA J ?_ ?_
  refine Zld ?_
  refine Z7 ?_
  exact anCov hR1 (an1_18 ) rfl cv Lh
  refine ZA J ?_ ?_
  refine Zla ?_
  refine Z7 ?_
  exact anCov hR1 (an1_19 ) rfl cv Lh
  exact ZB
 have an1_9:R1 11 #[fF,fF,tT,fF,tT,fF,fF,fF,fF,fF,fF,fF,fF] [(10,.agg (pcA p A0 c0 A1 c1)),(12,.pointer (some ⟨b2,0,none⟩)),(1,.slice A' free.length c'),(2,.pointer (some ⟨b2,0,none⟩))] [blk b2 29 (pcL p A0 c0 A1 c1)]:=by
  refine anPut hR1 (ZM (i:=0) (rs:=[5,8]) ZK ?_)
  refine ZA J ?_ ?_
  refine Zla ?_
  refine Z7 ?_
  exact anCov hR1 (an1_16 ) rfl cv Lh
  refine ZA J ?_ ?_
  refine Zld ?_
  refine Z7 ?_
  exact anCov hR1 (an1_20 ) rfl cv Lh
  refine ZA J ?_ ?_
  refine Zla ?_
  refine Z7 ?_
  exact anCov hR1 (an1_21 ) rfl cv Lh
  exact ZB
 have an1_5:∀ (A9:Option Addr) (c9:Nat) (hs9:List Hdr) (hl9:hs9.length=p.fFuns.length),R1 11 #[tT,tT,fF,fF,fF,fF,fF,fF,fF,fF,fF,fF,fF] [(9,.slice A9 p.fFuns.length c9),(1,.slice A' free.length c'),(2,.pointer (some ⟨b2,0,none⟩))] [row kHdr W0 42 (.slice A9 p.fFuns.length c9) hs9,bun (rws (Kd.int .i64) W0 3 hs9 (graphF p)),blk b2 29 (pcL p A0 c0 A1 c1)]:=by
  intro A9 c9 hs9 hl9
  refine anPut hR1 (ZM (i:=2) (rs:=[4,8]) ZK ?_)
  refine ZA J ?_ ?_
  refine Zla ?_
  refine Z7 ?_
  exact anCov hR1 (an1_13 A9 c9 hs9 hl9) rfl cv Lh
  refine ZA J ?_ ?_
  refine Zz (n:=0) (m:=0) J J J (Z7 ?_)
  exact anCov hR1 (an1_14 A9 c9 hs9 hl9) rfl cv Lh
  refine ZA J ?_ ?_
  refine Zla ?_
  refine Z7 ?_
  exact anCov hR1 (an1_15 A9 c9 hs9 hl9) rfl cv Lh
  exact ZB
 have an1_8:R1 11 #[tT,fF,fF,fF,fF,fF,fF,fF,tT,fF,fF,fF,fF] [(8,.agg (pcA p A0 c0 A1 c1)),(16,.agg (pcA p A0 c0 A1 c1)),(1,.slice A' free.length c'),(2,.pointer (some ⟨b2,0,none⟩))] [blk b2 29 (pcL p A0 c0 A1 c1)]:=by
  refine anPut hR1 (ZM (i:=1) (rs:=[2,4]) ZK ?_)
  refine ZA J ?_ ?_
  (refine ZC0 rfl ZK (fun w hS=>frame hS ZQ (fun B' hB hS'=>prog_Graph hS' p _ (gPg hB hp) hsm W0)) ?_;rintro ⟨A9,c9,hs9⟩ hl9)
  refine Z7 ?_
  exact anCov hR1 (an1_15 A9 c9 hs9 hl9) rfl cv Lh
  refine ZA J ?_ ?_
  refine Zla ?_
  refine Z7 ?_
  exact anCov hR1 (an1_17 ) rfl cv Lh
  refine ZA J ?_ ?_
  refine Zz (n:=0) (m:=0) J J J (Z7 ?_)
  exact anCov hR1 (an1_19 ) rfl cv Lh
  exact ZB
 have an1_12:R1 11 #[fF,fF,fF,fF,tT,fF,fF,fF,tT,fF,fF,fF,fF] [(12,.pointer (some ⟨b2,0,none⟩)),(16,.agg (pcA p A0 c0 A1 c1)),(1,.slice A' free.length c'),(2,.pointer (some ⟨b2,0,none⟩))] [blk b2 29 (pcL p A0 c0 A1 c1)]:=by
  refine anPut hR1 (ZM (i:=0) (rs:=[2,5]) ZK ?_)
  refine ZA J ?_ ?_
  refine Zla ?_
  refine Z7 ?_
  exact anCov hR1 (an1_19 ) rfl cv Lh
  refine ZA J ?_ ?_
  refine Zla ?_
  refine Z7 ?_
  exact anCov hR1 (an1_21 ) rfl cv Lh
  refine ZA J ?_ ?_
  refine Zld ?_
  refine Z7 ?_
  exact anCov hR1 (an1_23 ) rfl cv Lh
  exact ZB
 have an1_4:R1 12 #[fF,fF,fF,fF,fF,fF,fF,fF,tT,fF,fF,fF,fF] [(16,.agg (pcA p A0 c0 A1 c1)),(1,.slice A' free.length c'),(2,.pointer (some ⟨b2,0,none⟩))] [blk b2 29 (pcL p A0 c0 A1 c1)]:=by
  refine anPut hR1 (ZM (i:=0) (rs:=[2,4]) ZK ?_)
  refine ZA J ?_ ?_
  refine Zla ?_
  refine Z7 ?_
  exact anCov hR1 (an1_8 ) rfl cv Lh
  refine ZA J ?_ ?_
  refine Zla ?_
  refine Z7 ?_
  exact anCov hR1 (an1_10 ) rfl cv Lh
  refine ZA J ?_ ?_
  refine Zz (n:=0) (m:=0) J J J (Z7 ?_)
  exact anCov hR1 (an1_12 ) rfl cv Lh
  exact ZB
 have an1_3:R1 12 #[fF,fF,fF,fF,tT,fF,fF,fF,fF,fF,fF,fF,fF] [(12,.pointer (some ⟨b2,0,none⟩)),(1,.slice A' free.length c'),(2,.pointer (some ⟨b2,0,none⟩))] [blk b2 29 (pcL p A0 c0 A1 c1)]:=by
  refine anPut hR1 (ZM (i:=0) (rs:=[2,5,8]) ZK ?_)
  refine ZA J ?_ ?_
  refine Zla ?_
  refine Z7 ?_
  exact anCov hR1 (an1_7 ) rfl cv Lh
  refine ZA J ?_ ?_
  refine Zla ?_
  refine Z7 ?_
  exact anCov hR1 (an1_9 ) rfl cv Lh
  refine ZA J ?_ ?_
  refine Zld ?_
  refine Z7 ?_
  exact anCov hR1 (an1_11 ) rfl cv Lh
  refine ZA J ?_ ?_
  refine Zla ?_
  refine Z7 ?_
  exact anCov hR1 (an1_12 ) rfl cv Lh
  exact ZB
 have an1_2:R1 12 #[fF,fF,tT,fF,fF,fF,fF,fF,fF,fF,fF,fF,fF] [(10,.agg (pcA p A0 c0 A1 c1)),(1,.slice A' free.length c'),(2,.pointer (some ⟨b2,0,none⟩))] [blk b2 29 (pcL p A0 c0 A1 c1)]:=by
  refine anPut hR1 (ZM (i:=0) (rs:=[4,8]) ZK ?_)
  refine ZA J ?_ ?_
  refine Zla ?_
  refine Z7 ?_
  exact anCov hR1 (an1_6 ) rfl cv Lh
  refine ZA J ?_ ?_
  refine Zz (n:=0) (m:=0) J J J (Z7 ?_)
  exact anCov hR1 (an1_9 ) rfl cv Lh
  refine ZA J ?_ ?_
  refine Zla ?_
  refine Z7 ?_
  exact anCov hR1 (an1_10 ) rfl cv Lh
  exact ZB
 have an1_1:R1 12 #[tT,fF,fF,fF,fF,fF,fF,fF,fF,fF,fF,fF,fF] [(8,.agg (pcA p A0 c0 A1 c1)),(1,.slice A' free.length c'),(2,.pointer (some ⟨b2,0,none⟩))] [blk b2 29 (pcL p A0 c0 A1 c1)]:=by
  refine anPut hR1 (ZM (i:=1) (rs:=[2,4,8]) ZK ?_)
  refine ZA J ?_ ?_
  (refine ZC0 rfl ZK (fun w hS=>frame hS ZQ (fun B' hB hS'=>prog_Graph hS' p _ (gPg hB hp) hsm W0)) ?_;rintro ⟨A9,c9,hs9⟩ hl9)
  refine Z7 ?_
  exact anCov hR1 (an1_5 A9 c9 hs9 hl9) rfl cv Lh
  refine ZA J ?_ ?_
  refine Zla ?_
  refine Z7 ?_
  exact anCov hR1 (an1_6 ) rfl cv Lh
  refine ZA J ?_ ?_
  refine Zz (n:=0) (m:=0) J J J (Z7 ?_)
  exact anCov hR1 (an1_7 ) rfl cv Lh
  refine ZA J ?_ ?_
  refine Zla ?_
  refine Z7 ?_
  exact anCov hR1 (an1_8 ) rfl cv Lh
  exact ZB
 refine anPut hR1 (ZM (i:=0) (rs:=[2,4,8]) ZK ?_)
 refine ZA J ?_ ?_
 refine Zla ?_
 refine Z7 ?_
 exact anCov hR1 (an1_1 ) rfl cv Lh
 refine ZA J ?_ ?_
 refine Zla ?_
 refine Z7 ?_
 exact anCov hR1 (an1_2 ) rfl cv Lh
 refine ZA J ?_ ?_
 refine Zz (n:=0) (m:=0) J J J (Z7 ?_)
 exact anCov hR1 (an1_3 ) rfl cv Lh
 refine ZA J ?_ ?_
 refine Zla ?_
 refine Z7 ?_
 exact anCov hR1 (an1_4 ) rfl cv Lh
 exact ZB
noncomputable def mem2 (p:ApiProgram) (free:List Bool) (k:Nat):List Bool:=(List.range p.fFuns.length).map fun i=>(calledL p).getD i false && (if i<k then free.getD i false else true)
theorem mem2_len (p:ApiProgram) (free:List Bool) (k:Nat):(mem2 p free k).length=p.fFuns.length:=by unfold mem2;simp
theorem mem2_zero (p:ApiProgram) (free:List Bool):mem2 p free 0=calledL p:=by
 apply List.ext_getElem?
 intro i
 unfold mem2
 have hcl:=calledL_len p
 rw [List.getElem?_map]
 by_cases h:i<p.fFuns.length
 · rw [List.getElem?_range h]
   simp [List.getD_eq_getElem?_getD,List.getElem?_eq_getElem (show i<(calledL p).length by omega)]
 · rw [List.getElem?_eq_none (by simpa using h),List.getElem?_eq_none ZO];rfl
theorem mem2_at {p:ApiProgram}{free:List Bool}{k:Nat}(hk:k<p.fFuns.length):(mem2 p free k)[k]?=some ((calledL p).getD k false):=by
 unfold mem2
 rw [List.getElem?_map,List.getElem?_range hk]
 simp
theorem mem2_set {p:ApiProgram}{free:List Bool}{k:Nat}(hk:k<p.fFuns.length) {b:Bool}(h:((calledL p).getD k false && free.getD k false)=b):(mem2 p free k).set k b=mem2 p free (k+1):=by
 apply List.ext_getElem?
 intro i
 rw [List.getElem?_set,mem2_len]
 by_cases e:k=i
 · subst e
   rw [if_pos rfl,if_pos hk]
   unfold mem2
   rw [List.getElem?_map,List.getElem?_range hk,← h]
   simp
 · rw [if_neg e]
   unfold mem2
   rw [List.getElem?_map,List.getElem?_map]
   cases hr:(List.range p.fFuns.length)[i]? with
   | none=>rfl
   | some j=>
    obtain ⟨hk2,rfl⟩:=List.getElem?_eq_some_iff.1 hr
    simp only [List.getElem_range,Option.map_some]
    by_cases h3:i<k
    · rw [if_pos h3,if_pos ZO]
    · rw [if_neg h3,if_neg ZO]
theorem mem2_all (p:ApiProgram) (free:List Bool):mem2 p free p.fFuns.length=memF p free:=by
 unfold mem2 memF
 refine List.map_congr_left (fun i hi=>?_)
 rw [if_pos (List.mem_range.1 hi)]
theorem ref27_members {B:Base}{w:World}(hS:St B [] w) (p:ApiProgram) (pc:List Value) (hp:kApiProgram.K B.e p pc) (hsm:SmallP p) (free:List Bool) (A':Option Addr) (c':Nat) (hF:Kd.bool.C B.e A' free) (W0:World) :
 CW 98 #[.agg pc.toArray,.slice A' free.length c'] w (Ret B (fun _:Option Addr×Nat=>True) (fun z=>.slice z.1 p.fFuns.length z.2) (fun z=>[row Kd.bool W0 4 (.slice z.1 p.fFuns.length z.2) (memF p free)])):=by
 obtain ⟨A0,c0,A1,c1,rfl,l0,g0,l1,g1⟩:=kApiProgram_open hp
 have hn:=hsm.funs
 have hcl:=calledL_len p
 refine ZX Tryz.func98 hS ?_
 refine Zh (Zi (oBox J ZP (fun b2=>?_)))
 refine Zp J (Zn (Zzk ?_))
 (refine ZC0 rfl ZK (fun w hS=>frame hS ZQ (fun B' hB hS'=>ref26_Called hS' p _ (gPg hB hp) hsm W0)) ?_;rintro ⟨A8,c8⟩ -)
 refine Zp J (Zn (Za (Zh (Zh (Zi (Zp J (Zn (Za (Zk ?_)))))))))
 refine wLoop (ι:=Nat×Option Addr) (fun z=>[(1,.slice A' free.length c'),(5,.slice z.2 p.fFuns.length c8),(6,.int .i64 (z.1:Int))]) (fun z=>[row Kd.bool W0 4 (.slice z.2 p.fFuns.length c8) (mem2 p free z.1)]) (fun z=>z.1≤p.fFuns.length) (fun z=>p.fFuns.length-z.1) (0,A8) ?_ cv (by dsimp only;rw [mem2_zero];exact (Leads.has ZQ)) ?_
 exact Nat.zero_le _
 rintro ⟨k,A5⟩ hk
 dsimp only at hk
 have hml:=mem2_len p free k
 try dsimp only
 refine Zh (Zh (Zi (Zo J (Zo J (Zv J J (Zx J J (Zn (Za (wC (fun h12=>?_) (fun h12=>?_))))))))))
 have hkl:k<p.fFuns.length:=by omega
 refine Zj (Za (Zh (Zk (Zi (Zo J (Zo J (Zo J (Zo J (ZR J J ZP ZO J J (fun g19 hg19=>?_))))))))))
 first | subst hg19 | (injection hg19 with hg19;injection hg19 with hg19;subst hg19)
 refine ZR1 J ZP ZO J (fun u20 hu20=>?_)
 have hce:(calledL p).getD k false=u20:=Option.some.inj ((mem2_at (free:=free) hkl).symm.trans hu20)
 refine Zo J (ZS (ZT 21) (fun h21=>?_) (fun h21=>?_))
 refine Zq J J (Zo J (Zq J J (Zo J (Zq J J (Zv J J (Zq J J (Zx J J (Zt J J (Zo J (ZS (ZT 27) (fun h27=>?_) (fun h27=>?_)))))))))))
 have hkf:k<free.length:=by first | omega | (simp at h27;omega)
 obtain ⟨v,hv⟩:∃ v,free[k]?=some v:=⟨_,List.getElem?_eq_getElem hkf⟩
 obtain ⟨ec,csc,hEc⟩:=hF.elm hv
 obtain rfl:=(show csc=[Value.bool v] from hEc.K)
 refine Zq J J (Zo J (Zq J J (Zo J (Zq J J (oIdxE J J (hEc) ZO J J ?_)))))
 have hc30:=(hEc).cell
 refine Zq J J (Zlx hc30 ?_)
 refine Zt J J (ZR J J ZP ZO J J (fun g33 hg33=>?_))
 first | subst hg33 | (injection hg33 with hg33;injection hg33 with hg33;subst hg33)
 refine oStR _ J J J J ZP (by first | omega | (simp only [List.length_set];omega)) ?_
 refine Zn (Zzd ?_)
 refine Zp J (Zn (Za ?_))
 exact ⟨rfl,(k+1,_),by show k+1≤_;omega,by show p.fFuns.length-(k+1)<p.fFuns.length-k;omega,cv,by dsimp only;rw [← mem2_set hkl (b:=v) (by rw [hce,h21,Bool.true_and,getD_at hv])];exact (Leads.has ZQ)⟩
 refine Zr J J J J (Zr J J J J (Zr J J J J (Zr J J J J (Zu J J (ZR J J ZP ZO J J (fun g33 hg33=>?_))))))
 first | subst hg33 | (injection hg33 with hg33;injection hg33 with hg33;subst hg33)
 refine oStR _ J J J J ZP (by first | omega | (simp only [List.length_set];omega)) ?_
 refine Zn (Zzd ?_)
 refine Zp J (Zn (Za ?_))
 exact ⟨rfl,(k+1,_),by show k+1≤_;omega,by show p.fFuns.length-(k+1)<p.fFuns.length-k;omega,cv,by dsimp only;rw [← mem2_set hkl (b:=false) (by rw [List.getD_eq_getElem?_getD (l:=free),List.getElem?_eq_none (by first | omega | (simp at h27;omega))];simp)];exact (Leads.has ZQ)⟩
 refine Zr J J J J (Zr J J J J (Zr J J J J (Zr J J J J (Zu J J (Zo J (Zr J J J J (Zr J J J J (Zr J J J J (Zr J J J J (Zu J J (ZR J J ZP ZO J J (fun g33 hg33=>?_))))))))))))
 first | subst hg33 | (injection hg33 with hg33;injection hg33 with hg33;subst hg33)
 refine oStR _ J J J J ZP (by first | omega | (simp only [List.length_set];omega)) ?_
 refine Zn (Zzd ?_)
 refine Zp J (Zn (Za ?_))
 exact ⟨rfl,(k+1,_),by show k+1≤_;omega,by show p.fFuns.length-(k+1)<p.fFuns.length-k;omega,cv,by dsimp only;rw [← mem2_set hkl (b:=false) (by rw [hce,h21,Bool.false_and])];exact (Leads.has ZQ)⟩
 obtain rfl:k=p.fFuns.length:=by omega
 rw [mem2_all]
 refine Zm (Zzf ?_)
 exact ⟨(A5,c8),trivial,rfl,Lh⟩
end Go.Proofs.YtogaiijhicfoaaaGreatY
