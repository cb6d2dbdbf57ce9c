/-
  Part 6 of the proof of FileTells: contracts of functions, and what follows from them; without conditions.
-/
import Derived.Test.YtpmdhkjbhjgoaaaGreatFileTells5
import Derived.Laws.StructEq
set_option linter.unusedVariables false
set_option linter.unusedSimpArgs false
set_option linter.defProp false
namespace Go.Proofs.YtpmdhkjbhjgoaaaGreatD
set_option maxRecDepth 100000
set_option maxHeartbeats 4000000
open Go.RowKit Go.Proofs.YtpmdhkjbhjgoaaaGreatK Go.Proofs.YtpmdhkjbhjgoaaaGreatT Go.Proofs.YtpmdhkjbhjgoaaaGreatV

section
variable {c : Cx} {M : Md c} {d : Nat} {ty : TypeId} {pos : String} {af : Array Edge} {rest : List Oper} {E : Env} {D : List Deferred} {H : List Res} {x y : Operand} {t t' : TypeId}
theorem oBinV {op:BinOp}{u v r:Value}(hx:E.op x=some u) (hy:E.op y=some v) (hg:∀ w,(eqGuard op t x y u v).run c.P w=.ok () w) (hr:∀ w,(binOp op t u v).run c.P w=.ok r w) (h:O M rest ((d,r) :: E) D H) (hN:Nat.blt d c.N=true:=by rfl) :
 O M (⟨some d,.binOp op t x y t',ty,pos,af,none⟩ :: rest) E D H:=
 oC _ rfl hN (fun a w ha hw=>by simp only [execOp,ha.op hx,ha.op hy,Sem.run_bind,hg,Result.andThen_ok,hr,Sem.run_pure]) h
end
theorem same_rel (x:ApiReloc) (w:World):(binOp .neq 92 (.agg #[.int .i64 x.fAt,.int .i64 x.fSym,.bool x.fWide]) (.agg #[.int .i64 x.fAt,.int .i64 x.fSym,.bool x.fWide])).run Tryz.prog w=.ok (.bool false) w:=by
 simp [go_sem,binOp,Op.equal,Op.maxDepth]
theorem same_lin (x:ApiLine) (w:World):(binOp .neq 107 (.agg #[.int .i64 x.fAt,.int .i64 x.fLine]) (.agg #[.int .i64 x.fAt,.int .i64 x.fLine])).run Tryz.prog w=.ok (.bool false) w:=by
 simp [go_sem,binOp,Op.equal,Op.maxDepth]
theorem same_ins (x:ApiInstr) (w:World):(binOp .neq 90 (.agg #[.int .i64 x.fOp,.int .i64 x.fA,.int .i64 x.fB,.int .i64 x.fC,.int .i64 x.fN]) (.agg #[.int .i64 x.fOp,.int .i64 x.fA,.int .i64 x.fB,.int .i64 x.fC,.int .i64 x.fN])).run Tryz.prog w=.ok (.bool false) w:=by
 simp [go_sem,binOp,Op.equal,Op.maxDepth]
theorem ref15_SameRelocs {B:Base}{w:World}(hS:St B [] w) (l:List ApiReloc) (A:Option Addr) (cp:Nat) (hC:kApiReloc.C B.e A l) (A1:Option Addr) (cp1:Nat) (hC1:kApiReloc.C B.e A1 l) :
 CW 80 #[.slice A l.length cp,.slice A1 l.length cp1] w (Ret B (fun _:Unit=>True) (fun _=>.bool true) (fun _=>[])):=by
 have hl:=hC.1
 refine ZX Tryz.func80 hS ?_
 refine Zh (Zi (Zp J (Zn (Za (Zh (Zh (Zi (Zo J (Zv J J (Zo J (Zv J J (Z0 J J (ZS0 (t:=10) (v':=.bool false) J (by simp) ?_)))))))))))))
 refine Zn (Za (wCondF J (Zj (Za (Zh (Zh (Zi (Zp J (Zn (Za (Zk (wLoop (ι:=Nat) (fun i=>[(0,.slice A l.length cp),(1,.slice A1 l.length cp1),(5,.int .i64 (i:Int))]) (fun i=>[]) (fun i=>i≤l.length) (fun i=>l.length-i) 0 ?_ cv (Leads.has ZQ) ?_))))))))))))
 exact Nat.zero_le _
 rintro i hi
 try dsimp only
 refine Zh (Zh (Zi (Zo J (Zo J (Zv J J (Zx J J (Zn (Za (wC (fun h14=>?_) (fun h14=>?_))))))))))
 obtain ⟨x,hx⟩:∃ x,l[i]?=some x:=⟨_,List.getElem?_eq_getElem ZO⟩
 obtain ⟨e1,cs1,hE⟩:=hC.elm hx
 obtain rfl:=kApiReloc_open hE.K
 obtain ⟨e2,cs2,hE2⟩:=hC1.elm hx
 obtain rfl:=kApiReloc_open hE2.K
 have hil:i<l.length:=by omega
 refine Zj (Za (Zh (Zk (Zh (wDrawG J [0,1,2,3,4,5,6,7,8] [] [] 24 ZK J J (fun w0=>?_))))))
 refine Zo J (Zo J (oIdxE J J (hE) ZO J J ?_))
 have hc19:=(hE).cell
 refine Zlx hc19 ?_
 refine Zo J (Zo J (oIdxE J J (hE2) ZO J J ?_))
 have hc23:=(hE2).cell
 refine Zlx hc23 ?_
 refine oBinV (r:=.bool false) J J (fun w=>run_eqGuard_agg w .neq _ _ _ _ _ Tryz.eqGuardType92) (fun w=>same_rel _ w) ?_
 refine Z6 (Zn (Za (wCondF J (Zj (Zze ?_)))))
 refine Zp J (Zn (Za ?_))
 exact ⟨rfl,i+1,by omega,by omega,cv,Lh⟩
 refine Zm (Zzg ?_)
 exact ⟨(),trivial,rfl,Lh⟩
theorem ref15_Same {B:Base}{w:World}(hS:St B [] w) (d:ApiData) (dc ec:List Value) (hd:kApiData.K B.e d dc) (he:kApiData.K B.e d ec) :
 CW 36 #[.agg dc.toArray,.agg ec.toArray] w (Ret B (fun _:Unit=>True) (fun _=>.bool true) (fun _=>[])):=by
 obtain ⟨A0,a0,A1,a1,rfl,l0,g0,l1,g1⟩:=kApiData_open hd
 obtain ⟨D0,d0,D1,d1,rfl,m0,q0,m1,q1⟩:=kApiData_open he
 have hl:=g0.1
 refine ZX Tryz.func36 hS ?_
 refine Zh (Zi (oBox J ZP (fun b2=>?_)))
 refine oBox J ZP (fun b3=>?_)
 refine Zp J (Zn (Za (Zh (Zh (Zi (Zz (n:=0) (m:=0) J J J (Zld ?_)))))))
 refine Zz (n:=0) (m:=0) J J J (Zld ?_)
 refine Z0 J J (ZS0 (t:=10) (v':=.bool false) J (by simp) ?_)
 refine Zo J (Zq J J (Zz (n:=1) (m:=1) J J J (Zzf ?_)))
 refine Zq J J (Zv J J (Zq J J (Zz (n:=1) (m:=1) J J J (Zzf ?_))))
 refine Zq J J (Zv J J (Zq J J (Z0 J J (ZS0 (t:=18) (v':=.bool false) J (by simp) ?_))))
 refine Zu J J (Zo J (Zq J J (Zz (n:=2) (m:=2) J J J (Zzf ?_))))
 refine Zq J J (Zz (n:=2) (m:=2) J J J (Zzf ?_))
 refine Zq J J ?_
 (refine ZC0 rfl ZK (fun w hS=>frame hS ZQ (fun B' hB hS'=>ref15_SameRelocs hS' d.fRelocs A1 a1 (Kd.C_grow hB g1) D1 d1 (Kd.C_grow hB q1))) ?_;rintro ⟨⟩ -)
 refine Zq J J (Zno ?_)
 refine ZS0 (t:=26) (v':=.bool false) J (by simp) ?_
 refine Zu J J (Zn (Za (wCondF J (Zj (Za (Zh (Zh (Zi (Zp J (Zn (Za (Zk (wLoop (ι:=Nat) (fun i=>[(2,.pointer (some ⟨b2,0,none⟩)),(3,.pointer (some ⟨b3,0,none⟩)),(5,.int .i64 (i:Int))]) (fun i=>[blk b2 55 [.int .i64 d.fKind,.slice A0 d.fWords.length a0,.slice A1 d.fRelocs.length a1],blk b3 55 [.int .i64 d.fKind,.slice D0 d.fWords.length d0,.slice D1 d.fRelocs.length d1]]) (fun i=>i≤d.fWords.length) (fun i=>d.fWords.length-i) 0 ?_ cv (Leads.has ZQ) ?_)))))))))))))
 exact Nat.zero_le _
 rintro i hi
 try dsimp only
 refine Zh (Zh (Zi (Zo J (Zz (n:=1) (m:=1) J J J (Zld ?_)))))
 refine Zv J J (Zx J J (Zn (Za (wC (fun h32=>?_) (fun h32=>?_)))))
 obtain ⟨x,hx⟩:∃ x,d.fWords[i]?=some x:=⟨_,List.getElem?_eq_getElem ZO⟩
 obtain ⟨e1,cs1,hE⟩:=g0.elm hx
 obtain rfl:=(show cs1=[Value.int .i64 x] from hE.K)
 obtain ⟨e2,cs2,hE2⟩:=q0.elm hx
 obtain rfl:=(show cs2=[Value.int .i64 x] from hE2.K)
 have hil:i<d.fWords.length:=by omega
 refine Zj (Za (Zh (Zk (Zh (wDrawG J [0,1,2,3,4,5,6,7,8,9,10] [] [] 24 ZK J J (fun w0=>?_))))))
 refine Zz (n:=1) (m:=1) J J J (Zld ?_)
 refine Zo J (oIdxE J J (hE) ZO J J ?_)
 have hc38:=(hE).cell
 refine Zlx hc38 ?_
 refine Zz (n:=1) (m:=1) J J J (Zld ?_)
 refine Zo J (oIdxE J J (hE2) ZO J J ?_)
 have hc43:=(hE2).cell
 refine Zlx hc43 ?_
 refine Z0 J J (ZS0 (t:=45) (v':=.bool false) J (by simp) ?_)
 refine Z6 (Zn (Za (wCondF J (Zj (Zze ?_)))))
 refine Zp J (Zn (Za ?_))
 exact ⟨rfl,i+1,by omega,by omega,cv,Lh⟩
 refine Zm (Zzg ?_)
 exact ⟨(),trivial,rfl,Lh⟩
theorem ref16_Same {B:Base}{w:World}(hS:St B [] w) (f:ApiFunc) (fc gc:List Value) (hf:kApiFunc.K B.e f fc) (hg:kApiFunc.K B.e f gc) :
 CW 35 #[.agg fc.toArray,.agg gc.toArray] w (Ret B (fun _:Unit=>True) (fun _=>.bool true) (fun _=>[])):=by
 obtain ⟨A0,a0,A1,a1,A2,a2,A3,a3,rfl,l0,g0,l1,g1,l2,g2,l3,g3⟩:=kApiFunc_open hf
 obtain ⟨D0,d0,D1,d1,D2,d2,D3,d3,rfl,m0,q0,m1,q1,m2,q2,m3,q3⟩:=kApiFunc_open hg
 have hl1:=g1.1
 have hl2:=g2.1
 refine ZX Tryz.func35 hS ?_
 refine Zh (Zi (oBox J ZP (fun b2=>?_)))
 refine oBox J ZP (fun b3=>?_)
 refine Zp J (Zn (Za (Zh (Zh (Zi ?_)))))
 simp only [List.append_eq,List.cons_append,List.nil_append]
 refine Zz (n:=0) (m:=0) J J J (Zld ?_)
 refine Zz (n:=0) (m:=0) J J J (Zld ?_)
 refine Z0 J J (ZS0 (t:=11) (v':=.bool false) J (by simp) ?_)
 refine Zo J (Zq J J (Zz (n:=1) (m:=1) J J J (Zzf ?_)))
 refine Zq J J (Zz (n:=1) (m:=1) J J J (Zzf ?_))
 refine Zq J J ?_
 (refine ZC0 rfl ZK (fun w hS=>frame hS ZQ (fun B' hB hS'=>Go.Proofs.YtpmdhkjbhjgoaaaGreatG.ints_any hS' A0 a0 f.fKinds (Kd.C_grow hB g0) D0 d0 f.fKinds (Kd.C_grow hB q0))) ?_;rintro ⟨⟩ -)
 refine Zq J J (Zno ?_)
 refine ZS0 (t:=18) (v':=.bool false) J (by simp) ?_
 refine Zu J J (Zo J (Zq J J (Zz (n:=2) (m:=2) J J J (Zzf ?_))))
 refine Zq J J (Zz (n:=2) (m:=2) J J J (Zzf ?_))
 refine Zq J J (Z0 J J (ZS0 (t:=25) (v':=.bool false) J (by simp) ?_))
 refine Zu J J (Zo J (Zq J J (Zz (n:=3) (m:=3) J J J (Zzf ?_))))
 refine Zq J J (Zz (n:=3) (m:=3) J J J (Zzf ?_))
 refine Zq J J (oNeqBool J J J (ZS0 (t:=32) (v':=.bool false) J (by simp) ?_))
 refine Zu J J (Zo J (Zq J J (Zz (n:=4) (m:=4) J J J (Zzf ?_))))
 refine Zq J J (Zz (n:=4) (m:=4) J J J (Zzf ?_))
 refine Zq J J (Z0 J J (ZS0 (t:=39) (v':=.bool false) J (by simp) ?_))
 refine Zu J J (Zo J (Zq J J (Zz (n:=5) (m:=5) J J J (Zzf ?_))))
 refine Zq J J (Zz (n:=5) (m:=5) J J J (Zzf ?_))
 refine Zq J J (Z0 J J (ZS0 (t:=46) (v':=.bool false) J (by simp) ?_))
 refine Zu J J (Zo J (Zq J J (Zz (n:=6) (m:=6) J J J (Zzf ?_))))
 refine Zq J J (Zv J J (Zq J J (Zz (n:=6) (m:=6) J J J (Zzf ?_))))
 refine Zq J J (Zv J J (Zq J J (Z0 J J (ZS0 (t:=55) (v':=.bool false) J (by simp) ?_))))
 refine Zu J J (Zo J (Zq J J (Zz (n:=7) (m:=7) J J J (Zzf ?_))))
 refine Zq J J (Zv J J (Zq J J (Zz (n:=7) (m:=7) J J J (Zzf ?_))))
 refine Zq J J (Zv J J (Zq J J (Z0 J J (ZS0 (t:=64) (v':=.bool false) J (by simp) ?_))))
 refine Zu J J (Zo J (Zq J J (Zz (n:=8) (m:=8) J J J (Zzf ?_))))
 refine Zq J J (Zz (n:=8) (m:=8) J J J (Zzf ?_))
 refine Zq J J ?_
 (refine ZC0 rfl ZK (fun w hS=>frame hS ZQ (fun B' hB hS'=>ref15_SameRelocs hS' f.fRelocs A3 a3 (Kd.C_grow hB g3) D3 d3 (Kd.C_grow hB q3))) ?_;rintro ⟨⟩ -)
 refine Zq J J (Zno ?_)
 refine ZS0 (t:=72) (v':=.bool false) J (by simp) ?_
 refine Zu J J (Zn (Za (wCondF J (Zj (Za (Zh (Zh (Zi (Zp J (Zn (Za (Zk (wLoop (ι:=Nat) (fun i=>[(2,.pointer (some ⟨b2,0,none⟩)),(3,.pointer (some ⟨b3,0,none⟩)),(5,.int .i64 (i:Int))]) (fun i=>[blk b2 51 [.int .i64 f.fClass,.slice A0 f.fKinds.length a0,.int .i64 f.fPad,.bool f.fNosplit,.int .i64 f.fFrom,.int .i64 f.fTo,.slice A1 f.fLines.length a1,.slice A2 f.fCode.length a2,.slice A3 f.fRelocs.length a3],blk b3 51 [.int .i64 f.fClass,.slice D0 f.fKinds.length d0,.int .i64 f.fPad,.bool f.fNosplit,.int .i64 f.fFrom,.int .i64 f.fTo,.slice D1 f.fLines.length d1,.slice D2 f.fCode.length d2,.slice D3 f.fRelocs.length d3]]) (fun i=>i≤f.fLines.length) (fun i=>f.fLines.length-i) 0 ?_ cv (Leads.has ZQ) ?_)))))))))))))
 exact Nat.zero_le _
 rintro i hi
 try dsimp only
 refine Zh (Zh (Zi (Zo J (Zz (n:=6) (m:=6) J J J (Zld ?_)))))
 refine Zv J J (Zx J J (Zn (Za (wC (fun h78=>?_) (fun h78=>?_)))))
 obtain ⟨x,hx⟩:∃ x,f.fLines[i]?=some x:=⟨_,List.getElem?_eq_getElem ZO⟩
 obtain ⟨e1,cs1,hE⟩:=g1.elm hx
 obtain rfl:=kApiLine_open hE.K
 obtain ⟨e2,cs2,hE2⟩:=q1.elm hx
 obtain rfl:=kApiLine_open hE2.K
 have hil:i<f.fLines.length:=by omega
 refine Zj (Za (Zh (Zk (Zh (wDrawG J [0,1,2,3,4,5,6,7,8,9,10] [] [] 24 ZK J J (fun w0=>?_))))))
 refine Zz (n:=6) (m:=6) J J J (Zld ?_)
 refine Zo J (oIdxE J J (hE) ZO J J ?_)
 have hc84:=(hE).cell
 refine Zlx hc84 ?_
 refine Zz (n:=6) (m:=6) J J J (Zld ?_)
 refine Zo J (oIdxE J J (hE2) ZO J J ?_)
 have hc89:=(hE2).cell
 refine Zlx hc89 ?_
 refine oBinV (r:=.bool false) J J (fun w=>run_eqGuard_agg w .neq _ _ _ _ _ Tryz.eqGuardType107) (fun w=>same_lin _ w) ?_
 refine Z6 (Zn (Za (wCondF J (Zj (Zze ?_)))))
 refine Zp J (Zn (Za ?_))
 exact ⟨rfl,i+1,by omega,by omega,cv,Lh⟩
 refine Zm (Zb (Zb (Ze (Za (Zh (Zh (Zi (Zp J (Zn (Za (Zk (wLoop (ι:=Nat) (fun i=>[(2,.pointer (some ⟨b2,0,none⟩)),(3,.pointer (some ⟨b3,0,none⟩)),(6,.int .i64 (i:Int))]) (fun i=>[blk b2 51 [.int .i64 f.fClass,.slice A0 f.fKinds.length a0,.int .i64 f.fPad,.bool f.fNosplit,.int .i64 f.fFrom,.int .i64 f.fTo,.slice A1 f.fLines.length a1,.slice A2 f.fCode.length a2,.slice A3 f.fRelocs.length a3],blk b3 51 [.int .i64 f.fClass,.slice D0 f.fKinds.length d0,.int .i64 f.fPad,.bool f.fNosplit,.int .i64 f.fFrom,.int .i64 f.fTo,.slice D1 f.fLines.length d1,.slice D2 f.fCode.length d2,.slice D3 f.fRelocs.length d3]]) (fun i=>i≤f.fCode.length) (fun i=>f.fCode.length-i) 0 ?_ cv (Leads.has ZQ) ?_))))))))))))
 exact Nat.zero_le _
 rintro i hi
 try dsimp only
 refine Zh (Zh (Zi (Zo J (Zz (n:=7) (m:=7) J J J (Zld ?_)))))
 refine Zv J J (Zx J J (Zn (Za (wC (fun h96=>?_) (fun h96=>?_)))))
 obtain ⟨x,hx⟩:∃ x,f.fCode[i]?=some x:=⟨_,List.getElem?_eq_getElem ZO⟩
 obtain ⟨e1,cs1,hE⟩:=g2.elm hx
 obtain rfl:=kApiInstr_open hE.K
 obtain ⟨e2,cs2,hE2⟩:=q2.elm hx
 obtain rfl:=kApiInstr_open hE2.K
 have hil:i<f.fCode.length:=by omega
 refine Zj (Za (Zh (Zk (Zh (wDrawG J [0,1,2,3,4,5,6,7,8,9,10] [] [] 24 ZK J J (fun w0=>?_))))))
 refine Zz (n:=7) (m:=7) J J J (Zld ?_)
 refine Zo J (oIdxE J J (hE) ZO J J ?_)
 have hc102:=(hE).cell
 refine Zlx hc102 ?_
 refine Zz (n:=7) (m:=7) J J J (Zld ?_)
 refine Zo J (oIdxE J J (hE2) ZO J J ?_)
 have hc107:=(hE2).cell
 refine Zlx hc107 ?_
 refine oBinV (r:=.bool false) J J (fun w=>run_eqGuard_agg w .neq _ _ _ _ _ Tryz.eqGuardType90) (fun w=>same_ins _ w) ?_
 refine Z6 (Zn (Za (wCondF J (Zj (Zze ?_)))))
 refine Zp J (Zn (Za ?_))
 exact ⟨rfl,i+1,by omega,by omega,cv,Lh⟩
 refine Zm (Zzg ?_)
 exact ⟨(),trivial,rfl,Lh⟩
theorem same_sym (x:ApiSymbol) (w:World):(binOp .neq 44 (.agg #[.string x.fName,.bool x.fLocal,.int .i64 x.fSort,.int .i64 x.fKind,.int .i64 x.fDef]) (.agg #[.string x.fName,.bool x.fLocal,.int .i64 x.fSort,.int .i64 x.fKind,.int .i64 x.fDef])).run Tryz.prog w=.ok (.bool false) w:=by
 simp [go_sem,binOp,Op.equal,Op.maxDepth]
theorem ref19_Same {B:Base}{w:World}(hS:St B [] w) (o:ApiObject) (oc ec:List Value) (hd:kApiObject.K B.e o oc) (he:kApiObject.K B.e o ec) :
 CW 12 #[.agg oc.toArray,.agg ec.toArray] w (Ret B (fun _:Unit=>True) (fun _=>.bool true) (fun _=>[])):=by
 obtain ⟨A0,a0,A1,a1,A2,a2,rfl,l0,g0,l1,g1,l2,g2⟩:=kApiObject_open hd
 obtain ⟨D0,d0,D1,d1,D2,d2,rfl,m0,q0,m1,q1,m2,q2⟩:=kApiObject_open he
 have hl0:=g0.1
 have hl1:=g1.1
 have hl2:=g2.1
 refine ZX Tryz.func12 hS ?_
 refine Zh (Zi (oBox J ZP (fun b2=>?_)))
 refine oBox J ZP (fun b3=>?_)
 refine Zp J (Zn (Za (Zh (Zh (Zi (Zz (n:=0) (m:=0) J J J (Zld ?_)))))))
 refine Zv J J (Zz (n:=0) (m:=0) J J J (Zld ?_))
 refine Zv J J (Z0 J J (ZS0 (t:=14) (v':=.bool false) J (by simp) ?_))
 refine Zo J (Zq J J (Zz (n:=1) (m:=1) J J J (Zzf ?_)))
 refine Zq J J (Zv J J (Zq J J (Zz (n:=1) (m:=1) J J J (Zzf ?_))))
 refine Zq J J (Zv J J (Zq J J (Z0 J J (ZS0 (t:=22) (v':=.bool false) J (by simp) ?_))))
 refine Zu J J (Zo J (Zq J J (Zz (n:=2) (m:=2) J J J (Zzf ?_))))
 refine Zq J J (Zv J J (Zq J J (Zz (n:=2) (m:=2) J J J (Zzf ?_))))
 refine Zq J J (Zv J J (Zq J J (Z0 J J (ZS0 (t:=31) (v':=.bool false) J (by simp) ?_))))
 refine Zu J J (Zn (Za (wCondF J (Zj (Za (Zh (Zh (Zi (Zp J (Zn (Za (Zk (wLoop (ι:=Nat) (fun i=>[(2,.pointer (some ⟨b2,0,none⟩)),(3,.pointer (some ⟨b3,0,none⟩)),(5,.int .i64 (i:Int))]) (fun i=>[blk b2 26 [.slice A0 o.fSymbols.length a0,.slice A1 o.fFuncs.length a1,.slice A2 o.fDatas.length a2],blk b3 26 [.slice D0 o.fSymbols.length d0,.slice D1 o.fFuncs.length d1,.slice D2 o.fDatas.length d2]]) (fun i=>i≤o.fSymbols.length) (fun i=>o.fSymbols.length-i) 0 ?_ cv (Leads.has ZQ) ?_)))))))))))))
 exact Nat.zero_le _
 rintro i hi
 try dsimp only
 refine Zh (Zh (Zi (Zo J (Zz (n:=0) (m:=0) J J J (Zld ?_)))))
 refine Zv J J (Zx J J (Zn (Za (wC (fun h37=>?_) (fun h37=>?_)))))
 obtain ⟨x,hx⟩:∃ x,o.fSymbols[i]?=some x:=⟨_,List.getElem?_eq_getElem ZO⟩
 obtain ⟨e1,cs1,hE⟩:=g0.elm hx
 obtain rfl:=kApiSymbol_open hE.K
 obtain ⟨e2,cs2,hE2⟩:=q0.elm hx
 obtain rfl:=kApiSymbol_open hE2.K
 have hil:i<o.fSymbols.length:=by omega
 refine Zj (Za (Zh (Zk (Zh (wDrawG J [0,1,2,3,4,5,6,7,8,9,10] [] [] 24 ZK J J (fun w0=>?_))))))
 refine Zz (n:=0) (m:=0) J J J (Zld ?_)
 refine Zo J (oIdxE J J (hE) ZO J J ?_)
 have hc43:=(hE).cell
 refine Zlx hc43 ?_
 refine Zz (n:=0) (m:=0) J J J (Zld ?_)
 refine Zo J (oIdxE J J (hE2) ZO J J ?_)
 have hc48:=(hE2).cell
 refine Zlx hc48 ?_
 refine oBinV (r:=.bool false) J J (fun w=>run_eqGuard_agg w .neq _ _ _ _ _ Tryz.eqGuardType44) (fun w=>same_sym _ w) ?_
 refine Z6 (Zn (Za (wCondF J (Zj (Zze ?_)))))
 refine Zp J (Zn (Za ?_))
 exact ⟨rfl,i+1,by omega,by omega,cv,Lh⟩
 refine Zm (Zb (Zb (Ze (Za (Zh (Zh (Zi (Zp J (Zn (Za (Zk (wLoop (ι:=Nat) (fun i=>[(2,.pointer (some ⟨b2,0,none⟩)),(3,.pointer (some ⟨b3,0,none⟩)),(6,.int .i64 (i:Int))]) (fun i=>[blk b2 26 [.slice A0 o.fSymbols.length a0,.slice A1 o.fFuncs.length a1,.slice A2 o.fDatas.length a2],blk b3 26 [.slice D0 o.fSymbols.length d0,.slice D1 o.fFuncs.length d1,.slice D2 o.fDatas.length d2]]) (fun i=>i≤o.fFuncs.length) (fun i=>o.fFuncs.length-i) 0 ?_ cv (Leads.has ZQ) ?_))))))))))))
 exact Nat.zero_le _
 rintro i hi
 try dsimp only
 refine Zh (Zh (Zi (Zo J (Zz (n:=1) (m:=1) J J J (Zld ?_)))))
 refine Zv J J (Zx J J (Zn (Za (wC (fun h55=>?_) (fun h55=>?_)))))
 obtain ⟨x,hx⟩:∃ x,o.fFuncs[i]?=some x:=⟨_,List.getElem?_eq_getElem ZO⟩
 obtain ⟨e1,cs1,hE⟩:=g1.elm hx
 obtain ⟨X0p,x0p,X1p,x1p,X2p,x2p,X3p,x3p,rfl,-,-,-,-,-,-,-,-⟩:=kApiFunc_open hE.K
 obtain ⟨e2,cs2,hE2⟩:=q1.elm hx
 obtain ⟨X0q,x0q,X1q,x1q,X2q,x2q,X3q,x3q,rfl,-,-,-,-,-,-,-,-⟩:=kApiFunc_open hE2.K
 have hil:i<o.fFuncs.length:=by omega
 refine Zj (Za (Zh (Zk (Zh (wDrawG J [0,1,2,3,4,5,6,7,8,9] [(10,[],[11])] [] 24 ZK J J (fun w0=>?_))))))
 refine Zz (n:=1) (m:=1) J J J (Zld ?_)
 refine Zo J (oIdxE J J (hE) ZO J J ?_)
 have hc61:=(hE).cell
 refine Zlx hc61 ?_
 refine Zz (n:=1) (m:=1) J J J (Zld ?_)
 refine Zo J (oIdxE J J (hE2) ZO J J ?_)
 have hc66:=(hE2).cell
 refine Zlx hc66 ?_
 refine Z4 (Z5 J ?_)
 (refine ZC0 rfl ZK (fun w hS=>frame hS ZQ (fun B' hB hS'=>ref16_Same hS' x _ _ (kApiFunc.K_grow hB hE.K) (kApiFunc.K_grow hB hE2.K))) ?_;rintro ⟨⟩ -)
 refine ZG ?_ J (fun w0=>?_)
 exact AgainG.nil
 refine Zno ?_
 refine Z6 (Zn (Za (wCondF J (Zj (Zze ?_)))))
 refine Zp J (Zn (Za ?_))
 exact ⟨rfl,i+1,by omega,by omega,cv,Lh⟩
 refine Zm (Zb (Zb (Ze (Za (Zh (Zh (Zi (Zp J (Zn (Za (Zk (wLoop (ι:=Nat) (fun i=>[(2,.pointer (some ⟨b2,0,none⟩)),(3,.pointer (some ⟨b3,0,none⟩)),(7,.int .i64 (i:Int))]) (fun i=>[blk b2 26 [.slice A0 o.fSymbols.length a0,.slice A1 o.fFuncs.length a1,.slice A2 o.fDatas.length a2],blk b3 26 [.slice D0 o.fSymbols.length d0,.slice D1 o.fFuncs.length d1,.slice D2 o.fDatas.length d2]]) (fun i=>i≤o.fDatas.length) (fun i=>o.fDatas.length-i) 0 ?_ cv (Leads.has ZQ) ?_))))))))))))
 exact Nat.zero_le _
 rintro i hi
 try dsimp only
 refine Zh (Zh (Zi (Zo J (Zz (n:=2) (m:=2) J J J (Zld ?_)))))
 refine Zv J J (Zx J J (Zn (Za (wC (fun h74=>?_) (fun h74=>?_)))))
 obtain ⟨x,hx⟩:∃ x,o.fDatas[i]?=some x:=⟨_,List.getElem?_eq_getElem ZO⟩
 obtain ⟨e1,cs1,hE⟩:=g2.elm hx
 obtain ⟨X0p,x0p,X1p,x1p,rfl,-,-,-,-⟩:=kApiData_open hE.K
 obtain ⟨e2,cs2,hE2⟩:=q2.elm hx
 obtain ⟨X0q,x0q,X1q,x1q,rfl,-,-,-,-⟩:=kApiData_open hE2.K
 have hil:i<o.fDatas.length:=by omega
 refine Zj (Za (Zh (Zk (Zh (wDrawG J [0,1,2,3,4,5,6,7,8,9] [(10,[],[11])] [] 24 ZK J J (fun w0=>?_))))))
 refine Zz (n:=2) (m:=2) J J J (Zld ?_)
 refine Zo J (oIdxE J J (hE) ZO J J ?_)
 have hc80:=(hE).cell
 refine Zlx hc80 ?_
 refine Zz (n:=2) (m:=2) J J J (Zld ?_)
 refine Zo J (oIdxE J J (hE2) ZO J J ?_)
 have hc85:=(hE2).cell
 refine Zlx hc85 ?_
 refine Z4 (Z5 J ?_)
 (refine ZC0 rfl ZK (fun w hS=>frame hS ZQ (fun B' hB hS'=>ref15_Same hS' x _ _ (kApiData.K_grow hB hE.K) (kApiData.K_grow hB hE2.K))) ?_;rintro ⟨⟩ -)
 refine ZG ?_ J (fun w0=>?_)
 exact AgainG.nil
 refine Zno ?_
 refine Z6 (Zn (Za (wCondF J (Zj (Zze ?_)))))
 refine Zp J (Zn (Za ?_))
 exact ⟨rfl,i+1,by omega,by omega,cv,Lh⟩
 refine Zm (Zzg ?_)
 exact ⟨(),trivial,rfl,Lh⟩
open Go.Proofs.YtpmdhkjbhjgoaaaGreatW (GoodO objE objI FewB)
open Go.Proofs.YtpmdhkjbhjgoaaaGreatO (nilO nil_K nil_good oneO oneS oneF oneD one_K one_good one_E law_One few_good)
theorem few_sml {o:ApiObject}(h:FewB o):SmlO o:=
 ⟨h.syms,h.funcs,h.datas,fun f hf=>by have:=h.fun_ f hf;exact ⟨by omega,by omega,by omega,by omega⟩,fun d hd=>by have:=h.data d hd;exact ⟨by omega,by omega⟩⟩
theorem wr_ok {o:ApiObject}(h:objE o=0):wrV o=objP o∧wrI o = -1:=⟨if_pos h,if_pos h⟩
theorem rd_of {l:List Int}{o:ApiObject}(hg:getF l=.ok o) (h:objE o=0):rdV l=o∧rdE l=0∧rdI l = -1:=by
 refine ⟨?_,?_,?_⟩
 · unfold rdV;rw [hg];exact if_pos h
 · unfold rdE;rw [hg];exact h
 · unfold rdI;rw [hg];exact if_pos h
theorem wrV_byts (o:ApiObject):Byts (wrV o):=by
 unfold wrV
 split
 · exact objP_byts o
 · exact byts_nil
theorem one_few:FewB (oneO 0):=⟨by decide,by decide,by decide,fun f hf=>by obtain rfl:=List.mem_singleton.1 hf;decide,fun d hd=>by obtain rfl:=List.mem_singleton.1 hd;decide⟩
theorem in0:in64 0:=by unfold in64;omega
theorem one_D:ObjD (oneO 0):=obj_room one_few (one_good in0).v one_E.1
theorem one_rd:rdV (objP (oneO 0))=oneO 0∧rdE (objP (oneO 0))=0∧rdI (objP (oneO 0)) = -1:=rd_of (put_get one_D) one_E.1
theorem abc_byts:Byts [97,98,99]:=fun v hv=>by simp only [List.mem_cons,List.not_mem_nil,or_false] at hv;omega
theorem get_abc:getF [97,98,99]=.error 5:=rfl
theorem nil_len:(objP nilO).length=11:=by
 unfold objP sealP innP lstP magicL
 simp only [List.length_append,putL_len,List.length_cons,List.length_nil,nilO,List.flatMap_nil]
theorem known20 {B:Base}{w:World}(hS:St B [] w) :
 CW 7 #[] w (Ret B (fun _:Unit=>True) (fun _=>.bool true) (fun _=>[])):=by
 refine ZX Tryz.func7 hS ?_
 refine Zh (ZzG ?_)
 (refine ZC0 rfl ZK (fun w hS=>frame hS ZQ (fun B' hB hS'=>law_One hS')) ?_;rintro ⟨x1,x2,x3,x4,x5,x6,x7⟩ -)
 try dsimp only
 (refine ZD J (fun w B' hB hR hS'=>file_Write hS' (oneO 0) _ (one_K (x:=0) (s:=x1) (k:=x2) (c:=x3) (r:=x4) (f:=x5) (w':=x6) (d:=x7) (hR _ _ ZP) (hR _ _ ZP) (hR _ _ ZP) (hR _ _ ZP) (hR _ _ ZP) (hR _ _ ZP) (hR _ _ ZP)) (one_good in0) B.e) ?_;rintro ⟨A11,c11⟩ -)
 rw [(wr_ok one_E.1).1,(wr_ok one_E.1).2,one_E.1];try dsimp only
 refine Zo J (oExt J ZP ?_)
 refine oExt J ZP ?_
 refine oExt J ZP ?_
 refine Zp J (Zp J (Zp J (Zn (Zzm ?_))))
 (refine ZD J (fun w B' hB hR hS'=>file_Read hS' A11 c11 (objP (oneO 0)) (Nat.le_trans (objP_len (few_sml one_few)) (by decide)) (objP_byts _) (row_both (hR _ _ ZP) hB rfl).1 (row_both (hR _ _ ZP) hB rfl).2 B.e hB) ?_;rintro ⟨hA,hB1,hC1,S⟩ -)
 rw [one_rd.1,one_rd.2.1,one_rd.2.2];try dsimp only
 refine Zo J (oExt J ZP ?_)
 refine oExt J ZP ?_
 refine oExt J ZP ?_
 refine oAlloc J ZP (fun b4=>?_)
 refine Zsa ?_
 refine Zp J (Zp J (Zn (Za (Zh (Zi ?_)))))
 refine oBuildSliceF (Parts.cons J (Parts.cons J (Parts.cons J Parts.nil))) J J J J J (Fulls.cons ZP J (Fulls.cons ZP J (Fulls.cons ZP J Fulls.nil ap) ap) ap) (fun b22=>?_)
 refine oMark (xs:=[97,98,99]) J J J ZP J (by decide) ?_
 (refine ZD J (fun w B' hB hR hS'=>file_Get hS' _ 3 [97,98,99] (by decide) abc_byts (by decide) (rdr_C (hR _ _ ZP) hB) B.e) ?_;rintro ⟨gA,gB,gC,S2⟩ -)
 rw [get_abc];try dsimp only
 refine Zo J (oExt J ZP ?_)
 refine oExt J ZP ?_
 refine oAlloc J ZP (fun b7=>?_)
 refine Zsa ?_
 refine Zp J (Zn (Za (Zh (wDrawG J [0,1,2,3,4,5,6,7] [(8,[7],[]),(9,[],[10,11,12,13,14,15,16,17,18,19,20,21,22,23,24]),(25,[],[26,27,28])] [29] 24 ZK J J (fun w0=>?_)))))
 refine Zo J (Zy J J (Zo J (ZS (ZT 29) (fun h29=>?_) (fun h29=>?_))))
 refine Zq J J (Zo J (Zq J J (Zy J J (Zt J J (Zo J (ZS (ZT 33) (fun h33=>?_) (fun h33=>?_)))))))
 refine Zq J J (Zla ?_)
 refine Z4 (Z5 J (Zq J J ?_))
 (refine ZC0 rfl ZK (fun w hS=>frame hS ZQ (fun B' hB hS'=>law_One hS')) ?_;rintro ⟨y1,y2,y3,y4,y5,y6,y7⟩ -)
 try dsimp only
 refine ZG ?_ J (fun w0=>?_)
 refine Z8 J J J J (fun w0=>?_) ?_
 refine Zq J J (Zla ?_)
 exact Z9 rfl
 exact AgainG.nil
 refine Z4 (Z5 J (Zq J J ?_))
 (refine ZD J (fun w B' hB hR hS'=>ref19_Same hS' (oneO 0) _ _ (hold_at (S:=S) (hR _ _ ZP) hB) (one_K (x:=0) (s:=y1) (k:=y2) (c:=y3) (r:=y4) (f:=y5) (w':=y6) (d:=y7) (hR _ _ ZP) (hR _ _ ZP) (hR _ _ ZP) (hR _ _ ZP) (hR _ _ ZP) (hR _ _ ZP) (hR _ _ ZP))) ?_;rintro ⟨⟩ -)
 refine ZG ?_ J (fun w0=>?_)
 exact AgainG.nil
 refine Zt J J (Zo J (ZS (ZT 38) (fun h38=>?_) (fun h38=>?_)))
 refine Zq J J (Zo J (Zq J J (Zy J J (Zt J J (Zo J (ZS (ZT 42) (fun h42=>?_) (fun h42=>?_)))))))
 refine Zq J J (Zo J (Zq J J (Zy J J (Zt J J (Zo J (ZS (ZT 46) (fun h46=>?_) (fun h46=>?_)))))))
 refine Zq J J (Zo J (Zq J J (Zy J J (Zt J J (Zo J (ZS (ZT 50) (fun h50=>?_) (fun h50=>?_)))))))
 refine Zq J J (oBuild Parts.nil J J Built.nil (Z4 (Z5 J (Zq J J ?_))))
 (refine ZD J (fun w B' hB hR hS'=>file_Put hS' nilO _ (nil_K _) (few_sml (by exact ⟨by decide,by decide,by decide,fun f hf=>(by cases hf),fun d hd=>(by cases hd)⟩)) nil_good.v B.e) ?_;rintro ⟨A52,c52⟩ -)
 rw [nil_len];try dsimp only
 refine ZG ?_ J (fun w0=>?_)
 exact AgainG.nil
 refine Zq J J (Zv J J (Zq J J (Zy J J (Zt J J (Z6 (Zza ?_))))))
 exact ⟨(),trivial,rfl,Lh⟩
 first | exact absurd rfl h50 | cases h50
 first | exact absurd rfl h46 | cases h46
 first | exact absurd rfl h42 | cases h42
 first | exact absurd rfl h38 | cases h38
 first | exact absurd rfl h33 | cases h33
 first | exact absurd rfl h29 | cases h29
open Go.Proofs.YtpmdhkjbhjgoaaaGreatW (GoodO objE objI FewB ref19_Few)
open Go.Proofs.YtpmdhkjbhjgoaaaGreatO (nilO nil_K nil_good few_good)
theorem wf_byts {l:List Int}(h:∀ x ∈ l,(Lit.int .u8 x).wf=true):Byts l:=fun x hx=>by
 have:=h x hx
 simp only [Lit.wf,Bool.and_eq_true,decide_eq_true_eq] at this
 exact ⟨this.1,Int.lt_add_one_of_le (show x≤255 from this.2)⟩
theorem fileTells {B:Base}{w:World}(hS:St B [] w) (o:ApiObject) (oc:List Value) (ho:kApiObject.K B.e o oc) (hv:vApiObject o) (A:Option Addr) (cp:Nat) (l:List Int) (hC:(Kd.int .u8).C B.e A l) (hcp:l.length≤cp) (hb:Byts l) :
 CW 3 #[.agg oc.toArray,.slice A l.length cp] w (Ret B (fun _:Unit=>True) (fun _=>.bool true) (fun _=>[])):=by
 obtain ⟨A0,c0,A1,c1,A2,c2,rfl,m0,q0,m1,q1,m2,q2⟩:=kApiObject_open ho
 have hlm:=hC.1
 refine ZX Tryz.func3 hS ?_
 refine Zh (Zi (oBox J ZP (fun b2=>?_)))
 refine Zp J (Zn (Zzw ?_))
 (refine ZC0 rfl ZK (fun w hS=>frame hS ZQ (fun B' hB hS'=>ref19_Few hS' o _ (kApiObject.K_grow hB ho))) ?_;rintro r22 hr22)
 refine Zno ?_
 refine Zo J (ZS (ZT 24) (fun h24=>?_) (fun h24=>?_))
 refine Zr J J J J (Zr J J J J (Zr J J J J (Zt J J (Zn (Za (wCondT J (Zh (Zi ?_))))))))
 (refine ZC0 rfl ZK (fun w hS=>frame hS ZQ (fun B' hB hS'=>known20 hS')) ?_;rintro ⟨⟩ -)
 refine Zp J (Zzv ?_)
 exact ⟨(),trivial,rfl,Lh⟩
 refine Zq J J (Zo J (Zq J J (Zv J J (Zq J J (Z1 J J (Zu J J (Zn (Za (wC (fun h28=>?_) (fun h28=>?_))))))))))
 refine Zh (Zi ?_)
 (refine ZC0 rfl ZK (fun w hS=>frame hS ZQ (fun B' hB hS'=>known20 hS')) ?_;rintro ⟨⟩ -)
 refine Zp J (Zzv ?_)
 exact ⟨(),trivial,rfl,Lh⟩
 have hf:FewB o:=hr22 (by simpa using h24)
 have hg:GoodO o:=few_good hv hf
 have hs:SmlO o:=few_sml hf
 have hl:l.length≤900000:=by omega
 refine Zj (Zzm ?_)
 (refine ZC0 rfl ZK (fun w hS=>frame hS ZQ (fun B' hB hS'=>file_Get hS' A cp l hl hb hcp (Kd.C_grow hB hC) B.e)) ?_;rintro ⟨fA,fB,fC,S1⟩ -)
 refine Zo J (oExt J ZP ?_)
 refine oExt J ZP ?_
 refine oAlloc J ZP (fun b5=>?_)
 refine Zsa ?_
 refine Zp J (Zn (Zzm ?_))
 (refine ZC0 rfl ZK (fun w hS=>frame hS ZQ (fun B' hB hS'=>ref20_Get hS' A cp l hl hb hcp (Kd.C_grow hB hC) B.e)) ?_;rintro ⟨gA,gB,gC,S2⟩ -)
 refine Zo J (oExt J ZP ?_)
 refine oExt J ZP ?_
 refine oAlloc J ZP (fun b7=>?_)
 refine Zsa ?_
 refine Zp J (Zn (Zzm ?_))
 (refine ZC0 rfl ZK (fun w hS=>frame hS ZQ (fun B' hB hS'=>file_Read hS' A cp l hl hb hcp (Kd.C_grow hB hC) B.e hB)) ?_;rintro ⟨hA,hB1,hC1,S3⟩ -)
 refine Zo J (oExt J ZP ?_)
 refine oExt J ZP ?_
 refine oExt J ZP ?_
 refine oAlloc J ZP (fun b9=>?_)
 refine Zsa ?_
 refine Zp J (Zp J (Zn (Zzm ?_)))
 (refine ZC0 rfl ZK (fun w hS=>frame hS ZQ (fun B' hB hS'=>ref20_Read hS' A cp l hl hb hcp (Kd.C_grow hB hC) B.e hB)) ?_;rintro ⟨iA,iB,iC,S4⟩ -)
 refine Zo J (oExt J ZP ?_)
 refine oExt J ZP ?_
 refine oExt J ZP ?_
 refine oAlloc J ZP (fun b12=>?_)
 refine Zsa ?_
 refine Zp J (Zp J (Zn (Zzw ?_)))
 refine Zla ?_
 (refine ZD J (fun w B' hB hR hS'=>ref19_Same hS' (valO (getF l)) _ _ (hold_at (S:=S1) (hR _ _ ZP) hB) (hold_at (S:=S2) (hR _ _ ZP) hB)) ?_;rintro ⟨⟩ -)
 refine Zno ?_
 refine ZS0 (t:=55) (v':=.bool false) J (by simp) ?_
 refine Zo J (Zq J J (Zo J (Zq J J (Zo J (Zq J J (Z0 J J (ZS0 (t:=59) (v':=.bool false) J (by simp) ?_)))))))
 refine Zu J J (Zo J (Zq J J (Zla ?_)))
 refine Zq J J (Zla ?_)
 refine Zq J J ?_
 (refine ZD J (fun w B' hB hR hS'=>ref19_Same hS' (rdV l) _ _ (hold_at (S:=S3) (hR _ _ ZP) hB) (hold_at (S:=S4) (hR _ _ ZP) hB)) ?_;rintro ⟨⟩ -)
 refine Zq J J (Zno ?_)
 refine ZS0 (t:=65) (v':=.bool false) J (by simp) ?_
 refine Zu J J (Zo J (Zq J J (Zo J (Zq J J (Zo J (Zq J J (Z0 J J (ZS0 (t:=70) (v':=.bool false) J (by simp) ?_))))))))
 refine Zu J J (Zo J (Zq J J (Zo J (Zq J J (Zo J (Zq J J (Z0 J J (ZS0 (t:=75) (v':=.bool false) J (by simp) ?_))))))))
 refine Zu J J (Zn (Za (wCondF J (Zj (Zzj ?_)))))
 (refine ZC0 rfl ZK (fun w hS=>frame hS ZQ (fun B' hB hS'=>file_Write hS' o _ (kApiObject.K_grow hB ho) hg B.e)) ?_;rintro ⟨A79,c79⟩ -)
 refine Zo J (oExt J ZP ?_)
 refine oExt J ZP ?_
 refine oExt J ZP ?_
 refine Zp J (Zp J (Zp J (Zn (Zzj ?_))))
 (refine ZC0 rfl ZK (fun w hS=>frame hS ZQ (fun B' hB hS'=>ref20_Write hS' o _ (kApiObject.K_grow hB ho) hg B.e)) ?_;rintro ⟨A85,c85⟩ -)
 refine Zo J (oExt J ZP ?_)
 refine oExt J ZP ?_
 refine oExt J ZP ?_
 refine Zp J (Zp J (Zp J (Zn (Za (Zh (wDrawG J [0,3] [(1,[3],[2]),(4,[2],[5,6,7,8,9,10,11,12,13,14,15,16,17,18,19,20,21,22,23,24]),(25,[],[26])] [27] 24 ZK J J (fun w0=>?_)))))))
 refine Zla ?_
 refine Zla ?_
 refine Z4 (Z5 J ?_)
 (refine ZC0 rfl ZK (fun w hS=>frame hS ZQ (fun B' hB hS'=>file_Put hS' o _ (kApiObject.K_grow hB ho) hs hv B.e)) ?_;rintro ⟨A90,c90⟩ -)
 refine ZG ?_ J (fun w0=>?_)
 refine Z8 J J J J (fun w0=>?_) ?_
 refine Zla ?_
 exact Z9 rfl
 exact AgainG.nil
 refine oConvBR (xs:=objP o) J J J J (fun w hw=>row_Cs (hw.get ZP)) J (objP_byts _) ?_
 refine Z4 (Z5 J ?_)
 (refine ZC0 rfl ZK (fun w hS=>frame hS ZQ (fun B' hB hS'=>ref20_Put hS' o _ (kApiObject.K_grow hB ho) hs hv B.e)) ?_;rintro ⟨A93,c93⟩ -)
 refine ZG ?_ J (fun w0=>?_)
 refine Z8 J J J J (fun w0=>?_) ?_
 refine oConvBR (xs:=objP o) J J J J (fun w hw=>row_Cs (hw.get ZP)) J (objP_byts _) ?_
 exact Z9 rfl
 exact AgainG.nil
 refine oConvBR (xs:=objP o) J J J J (fun w hw=>row_Cs (hw.get ZP)) J (objP_byts _) ?_
 refine oSEq J J (ZS0 (t:=95) (v':=.bool true) J (by simp) ?_)
 refine Zo J (Zq J J (Zo J (Zq J J (oConvBR (xs:=wrV o) J J J J (fun w hw=>row_Cs (hw.get ZP)) J (wrV_byts _) ?_))))
 refine Zq J J (Zo J (Zq J J (oConvBR (xs:=wrV o) J J J J (fun w hw=>row_Cs (hw.get ZP)) J (wrV_byts _) ?_)))
 refine Zq J J (oSEq J J (ZS0 (t:=101) (v':=.bool true) J (by simp) ?_))
 refine Zt J J (Zo J (Zq J J (Zo J (Zq J J (Zo J (Zq J J (Zy J J (ZS0 (t:=106) (v':=.bool true) J (by simp) ?_))))))))
 refine Zt J J (Zo J (Zq J J (Zo J (Zq J J (Zo J (Zq J J (Zy J J (ZS0 (t:=111) (v':=.bool true) J (by simp) ?_))))))))
 refine Zt J J (Zo J (Z4 (Z5 J (Zq J J ?_))))
 (refine ZC0 rfl ZK (fun w hS=>frame hS ZQ (fun B' hB hS'=>known20 hS')) ?_;rintro ⟨⟩ -)
 refine ZG ?_ J (fun w0=>?_)
 exact AgainG.nil
 refine Zt J J (Z6 (Zza ?_))
 exact ⟨(),trivial,rfl,Lh⟩
end Go.Proofs.YtpmdhkjbhjgoaaaGreatD
