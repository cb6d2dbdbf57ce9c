/-
  Part 3 of the proof of FileTold: contracts of functions, and what follows from them; without conditions.
-/
import Derived.Test.YtpmdhkjbhjgoaaaGreatFileTold2
import Derived.Test.YtpmdhkjbhjgoaaaGreatProg
set_option linter.unusedVariables false
set_option linter.unusedSimpArgs false
set_option linter.defProp false
namespace Go.Proofs.YtpmdhkjbhjgoaaaGreatO
set_option maxRecDepth 100000
set_option maxHeartbeats 4000000
open Go.RowKit Go.Proofs.YtpmdhkjbhjgoaaaGreatK Go.Proofs.YtpmdhkjbhjgoaaaGreatT Go.Proofs.YtpmdhkjbhjgoaaaGreatL Go.Proofs.YtpmdhkjbhjgoaaaGreatV Go.Proofs.YtpmdhkjbhjgoaaaGreatG Go.Proofs.YtpmdhkjbhjgoaaaGreatW

section
variable {c : Cx} {M : Md c} {d : Nat} {ty : TypeId} {pos : String} {af : Array Edge} {rest : List Oper} {E : Env} {D : List Deferred} {H : List Res} {x y : Operand} {t : TypeId}
theorem oSliceU {k:IntKind}{A:Option Addr}{n cp m s:Nat}{e':TypeId}(hx:E.op x=some (.slice A n cp)) (hy:E.op y=some (.int k (m:Int))) (hm:m≤cp) (ht:elemT c.P t=some (e',s))
 (h:O M rest ((d,.slice A m cp) :: E) D H) (hN:Nat.blt d c.N=true:=by rfl):O M (⟨some d,.slice t x none (some y) none,ty,pos,af,none⟩ :: rest) E D H:=
 oC _ rfl hN (fun a w ha hw=>by
  obtain ⟨h1,inf,h2,h3⟩:=run_elemT ht
  cases A <;> simp [execOp,ha.op hx,ha.op hy,Instr.sliceAt,Instr.slice,run_underlying h1,Instr.sliceBounds,Instr.sliceBound,asIntOf,hm,sizeOf,typeInfo,h2,h3,Addr.add]) h
end
theorem C_take {α:Type}{d:Kd α}{w:World}{A:Option Addr}{xs:List α}(h:d.C w A xs) (i:Nat):d.C w A (xs.take i):=by
 refine ⟨by have:=h.1;rw [List.length_take];omega,fun hn=>?_⟩
 obtain ⟨ad,e,hc⟩:=h.2 (by rw [List.length_take] at hn;omega)
 exact ⟨ad,e,fun j x hx=>hc j x (by rw [List.getElem?_take] at hx;split at hx;exact hx;cases hx)⟩
def rn (s:ByteArray) (p:Nat):Int:=((Utf8.decode s p).1:Int)
theorem nextV_rn {s:ByteArray}{p:Nat}(h:p<s.size):nextV s p=.tuple #[.bool true,.int .i64 (p:Int),.int .i32 (rn s p)]:=by unfold nextV rn;rw [if_pos h]
theorem rn_lo {s:ByteArray}{p:Nat}(h:p<s.size) (ha:byteAt s p<128):rn s p=byteAt s p:=by
 have h1:=nextV_T h ha
 rw [nextV_rn h] at h1
 simpa using h1
theorem rn_hi {s:ByteArray}{p:Nat}(h:p<s.size) (ha:¬ byteAt s p<128):128≤rn s p:=by
 rw [byteAt_eq h] at ha
 have hg:(s.get! (p+0)).toNat=(s[p]'h).toNat:=by
  show (s.data[p]!).toNat=_
  rw [getElem!_pos s.data p h];rfl
 have h0:128≤(s[p]'h).toNat:=by omega
 have key:128≤(Utf8.decode s p).1:=by
  unfold Utf8.decode Utf8.runeError
  simp only [hg]
  rw [if_neg ZO]
  repeat' split
  all_goals first | (dsimp only;omega) | (rename_i hc;simp only [Bool.and_eq_true,decide_eq_true_eq] at hc;dsimp only;omega)
 unfold rn;omega
def mayR (c:Int) (i:Int):Bool:=(decide (97≤c) && decide (c≤122)) || decide (c=95) || decide (c=46) || ((decide (48≤c) && decide (c≤57)) && decide (0<i))
theorem bad_rn {s:ByteArray}{i:Nat}(h:i<s.size):badC s i=!mayR (rn s i) (i:Int):=by
 unfold badC mayF mayR
 by_cases ha:byteAt s i<128
 · rw [rn_lo h ha]
   congr 1
   by_cases h0:i=0
   · subst h0;simp
   · simp [h0,show 0<i by omega]
 · have:=rn_hi h ha
   rw [decide_eq_false (show ¬ byteAt s i≤122 by omega),decide_eq_false (show ¬ byteAt s i=95 by omega),decide_eq_false (show ¬ byteAt s i=46 by omega),decide_eq_false (show ¬ byteAt s i≤57 by omega),decide_eq_false (show ¬ rn s i≤122 by omega),decide_eq_false (show ¬ rn s i=95 by omega),decide_eq_false (show ¬ rn s i=46 by omega),decide_eq_false (show ¬ rn s i≤57 by omega)]
   simp
theorem ok_lo {s:ByteArray}{i:Nat}(h:badC s i=false):byteAt s i<128:=by
 unfold badC mayF at h
 simp at h
 omega
theorem name_Check {B:Base}{w:World}(hS:St B [] w) (s:ByteArray) :
 CW 90 #[.string s] w (Ret B (fun _:Unit=>True) (fun _=>.int .i64 (nameF4 s)) (fun _=>[])):=by
 refine ZX Tryz.func90 hS ?_
 refine Zh (Zi (Zp J (Zn (Za (Zh (Zk (Zh (Zi (Zo J (oLenStr J J (Z1 J J (Zp J (Zn (Za (wC (fun h5=>?_) (fun h5=>?_))))))))))))))))
 refine Zh (Zi (Zzd ?_))
 exact ⟨(),trivial,by unfold nameF4;rw [if_pos ZO];rfl,Lh⟩
 have hs24:¬ 24<s.size:=by omega
 refine Zh (Zi (Zo J (oSEq J J (Zp J (Zn (Za (wC (fun h9=>?_) (fun h9=>?_))))))))
 refine Zh (Zi (Zzd ?_))
 exact ⟨(),trivial,by unfold nameF4;rw [if_neg hs24,if_pos (size_zero.1 h9)];rfl,Lh⟩
 have hz:¬ s.size=0:=fun h=>h9 (size_zero.2 h)
 refine Zj (Zd (Za (Zh (Zh (Zi (Zo J (oRangeStr J J (fun b13=>?_))))))))
 refine Zn (Za (Zk (wLoop (ι:=Nat) (fun i=>[(0,.string s),(13,.pointer (some ⟨b13,0,none⟩))]) (fun i=>[ob b13 (.stringIter s i)]) (fun i=>i≤s.size∧∀ j,j<i→badC s j=false) (fun i=>s.size-i) 0 ?_ cv (Leads.has ZQ) ?_)))
 exact ⟨Nat.zero_le _,fun j hj=>by omega⟩
 rintro i ⟨hi,hs⟩
 try dsimp only
 refine Zh (Zi (oNextStr J ZP ?_))
 refine oExtN J (Zn (Za (Zh (wC (fun h15=>?_) (fun h15=>?_)))))
 have hil:i<s.size:=h15
 rw [nextV_rn hil]
 refine Zj (Za (Zk (Zh (Zi (oExt J ZP ?_)))))
 refine oExt J ZP ?_
 refine Zp J (Zp J (Zn (Za (Zk (Zh (Zh (Zi (Zo J (Z2 J J (Zo J (ZS (ZT 21) (fun h21=>?_) (fun h21=>?_))))))))))))
 refine Zq J J (Zo J (Zq J J (oLeq J J (Zt J J (Zp J (Zn (Za (wC (fun h18=>?_) (fun h18=>?_)))))))))
 refine Zj (Za (ZY h18 ?_))
 refine Zj (Zd (Zd (Za ?_)))
 have hno:badC s i=false:=by rw [bad_rn hil];unfold mayR;simp_all <;> omega
 rw [nextP_T hil (ok_lo hno)]
 exact ⟨rfl,i+1,⟨by omega,fun j hj=>by
 by_cases e:j=i
 · subst e;exact hno
 · exact hs j ZO⟩,by omega,cv,Lh⟩
 refine Zh (Zi (Zo J (Zy J J (Zp J (Zn (Za (wC (fun h18=>?_) (fun h18=>?_))))))))
 refine Zj (Za (ZY h18 ?_))
 refine Zj (Zd (Zd (Za ?_)))
 have hno:badC s i=false:=by rw [bad_rn hil];unfold mayR;simp_all <;> omega
 rw [nextP_T hil (ok_lo hno)]
 exact ⟨rfl,i+1,⟨by omega,fun j hj=>by
 by_cases e:j=i
 · subst e;exact hno
 · exact hs j ZO⟩,by omega,cv,Lh⟩
 refine Zh (Zi (Zo J (Zy J J (Zp J (Zn (Za (wC (fun h18=>?_) (fun h18=>?_))))))))
 refine Zj (Za (ZY h18 ?_))
 refine Zj (Zd (Zd (Za ?_)))
 have hno:badC s i=false:=by rw [bad_rn hil];unfold mayR;simp_all <;> omega
 rw [nextP_T hil (ok_lo hno)]
 exact ⟨rfl,i+1,⟨by omega,fun j hj=>by
 by_cases e:j=i
 · subst e;exact hno
 · exact hs j ZO⟩,by omega,cv,Lh⟩
 refine Zi (Zo J (Z2 J J (Zo J (ZS (ZT 31) (fun h31=>?_) (fun h31=>?_)))))
 refine Zq J J (Zo J (Zq J J (oLeq J J (Zt J J (Zo J (ZS (ZT 35) (fun h35=>?_) (fun h35=>?_)))))))
 refine Zq J J (Zo J (Zq J J (Z1 J J (Zt J J (Zp J (Zn (Za (wC (fun h18=>?_) (fun h18=>?_)))))))))
 refine Zj (Zd (Zd (Za ?_)))
 have hno:badC s i=false:=by rw [bad_rn hil];unfold mayR;simp_all <;> omega
 rw [nextP_T hil (ok_lo hno)]
 exact ⟨rfl,i+1,⟨by omega,fun j hj=>by
 by_cases e:j=i
 · subst e;exact hno
 · exact hs j ZO⟩,by omega,cv,Lh⟩
 refine Zh (Zzm ?_)
 have hyes:badC s i=true:=by rw [bad_rn hil];unfold mayR;simp_all <;> omega
 exact ⟨(),trivial,by unfold nameF4;rw [if_neg hs24,if_neg hz,if_pos (any_T hil hyes)];rfl,Lh⟩
 refine Zr J J J J (Zr J J J J (Zu J J (Zp J (Zn (Za (ZY h18 ?_))))))
 refine Zh (Zzm ?_)
 have hyes:badC s i=true:=by rw [bad_rn hil];unfold mayR;simp_all <;> omega
 exact ⟨(),trivial,by unfold nameF4;rw [if_neg hs24,if_neg hz,if_pos (any_T hil hyes)];rfl,Lh⟩
 refine Zr J J J J (Zr J J J J (Zu J J (Zo J (Zr J J J J (Zr J J J J (Zu J J (Zp J (Zn (Za (ZY h18 ?_))))))))))
 refine Zh (Zzm ?_)
 have hyes:badC s i=true:=by rw [bad_rn hil];unfold mayR;simp_all <;> omega
 exact ⟨(),trivial,by unfold nameF4;rw [if_neg hs24,if_neg hz,if_pos (any_T hil hyes)];rfl,Lh⟩
 refine Zr J J J J (Zr J J J J (Zu J J (Zp J (Zn (Za (wCondF J (Zh (Zi (Zo J (Zy J J (Zp J (Zn (Za (wC (fun h18=>?_) (fun h18=>?_)))))))))))))))
 refine Zj (Za (ZY h18 ?_))
 refine Zj (Zd (Zd (Za ?_)))
 have hno:badC s i=false:=by rw [bad_rn hil];unfold mayR;simp_all <;> omega
 rw [nextP_T hil (ok_lo hno)]
 exact ⟨rfl,i+1,⟨by omega,fun j hj=>by
 by_cases e:j=i
 · subst e;exact hno
 · exact hs j ZO⟩,by omega,cv,Lh⟩
 refine Zh (Zi (Zo J (Zy J J (Zp J (Zn (Za (wC (fun h18=>?_) (fun h18=>?_))))))))
 refine Zj (Za (ZY h18 ?_))
 refine Zj (Zd (Zd (Za ?_)))
 have hno:badC s i=false:=by rw [bad_rn hil];unfold mayR;simp_all <;> omega
 rw [nextP_T hil (ok_lo hno)]
 exact ⟨rfl,i+1,⟨by omega,fun j hj=>by
 by_cases e:j=i
 · subst e;exact hno
 · exact hs j ZO⟩,by omega,cv,Lh⟩
 refine Zi (Zo J (Z2 J J (Zo J (ZS (ZT 31) (fun h31=>?_) (fun h31=>?_)))))
 refine Zq J J (Zo J (Zq J J (oLeq J J (Zt J J (Zo J (ZS (ZT 35) (fun h35=>?_) (fun h35=>?_)))))))
 refine Zq J J (Zo J (Zq J J (Z1 J J (Zt J J (Zp J (Zn (Za (wC (fun h18=>?_) (fun h18=>?_)))))))))
 refine Zj (Zd (Zd (Za ?_)))
 have hno:badC s i=false:=by rw [bad_rn hil];unfold mayR;simp_all <;> omega
 rw [nextP_T hil (ok_lo hno)]
 exact ⟨rfl,i+1,⟨by omega,fun j hj=>by
 by_cases e:j=i
 · subst e;exact hno
 · exact hs j ZO⟩,by omega,cv,Lh⟩
 refine Zh (Zzm ?_)
 have hyes:badC s i=true:=by rw [bad_rn hil];unfold mayR;simp_all <;> omega
 exact ⟨(),trivial,by unfold nameF4;rw [if_neg hs24,if_neg hz,if_pos (any_T hil hyes)];rfl,Lh⟩
 refine Zr J J J J (Zr J J J J (Zu J J (Zp J (Zn (Za (ZY h18 ?_))))))
 refine Zh (Zzm ?_)
 have hyes:badC s i=true:=by rw [bad_rn hil];unfold mayR;simp_all <;> omega
 exact ⟨(),trivial,by unfold nameF4;rw [if_neg hs24,if_neg hz,if_pos (any_T hil hyes)];rfl,Lh⟩
 refine Zr J J J J (Zr J J J J (Zu J J (Zo J (Zr J J J J (Zr J J J J (Zu J J (Zp J (Zn (Za (ZY h18 ?_))))))))))
 refine Zh (Zzm ?_)
 have hyes:badC s i=true:=by rw [bad_rn hil];unfold mayR;simp_all <;> omega
 exact ⟨(),trivial,by unfold nameF4;rw [if_neg hs24,if_neg hz,if_pos (any_T hil hyes)];rfl,Lh⟩
 refine Zm (Zzf ?_)
 obtain rfl:i=s.size:=by omega
 exact ⟨(),trivial,by unfold nameF4;rw [if_neg hs24,if_neg hz,if_neg (by rw [any_F hs];simp)];rfl,Lh⟩
theorem indexFunc_sym1 {B:Base}{w:World}{R1:Res}(hS:St B [R1] w) (l:List ApiSymbol) (A:Option Addr) (n cp:Nat) (hn:n=l.length) (hC:kApiSymbol.C B.e A l) (gf:Nat) (lb:Array Value) (p:ApiSymbol→Bool) (hg:goodF Tryz.prog gf=true)
 (hh:∀ B' w (x:ApiSymbol),Grow B.e B'.e→x ∈ l→St B' [R1] w→CW gf (#[]++[Value.agg #[.string x.fName,.bool x.fLocal,.int .i64 x.fSort,.int .i64 x.fKind,.int .i64 x.fDef]].toArray++lb) w (Ret B' (fun _:Unit=>True) (fun _=>.bool (p x)) (fun _=>[R1]))) :
 CW 122 #[.slice A n cp,.func (.func gf) #[] lb] w (Ret B (fun _:Unit=>True) (fun _=>.int .i64 (idxI p l)) (fun _=>[R1])):=by
 subst hn
 have hl:=hC.1
 refine ZX Tryz.func122 hS ?_
 refine Zh (Zi (Zp J (Zn (Za (Zh (Zh (Zi (Zo J (Zv J J (Zo J (Zn (Za (Zk (wLoop (ι:=Nat) (fun i=>[(0,.slice A l.length cp),(1,.func (.func gf) #[] lb),(7,.int .i64 (l.length:Int)),(8,.int .i64 (i:Int))]) (fun i=>[R1]) (fun i=>i≤l.length∧∀ y ∈ l.take i,p y=false) (fun i=>l.length-i) 0 ?_ cv (Leads.has ZQ) ?_))))))))))))))
 exact ⟨Nat.zero_le _,by simp⟩
 rintro i ⟨hi,hs⟩
 try dsimp only
 refine Zh (Zi (Zx J J (Zn (Za (Zh (wC (fun h9=>?_) (fun h9=>?_)))))))
 obtain ⟨x,hx⟩:∃ x,l[i]?=some x:=⟨_,List.getElem?_eq_getElem ZO⟩
 obtain ⟨e1,cs1,hE⟩:=hC.elm hx
 obtain rfl:=kApiSymbol_open hE.K
 refine Zj (Za (Zh (Zk (Zh (Zi (Zo J (Zp J (Zn (Za (Zh (Zi (Zo J (Zo J (Zo J (oIdxE J J (hE) ZO J J ?_)))))))))))))))
 have hc14:=(hE).cell
 refine Zlx hc14 ?_
 (refine oCallV rfl rfl rfl hg (fun w hS=>frame hS ZQ (fun B' hB hS'=>hh B' w x hB (List.mem_of_getElem? hx) hS')) ?_;rintro ⟨⟩ -)
 refine Zn (Za (wC (fun h16=>?_) (fun h16=>?_)))
 refine Zh (Zi (Zo J (Zzc ?_)))
 exact ⟨(),trivial,by rw [idxI_stop hs hx (by simpa using h16)];rfl,Lh⟩
 refine Zj (Zze ?_)
 refine Zo J (Zn (Za ?_))
 exact ⟨rfl,i+1,⟨by omega,take_not hs hx (by simpa using h16)⟩,by omega,cv,Lh⟩
 refine Zm (Zzf ?_)
 obtain rfl:i=l.length:=by omega
 rw [List.take_length] at hs
 exact ⟨(),trivial,by rw [idxI_none hs];rfl,Lh⟩
theorem indexFunc_sym2 {B:Base}{w:World}{R1 R2:Res}(hS:St B [R1,R2] w) (l:List ApiSymbol) (A:Option Addr) (n cp:Nat) (hn:n=l.length) (hC:kApiSymbol.C B.e A l) (gf:Nat) (lb:Array Value) (p:ApiSymbol→Bool) (hg:goodF Tryz.prog gf=true)
 (hh:∀ B' w (x:ApiSymbol),Grow B.e B'.e→x ∈ l→St B' [R1,R2] w→CW gf (#[]++[Value.agg #[.string x.fName,.bool x.fLocal,.int .i64 x.fSort,.int .i64 x.fKind,.int .i64 x.fDef]].toArray++lb) w (Ret B' (fun _:Unit=>True) (fun _=>.bool (p x)) (fun _=>[R1,R2]))) :
 CW 122 #[.slice A n cp,.func (.func gf) #[] lb] w (Ret B (fun _:Unit=>True) (fun _=>.int .i64 (idxI p l)) (fun _=>[R1,R2])):=by
 subst hn
 have hl:=hC.1
 refine ZX Tryz.func122 hS ?_
 refine Zh (Zi (Zp J (Zn (Za (Zh (Zh (Zi (Zo J (Zv J J (Zo J (Zn (Za (Zk (wLoop (ι:=Nat) (fun i=>[(0,.slice A l.length cp),(1,.func (.func gf) #[] lb),(7,.int .i64 (l.length:Int)),(8,.int .i64 (i:Int))]) (fun i=>[R1,R2]) (fun i=>i≤l.length∧∀ y ∈ l.take i,p y=false) (fun i=>l.length-i) 0 ?_ cv (Leads.has ZQ) ?_))))))))))))))
 exact ⟨Nat.zero_le _,by simp⟩
 rintro i ⟨hi,hs⟩
 try dsimp only
 refine Zh (Zi (Zx J J (Zn (Za (Zh (wC (fun h9=>?_) (fun h9=>?_)))))))
 obtain ⟨x,hx⟩:∃ x,l[i]?=some x:=⟨_,List.getElem?_eq_getElem ZO⟩
 obtain ⟨e1,cs1,hE⟩:=hC.elm hx
 obtain rfl:=kApiSymbol_open hE.K
 refine Zj (Za (Zh (Zk (Zh (Zi (Zo J (Zp J (Zn (Za (Zh (Zi (Zo J (Zo J (Zo J (oIdxE J J (hE) ZO J J ?_)))))))))))))))
 have hc14:=(hE).cell
 refine Zlx hc14 ?_
 (refine oCallV rfl rfl rfl hg (fun w hS=>frame hS ZQ (fun B' hB hS'=>hh B' w x hB (List.mem_of_getElem? hx) hS')) ?_;rintro ⟨⟩ -)
 refine Zn (Za (wC (fun h16=>?_) (fun h16=>?_)))
 refine Zh (Zi (Zo J (Zzc ?_)))
 exact ⟨(),trivial,by rw [idxI_stop hs hx (by simpa using h16)];rfl,Lh⟩
 refine Zj (Zze ?_)
 refine Zo J (Zn (Za ?_))
 exact ⟨rfl,i+1,⟨by omega,take_not hs hx (by simpa using h16)⟩,by omega,cv,Lh⟩
 refine Zm (Zzf ?_)
 obtain rfl:i=l.length:=by omega
 rw [List.take_length] at hs
 exact ⟨(),trivial,by rw [idxI_none hs];rfl,Lh⟩
theorem containsFunc_sym {B:Base}{w:World}{R1:Res}(hS:St B [R1] w) (l:List ApiSymbol) (A:Option Addr) (n cp:Nat) (hn:n=l.length) (hC:kApiSymbol.C B.e A l) (gf:Nat) (lb:Array Value) (p:ApiSymbol→Bool) (hg:goodF Tryz.prog gf=true)
 (hh:∀ B' w (x:ApiSymbol),Grow B.e B'.e→x ∈ l→St B' [R1] w→CW gf (#[]++[Value.agg #[.string x.fName,.bool x.fLocal,.int .i64 x.fSort,.int .i64 x.fKind,.int .i64 x.fDef]].toArray++lb) w (Ret B' (fun _:Unit=>True) (fun _=>.bool (p x)) (fun _=>[R1]))) :
 CW 93 #[.slice A n cp,.func (.func gf) #[] lb] w (Ret B (fun _:Unit=>True) (fun _=>.bool (l.any p)) (fun _=>[R1])):=by
 refine ZX Tryz.func93 hS ?_
 refine Zh (Zi (Zp J (Zn (Zzn ?_))))
 (refine ZC0 rfl ZK (fun w hS=>frame hS ZQ (fun B' hB hS'=>indexFunc_sym1 hS' l A n cp hn (Kd.C_grow hB hC) gf lb p hg (fun B2 w2 x hB2 hx hS2=>hh B2 w2 x (hB.trans hB2) hx hS2))) ?_;rintro ⟨⟩ -)
 refine Z2 J J (Zzh ?_)
 exact ⟨(),trivial,by show Value.bool (decide (0≤idxI p l))=_;congr 1;rw [Bool.eq_iff_iff,decide_eq_true_eq];exact idxI_iff,Lh⟩
theorem obj_Items {B:Base}{w:World}(hS:St B [] w) (o:ApiObject) (oc:List Value) (ho:kApiObject.K B.e o oc) (hg:GoodO o) :
 CW 53 #[.agg oc.toArray] w (Ret B (fun _:Unit=>True) (fun _=>.int .i64 (itemsF o)) (fun _=>[])):=by
 obtain ⟨A0,c0,A1,c1,A2,c2,rfl,m0,q0,m1,q1,m2,q2⟩:=kApiObject_open ho
 have hn1:=hg.funcs
 have hn2:=hg.datas
 refine ZX Tryz.func53 hS ?_
 refine Zh (Zi (oBox J ZP (fun b1=>?_)))
 refine Zp J (Zn (Za (Zh (Zi (Zz (n:=1) (m:=1) J J J (Zld ?_))))))
 refine Zv J J (Zz (n:=2) (m:=2) J J J (Zld ?_))
 refine Zv J J ?_
 first | refine oAdd rfl rfl ZO ?_ | refine oAddW rfl rfl ?_
 refine Zp J (Zza ?_)
 exact ⟨(),trivial,rfl,Lh⟩
theorem obj_defines {B:Base}{w:World}(hS:St B [] w) (o:ApiObject) (oc:List Value) (ho:kApiObject.K B.e o oc) (hg:GoodO o) (x:ApiSymbol) (xc:List Value) (hx:kApiSymbol.K B.e x xc) (item:Int) :
 CW 124 #[.agg oc.toArray,.agg xc.toArray,.int .i64 item] w (Ret B (fun _:Unit=>True) (fun _=>.bool (definesF o item x)) (fun _=>[])):=by
 obtain ⟨A0,c0,A1,c1,A2,c2,rfl,m0,q0,m1,q1,m2,q2⟩:=kApiObject_open ho
 obtain rfl:=kApiSymbol_open hx
 have hn1:=hg.funcs
 have hn2:=hg.datas
 have hit:itemsF o=(o.fFuncs.length:Int)+(o.fDatas.length:Int):=rfl
 refine ZX Tryz.func124 hS ?_
 refine Zh (Zi (oBox J ZP (fun b3=>?_)))
 refine oBox J ZP (fun b4=>?_)
 refine Zp J (Zn (Za (Zh (Zk (Zh (Zh (Zi (Zo J (Zx J J (Zp J (Zn (Za (wC (fun h7=>?_) (fun h7=>?_))))))))))))))
 refine Zj (Za (ZY h7 ?_))
 refine Zh (Zi (Zzd ?_))
 exact ⟨(),trivial,by unfold definesF;rw [if_pos (by first | omega | (rcases Int.lt_or_le item 0 with h | h;exact .inl h;right;first | omega | simp_all))];rfl,Lh⟩
 refine Zi (Zo J (Zla ?_))
 (refine ZC0 rfl ZK (fun w hS=>frame hS ZQ (fun B' hB hS'=>obj_Items hS' o _ (kApiObject.K_grow hB ho) hg)) ?_;rintro ⟨⟩ -)
 refine Z2 J J (Zp J (Zn (Za (wC (fun h7=>?_) (fun h7=>?_)))))
 refine Zh (Zi (Zzd ?_))
 exact ⟨(),trivial,by unfold definesF;rw [if_pos (by first | omega | (rcases Int.lt_or_le item 0 with h | h;exact .inl h;right;first | omega | simp_all))];rfl,Lh⟩
 refine Zh (Zi (Zo J (Zz (n:=1) (m:=1) J J J (Zld ?_))))
 refine Zv J J (Zx J J (Zp J (Zn (Za (wC (fun h14=>?_) (fun h14=>?_))))))
 refine Zh (Zi (Zz (n:=2) (m:=2) J J J (Zld ?_)))
 refine Zy J J (Zo J (ZS (ZT 23) (fun h23=>?_) (fun h23=>?_)))
 refine Zq J J (Zz (n:=4) (m:=4) J J J (Zzg ?_))
 refine Zq J J (Zo J (Zq J J (Zy J J (Zt J J (Zzd ?_)))))
 exact ⟨(),trivial,by unfold definesF;rw [if_neg ZO,if_pos ZO];simp [resVal,h23],Lh⟩
 refine Zr J J J J (Zr J J J J (Zr J J J J (Zr J J J J (Zu J J (Zzd ?_)))))
 exact ⟨(),trivial,by unfold definesF;rw [if_neg ZO,if_pos ZO];simp [resVal,h23],Lh⟩
 refine Zj (Zd (Za (Zh (Zi (Zz (n:=2) (m:=2) J J J (Zld ?_))))))
 refine Zy J J (Zo J (ZS (ZT 32) (fun h32=>?_) (fun h32=>?_)))
 refine Zq J J (Zz (n:=4) (m:=4) J J J (Zzg ?_))
 refine Zq J J (Zo J (Zq J J (Zz (n:=1) (m:=1) J J J (Zzg ?_))))
 refine Zq J J (Zv J J (Zq J J (oSub J J ZO ?_)))
 refine Zq J J (Zy J J (Zt J J (Zzh ?_)))
 exact ⟨(),trivial,by unfold definesF;rw [if_neg ZO,if_neg ZO];simp [resVal,h32],Lh⟩
 refine Zr J J J J (Zr J J J J (Zr J J J J (Zr J J J J (Zr J J J J (Zzo ?_)))))
 exact ⟨(),trivial,by unfold definesF;rw [if_neg ZO,if_neg ZO];simp [resVal,h32],Lh⟩
theorem obj_Definer1 {B:Base}{w:World}(o:ApiObject) (A0:Option Addr) (c0:Nat) (A1:Option Addr) (c1:Nat) (A2:Option Addr) (c2 b2 b3:Nat) (item:Int) (hS:St B [blk b2 26 [.slice A0 o.fSymbols.length c0,.slice A1 o.fFuncs.length c1,.slice A2 o.fDatas.length c2],blk b3 3 [.int .i64 item]] w) (ho:kApiObject.K B.e o [.slice A0 o.fSymbols.length c0,.slice A1 o.fFuncs.length c1,.slice A2 o.fDatas.length c2]) (hg:GoodO o) (x:ApiSymbol) (hx:kApiSymbol.K B.e x [.string x.fName,.bool x.fLocal,.int .i64 x.fSort,.int .i64 x.fKind,.int .i64 x.fDef]) :
 CW 123 #[.agg #[.string x.fName,.bool x.fLocal,.int .i64 x.fSort,.int .i64 x.fKind,.int .i64 x.fDef],.pointer (some ⟨b2,0,none⟩),.pointer (some ⟨b3,0,none⟩)] w (Ret B (fun _:Unit=>True) (fun _=>.bool (definesF o item x)) (fun _=>[blk b2 26 [.slice A0 o.fSymbols.length c0,.slice A1 o.fFuncs.length c1,.slice A2 o.fDatas.length c2],blk b3 3 [.int .i64 item]])):=by
 refine ZX Tryz.func123 hS ?_
 refine Zh (Zi (oBox J ZP (fun b3=>?_)))
 refine Zp J (Zn (Zzk ?_))
 refine Zla ?_
 refine Zld ?_
 (refine ZC0 rfl ZK (fun w hS=>frame hS ZQ (fun B' hB hS'=>obj_defines hS' o _ (kApiObject.K_grow hB ho) hg x _ (kApiSymbol.K_grow hB hx) item)) ?_;rintro ⟨⟩ -)
 refine Zp J (Zza ?_)
 exact ⟨(),trivial,rfl,Lh⟩
theorem obj_Definer {B:Base}{w:World}(hS:St B [] w) (o:ApiObject) (oc:List Value) (ho:kApiObject.K B.e o oc) (hg:GoodO o) (item:Int) :
 CW 94 #[.agg oc.toArray,.int .i64 item] w (Ret B (fun _:Unit=>True) (fun _=>.int .i64 (definerF o item)) (fun _=>[])):=by
 obtain ⟨A0,c0,A1,c1,A2,c2,rfl,m0,q0,m1,q1,m2,q2⟩:=kApiObject_open ho
 refine ZX Tryz.func94 hS ?_
 refine Zh (Zi (oBox J ZP (fun b2=>?_)))
 refine oBox J ZP (fun b3=>?_)
 refine Zp J (Zn (Za (Zh (Zi (Zz (n:=0) (m:=0) J J J (Zld ?_))))))
 refine oMakeFunc J ?_
 (refine ZC0 rfl ZK (fun w hS=>frame hS ZQ (fun B' hB hS'=>indexFunc_sym2 hS' o.fSymbols A0 o.fSymbols.length c0 rfl (Kd.C_grow hB q0) 123 #[.pointer (some ⟨b2,0,none⟩),.pointer (some ⟨b3,0,none⟩)] (definesF o item) ZK (fun B2 w2 x hB2 hx2 hS2=>obj_Definer1 o A0 c0 A1 c1 A2 c2 b2 b3 item hS2 (kApiObject.K_grow (hB.trans hB2) ho) hg x (kApiSymbol_mk _ x)))) ?_;rintro ⟨⟩ -)
 refine Zp J (Zza ?_)
 exact ⟨(),trivial,rfl,Lh⟩
theorem obj_kind {B:Base}{w:World}(hS:St B [] w) (x:ApiSymbol) (xc:List Value) (hx:kApiSymbol.K B.e x xc) :
 CW 92 #[.agg xc.toArray] w (Ret B (fun _:Unit=>True) (fun _=>.bool (kindB x)) (fun _=>[])):=by
 obtain rfl:=kApiSymbol_open hx
 refine ZX Tryz.func92 hS ?_
 refine Zh (Zi (oBox J ZP (fun b1=>?_)))
 refine Zp J (Zn (Za (Zh (Zh (Zi (Zz (n:=2) (m:=2) J J J (Zld ?_)))))))
 refine Zn (Za (Zk (Zh (Zi (Zy J J (Zp J (Zn (Za (wC (fun h5=>?_) (fun h5=>?_))))))))))
 refine Zh (Zi (Zz (n:=3) (m:=3) J J J (Zld ?_)))
 (refine ZC0 rfl ZK (fun w hS=>frame hS ZQ (fun B' hB hS'=>sig_Is hS' x.fKind)) ?_;rintro ⟨⟩ -)
 refine Zno ?_
 refine Zp J (Zn (Za (Zl (Zf (Zc (Zw (fi1 J ?_)))))))
 exact ⟨(),trivial,by unfold kindB;rw [show x.fSort=1 from h5];simp [resVal],Lh⟩
 refine Zh (Zi (Zy J J (Zp J (Zn (Za (wC (fun h11=>?_) (fun h11=>?_)))))))
 refine Zh (Zi (Zz (n:=3) (m:=3) J J J (Zld ?_)))
 (refine ZC0 rfl ZK (fun w hS=>frame hS ZQ (fun B' hB hS'=>sig_Text hS' x.fKind)) ?_;rintro ⟨⟩ -)
 refine oSEq J J (Zzd ?_)
 exact ⟨(),trivial,by unfold kindB;rw [show x.fSort=2 from h11];simp [resVal];exact Iff.rfl,Lh⟩
 refine Zj (Zd (Za (Zh (Zi (Zzh ?_)))))
 exact ⟨(),trivial,by unfold kindB;simp [resVal,show ¬ x.fSort=1 from h5,show ¬ x.fSort=2 from h11],Lh⟩
theorem obj_named {B:Base}{w:World}(x:ApiSymbol) (b5:Nat) (hS:St B [blk b5 44 [.string x.fName,.bool x.fLocal,.int .i64 x.fSort,.int .i64 x.fKind,.int .i64 x.fDef]] w) (y:ApiSymbol) :
 CW 88 #[.agg #[.string y.fName,.bool y.fLocal,.int .i64 y.fSort,.int .i64 y.fKind,.int .i64 y.fDef],.pointer (some ⟨b5,0,none⟩)] w (Ret B (fun _:Unit=>True) (fun _=>.bool (nameP x y)) (fun _=>[blk b5 44 [.string x.fName,.bool x.fLocal,.int .i64 x.fSort,.int .i64 x.fKind,.int .i64 x.fDef]])):=by
 refine ZX Tryz.func88 hS ?_
 refine Zh (Zi (oBox J ZP (fun b2=>?_)))
 refine Zp J (Zn (Za (Zh (Zi (Zz (n:=0) (m:=0) J J J (Zld ?_))))))
 refine Zz (n:=0) (m:=0) J J J (Zld ?_)
 refine oSEq J J (Zzh ?_)
 exact ⟨(),trivial,rfl,Lh⟩
def whenF (is:Bool) (e:Int):Int:=if is=true then e else 0
theorem obj_when {B:Base}{w:World}(hS:St B [] w) (is:Bool) (e:Int) :
 CW 91 #[.bool is,.int .i64 e] w (Ret B (fun _:Unit=>True) (fun _=>.int .i64 (whenF is e)) (fun _=>[])):=by
 refine ZX Tryz.func91 hS ?_
 refine Zh (Zi (Zp J (Zn (Za (Zh (Zh (Zi (Zo J (Zn (Za (wC (fun h5=>?_) (fun h5=>?_))))))))))))
 refine Zh (Zi (Zo J (Zzb ?_)))
 exact ⟨(),trivial,by unfold whenF;rw [if_pos h5];rfl,Lh⟩
 refine Zj (Za (Zh (Zi (Zzh ?_))))
 exact ⟨(),trivial,by unfold whenF;rw [if_neg (by rw [h5];simp)];rfl,Lh⟩
theorem fst_drop {l:List Int}{i:Nat}{x:Int}(h:l[i]?=some x):fstE (l.drop i)=if x≠0 then x else fstE (l.drop (i+1)):=by
 obtain ⟨hi,rfl⟩:=List.getElem?_eq_some_iff.1 h
 rw [← List.getElem_cons_drop (h:=hi)];rfl
theorem obj_first {B:Base}{w:World}(hS:St B [] w) (l:List Int) (A:Option Addr) (n cp:Nat) (hn:n=l.length) (hC:(Kd.int .i64).C B.e A l) :
 CW 89 #[.slice A n cp] w (Ret B (fun _:Unit=>True) (fun _=>.int .i64 (fstE l)) (fun _=>[])):=by
 subst hn
 have hl:=hC.1
 refine ZX Tryz.func89 hS ?_
 refine Zh (Zi (Zp J (Zn (Za (Zh (Zh (Zi (Zo J (Zv J J (Zo J (Zn (Za (Zk (wLoop (ι:=Nat) (fun i=>[(5,.slice A l.length cp),(6,.int .i64 (l.length:Int)),(7,.int .i64 (i:Int))]) (fun i=>[]) (fun i=>i≤l.length∧fstE (l.drop i)=fstE l) (fun i=>l.length-i) 0 ?_ cv (Leads.has ZQ) ?_))))))))))))))
 exact ⟨Nat.zero_le _,rfl⟩
 rintro i ⟨hi,hs⟩
 try dsimp only
 refine Zh (Zi (Zx J J (Zn (Za (Zh (wC (fun h8=>?_) (fun h8=>?_)))))))
 obtain ⟨x,hx⟩:∃ x,l[i]?=some x:=⟨_,List.getElem?_eq_getElem ZO⟩
 obtain ⟨e1,cs1,hE⟩:=hC.elm hx
 obtain rfl:=(show cs1=[Value.int .i64 x] from hE.K)
 refine Zj (Za (Zh (Zk (Zh (Zi (oIdxE J J (hE) ZO J J ?_))))))
 have hc9:=(hE).cell
 refine Zlx hc9 ?_
 refine Zp J (Zn (Za (Zh (Zi (Zo J (Z0 J J (Zn (Za (wC (fun h12=>?_) (fun h12=>?_))))))))))
 refine Zh (Zi (Zo J (Zzc ?_)))
 exact ⟨(),trivial,by rw [← hs,fst_drop hx,if_pos (by first | exact h12 | simpa using h12)];rfl,Lh⟩
 refine Zj (Zze ?_)
 refine Zo J (Zn (Za ?_))
 exact ⟨rfl,i+1,⟨by omega,by rw [← hs,fst_drop hx,if_neg (by first | exact h12 | simpa using h12)]⟩,by omega,cv,Lh⟩
 refine Zm (Zzf ?_)
 obtain rfl:i=l.length:=by omega
 exact ⟨(),trivial,by rw [← hs,List.drop_length];rfl,Lh⟩
theorem when_fst {c:Bool}{e:Int}{l:List Int}(h:e≠0):fstE (whenF c e :: l)=if c=true then e else fstE l:=by
 cases c with
 | false=>rfl
 | true=>show (if e≠0 then e else fstE l)=e;rw [if_pos h]
theorem sym_fir {o:ApiObject}{i:Nat}{x:ApiSymbol} : fstE [nameF4 x.fName,whenF (kindB x) 8,whenF ((o.fSymbols.take i).any (nameP x)) 12,whenF (decide (x.fDef≠-1) && (decide (x.fDef≠(aheadN x (o.fSymbols.take i):Int)) || decide ((mostN o x:Int)≤(aheadN x (o.fSymbols.take i):Int)))) 9,whenF (x.fLocal && decide (x.fDef = -1)) 13]=symX o i x:=by
 have h4:(decide (x.fDef≠-1) && (decide (x.fDef≠(aheadN x (o.fSymbols.take i):Int)) || decide ((mostN o x:Int)≤(aheadN x (o.fSymbols.take i):Int))))=true↔x.fDef≠-1∧(x.fDef≠(aheadN x (o.fSymbols.take i):Int)∨(mostN o x:Int)≤x.fDef):=by
  simp only [Bool.and_eq_true,Bool.or_eq_true,decide_eq_true_eq]
  constructor
  · rintro ⟨a,b⟩
    refine ⟨a,?_⟩
    by_cases c:x.fDef=(aheadN x (o.fSymbols.take i):Int)
    · right;rcases b with b | b
      · exact absurd c b
      · omega
    · exact .inl c
  · rintro ⟨a,b⟩
    refine ⟨a,?_⟩
    by_cases c:x.fDef=(aheadN x (o.fSymbols.take i):Int)
    · right;rcases b with b | b
      · exact absurd c b
      · omega
    · exact .inl c
 have h6:(x.fLocal && decide (x.fDef = -1))=true↔x.fLocal=true∧x.fDef = -1:=by simp
 unfold symX
 show (if nameF4 x.fName≠0 then nameF4 x.fName else fstE _)=_
 rw [when_fst (by decide),when_fst (by decide),when_fst (by decide),when_fst (by decide)]
 simp only [h4,h6]
 rfl
theorem obj_symbol {B:Base}{w:World}(hS:St B [] w) (o:ApiObject) (oc:List Value) (ho:kApiObject.K B.e o oc) (hg:GoodO o) (i:Nat) (hi:i<o.fSymbols.length) :
 CW 50 #[.agg oc.toArray,.int .i64 (i:Int)] w (Ret B (fun _:Unit=>True) (fun _=>.int .i64 (symE o i)) (fun _=>[])):=by
 obtain ⟨A0,c0,A1,c1,A2,c2,rfl,m0,q0,m1,q1,m2,q2⟩:=kApiObject_open ho
 have hn0:=hg.syms
 have hn1:=hg.funcs
 have hn2:=hg.datas
 obtain ⟨x,hx⟩:∃ x,o.fSymbols[i]?=some x:=⟨_,List.getElem?_eq_getElem hi⟩
 obtain ⟨e1,cs1,hE⟩:=q0.elm hx
 obtain rfl:=kApiSymbol_open hE.K
 have hxK:=hE.K
 have htl:(o.fSymbols.take i).length=i:=by rw [List.length_take];omega
 have hqt:kApiSymbol.C B.e A0 (o.fSymbols.take i):=C_take q0 i
 rw [symE_at hx,← sym_fir]
 refine ZX Tryz.func50 hS ?_
 refine Zh (Zi (oBox J ZP (fun b2=>?_)))
 refine Zp J (Zn (Za (Zh (Zi (Zz (n:=0) (m:=0) J J J (Zld ?_))))))
 refine Zo J (oIdxE J J (hE) ZO J J ?_)
 have hc14:=(hE).cell
 refine Zlx hc14 ?_
 refine oAlloc J ZP (fun b5=>?_)
 refine Zsa ?_
 refine Zn (Za (Zh (Zi (Zz (n:=1) (m:=1) J J J (Zld ?_)))))
 refine Zv J J (Zp J (Zn (Za (Zh (Zh (Zi (Zz (n:=2) (m:=2) J J J (Zld ?_))))))))
 refine Zy J J (Zn (Za (wC (fun h21=>?_) (fun h21=>?_))))
 refine Zi (Zz (n:=2) (m:=2) J J J (Zld ?_))
 refine Zv J J (Zp J (Zn (Za (Zh (Zi (oMakeFunc J ?_))))))
 refine ZS0 (t:=6) (v':=.int .i64 (mostN o x:Int)) J (by unfold mostN;rw [if_pos (show x.fSort=2 from h21)]) ?_
 refine Zp J (Zn (Za (Zh (Zi (Zp J ?_)))))
 refine ZS0 (t:=8) (v':=.int .i64 (aheadN x (o.fSymbols.take 0):Int)) J (by unfold aheadN;simp) ?_
 refine Zn (Za (Zh (Zh (Zi (Zz (n:=0) (m:=0) J J J (Zld ?_))))))
 refine Zo J (oSliceU J J ZO J ?_)
 refine Zv J J (Zo J (Zn (Za (Zk (wLoop (ι:=Nat) (fun k=>[(1,.int .i64 (i:Int)),(2,.pointer (some ⟨b2,0,none⟩)),(5,.pointer (some ⟨b5,0,none⟩)),(6,.int .i64 (mostN o x:Int)),(7,.func (.func 88) #[] #[.pointer (some ⟨b5,0,none⟩)]),(8,.int .i64 (aheadN x (o.fSymbols.take k):Int)),(29,.slice A0 i c0),(30,.int .i64 (i:Int)),(31,.int .i64 (k:Int))]) (fun k=>[blk b2 26 [.slice A0 o.fSymbols.length c0,.slice A1 o.fFuncs.length c1,.slice A2 o.fDatas.length c2],blk b5 44 [.string x.fName,.bool x.fLocal,.int .i64 x.fSort,.int .i64 x.fKind,.int .i64 x.fDef]]) (fun k=>k≤i) (fun k=>i-k) 0 ?_ cv (Leads.has ZQ) ?_)))))
 exact Nat.zero_le _
 rintro k hk
 have hal:=ahead_le x (o.fSymbols.take k)
 have htk:(o.fSymbols.take k).length≤300:=by rw [List.length_take];omega
 try dsimp only
 refine Zh (Zi (Zx J J (Zn (Za (Zh (wC (fun h32=>?_) (fun h32=>?_)))))))
 obtain ⟨y,hy⟩:∃ y,o.fSymbols[k]?=some y:=⟨_,List.getElem?_eq_getElem ZO⟩
 have hyt:(o.fSymbols.take i)[k]?=some y:=by rw [List.getElem?_take,if_pos ZO,hy]
 obtain ⟨e2,cs2,hE2⟩:=hqt.elm hyt
 obtain rfl:=kApiSymbol_open hE2.K
 refine Zj (Za (Zh (Zk (Zh (Zi (oIdxE J J (hE2) ZO J J ?_))))))
 have hc33:=(hE2).cell
 refine Zlx hc33 ?_
 refine oAlloc J ZP (fun b10=>?_)
 refine Zsa ?_
 refine Zn (Za (Zh (Zi (Zz (n:=2) (m:=2) J J J (Zld ?_)))))
 refine Zz (n:=2) (m:=2) J J J (Zld ?_)
 refine Zy J J (Zo J (ZS (ZT 40) (fun h40=>?_) (fun h40=>?_)))
 refine Zq J J (Zz (n:=4) (m:=4) J J J (Zzg ?_))
 refine Zq J J (Z0 J J (Zt J J (Zn (Za (wC (fun h44=>?_) (fun h44=>?_))))))
 have hap:aheadP x y=true:=by unfold aheadP;simp [show y.fSort=x.fSort from h40];first | exact h44 | simpa using h44
 refine Zi (Zo J ?_)
 first | refine oAdd rfl rfl ZO ?_ | refine oAddW rfl rfl ?_
 refine Zp J ?_
 skip
 refine Zn (Zze ?_)
 refine Zo J (Zn (Za ?_))
 exact ⟨rfl,k+1,by omega,by omega,by rw [ahead_succ x hy,if_pos hap];exact cv,Lh⟩
 have hap:¬ aheadP x y=true:=by unfold aheadP;simp [show y.fSort=x.fSort from h40];first | exact h44 | simpa using h44
 refine Zj (Zze ?_)
 refine Zo J (Zn (Za ?_))
 exact ⟨rfl,k+1,by omega,by omega,by rw [ahead_succ x hy,if_neg hap,Nat.add_zero];exact cv,Lh⟩
 have hap:¬ aheadP x y=true:=by unfold aheadP;simp [show ¬ y.fSort=x.fSort from h40]
 refine Zr J J J J (Zr J J J J (Zr J J J J (Zu J J (Zn (Za (wCondF J (Zj (Zze ?_))))))))
 refine Zo J (Zn (Za ?_))
 exact ⟨rfl,k+1,by omega,by omega,by rw [ahead_succ x hy,if_neg hap,Nat.add_zero];exact cv,Lh⟩
 obtain rfl:k=i:=by omega
 refine Zm (Zb (Zb (Ze (Za (Zh (wDrawG J [0,1,3,6,7,8,9,10,13,14,15,28,29] [(2,[3,6,7,8,9,10,13,14,15,28,29],[]),(4,[6,7,8,9,10,13,14,15,28,29],[]),(5,[6,7,8,9,10,13,14,15,28,29],[]),(11,[13,14,15,28,29],[]),(12,[13,14,15,28,29],[16,17,18,19,20,21,22,23,24,25,26]),(27,[28,29],[30,31,32,33,34]),(35,[],[]),(36,[],[]),(37,[],[])] [38] 24 ZK J J (fun w0=>?_)))))))
 refine Zz (n:=0) (m:=0) J J J (Zld ?_)
 refine Zla ?_
 refine Zz (n:=0) (m:=0) J J J (Zld ?_)
 refine Zo J (oSliceU J J ZO J ?_)
 refine Zo J (Zz (n:=4) (m:=4) J J J (Zld ?_))
 refine Z0 J J (Zz (n:=1) (m:=1) J J J (Zld ?_))
 refine Z4 (Z5 J ?_)
 (refine ZC0 rfl ZK (fun w hS=>frame hS ZQ (fun B' hB hS'=>name_Check hS' x.fName)) ?_;rintro ⟨⟩ -)
 refine ZG ?_ J (fun w0=>?_)
 refine Z8 J J J J (fun w0=>?_) ?_
 refine Zla ?_
 exact Z9 rfl
 refine Z8 J J J J (fun w0=>?_) ?_
 refine Zz (n:=0) (m:=0) J J J ?_
 exact Z9 rfl
 refine Z8 J J J J (fun w0=>?_) ?_
 refine Zld ?_
 exact Z9 rfl
 refine Z8 J J J J (fun w0=>?_) ?_
 refine Zo J ?_
 exact Z9 rfl
 refine Z8 J J J J (fun w0=>?_) ?_
 refine oSliceU J J ZO J ?_
 exact Z9 rfl
 refine Z8 J J J J (fun w0=>?_) ?_
 refine Zo J ?_
 exact Z9 rfl
 refine Z8 J J J J (fun w0=>?_) ?_
 refine Zz (n:=4) (m:=4) J J J ?_
 exact Z9 rfl
 refine Z8 J J J J (fun w0=>?_) ?_
 refine Zld ?_
 exact Z9 rfl
 refine Z8 J J J J (fun w0=>?_) ?_
 refine Z0 J J ?_
 exact Z9 rfl
 refine Z8 J J J J (fun w0=>?_) ?_
 refine Zz (n:=1) (m:=1) J J J ?_
 exact Z9 rfl
 refine Z8 J J J J (fun w0=>?_) ?_
 refine Zld ?_
 exact Z9 rfl
 exact AgainG.nil
 refine Z4 (Z5 J ?_)
 (refine ZC0 rfl ZK (fun w hS=>frame hS ZQ (fun B' hB hS'=>obj_kind hS' x _ (kApiSymbol.K_grow hB hxK))) ?_;rintro ⟨⟩ -)
 refine ZG ?_ J (fun w0=>?_)
 refine Z8 J J J J (fun w0=>?_) ?_
 refine Zz (n:=0) (m:=0) J J J ?_
 exact Z9 rfl
 refine Z8 J J J J (fun w0=>?_) ?_
 refine Zld ?_
 exact Z9 rfl
 refine Z8 J J J J (fun w0=>?_) ?_
 refine Zo J ?_
 exact Z9 rfl
 refine Z8 J J J J (fun w0=>?_) ?_
 refine oSliceU J J ZO J ?_
 exact Z9 rfl
 refine Z8 J J J J (fun w0=>?_) ?_
 refine Zo J ?_
 exact Z9 rfl
 refine Z8 J J J J (fun w0=>?_) ?_
 refine Zz (n:=4) (m:=4) J J J ?_
 exact Z9 rfl
 refine Z8 J J J J (fun w0=>?_) ?_
 refine Zld ?_
 exact Z9 rfl
 refine Z8 J J J J (fun w0=>?_) ?_
 refine Z0 J J ?_
 exact Z9 rfl
 refine Z8 J J J J (fun w0=>?_) ?_
 refine Zz (n:=1) (m:=1) J J J ?_
 exact Z9 rfl
 refine Z8 J J J J (fun w0=>?_) ?_
 refine Zld ?_
 exact Z9 rfl
 exact AgainG.nil
 refine Z4 (Z5 J ?_)
 (refine ZC0 rfl ZK (fun w hS=>frame hS ZQ (fun B' hB hS'=>obj_when hS' (kindB x) 8)) ?_;rintro ⟨⟩ -)
 refine ZG ?_ J (fun w0=>?_)
 refine Z8 J J J J (fun w0=>?_) ?_
 refine Zz (n:=0) (m:=0) J J J ?_
 exact Z9 rfl
 refine Z8 J J J J (fun w0=>?_) ?_
 refine Zld ?_
 exact Z9 rfl
 refine Z8 J J J J (fun w0=>?_) ?_
 refine Zo J ?_
 exact Z9 rfl
 refine Z8 J J J J (fun w0=>?_) ?_
 refine oSliceU J J ZO J ?_
 exact Z9 rfl
 refine Z8 J J J J (fun w0=>?_) ?_
 refine Zo J ?_
 exact Z9 rfl
 refine Z8 J J J J (fun w0=>?_) ?_
 refine Zz (n:=4) (m:=4) J J J ?_
 exact Z9 rfl
 refine Z8 J J J J (fun w0=>?_) ?_
 refine Zld ?_
 exact Z9 rfl
 refine Z8 J J J J (fun w0=>?_) ?_
 refine Z0 J J ?_
 exact Z9 rfl
 refine Z8 J J J J (fun w0=>?_) ?_
 refine Zz (n:=1) (m:=1) J J J ?_
 exact Z9 rfl
 refine Z8 J J J J (fun w0=>?_) ?_
 refine Zld ?_
 exact Z9 rfl
 exact AgainG.nil
 refine Z4 (Z5 J ?_)
 (refine ZC0 rfl ZK (fun w hS=>frame hS ZQ (fun B' hB hS'=>containsFunc_sym hS' (o.fSymbols.take k) A0 k c0 htl.symm (Kd.C_grow hB hqt) 88 #[.pointer (some ⟨b5,0,none⟩)] (nameP x) ZK (fun B2 w2 y hB2 hy2 hS2=>obj_named x b5 hS2 y))) ?_;rintro ⟨⟩ -)
 refine ZG ?_ J (fun w0=>?_)
 refine Z8 J J J J (fun w0=>?_) ?_
 refine Zz (n:=4) (m:=4) J J J ?_
 exact Z9 rfl
 refine Z8 J J J J (fun w0=>?_) ?_
 refine Zld ?_
 exact Z9 rfl
 refine Z8 J J J J (fun w0=>?_) ?_
 refine Z0 J J ?_
 exact Z9 rfl
 refine Z8 J J J J (fun w0=>?_) ?_
 refine Zz (n:=1) (m:=1) J J J ?_
 exact Z9 rfl
 refine Z8 J J J J (fun w0=>?_) ?_
 refine Zld ?_
 exact Z9 rfl
 exact AgainG.nil
 refine Z4 (Z5 J ?_)
 (refine ZC0 rfl ZK (fun w hS=>frame hS ZQ (fun B' hB hS'=>obj_when hS' ((o.fSymbols.take k).any (nameP x)) 12)) ?_;rintro ⟨⟩ -)
 refine ZG ?_ J (fun w0=>?_)
 refine Z8 J J J J (fun w0=>?_) ?_
 refine Zz (n:=4) (m:=4) J J J ?_
 exact Z9 rfl
 refine Z8 J J J J (fun w0=>?_) ?_
 refine Zld ?_
 exact Z9 rfl
 refine Z8 J J J J (fun w0=>?_) ?_
 refine Z0 J J ?_
 exact Z9 rfl
 refine Z8 J J J J (fun w0=>?_) ?_
 refine Zz (n:=1) (m:=1) J J J ?_
 exact Z9 rfl
 refine Z8 J J J J (fun w0=>?_) ?_
 refine Zld ?_
 exact Z9 rfl
 exact AgainG.nil
 refine Zo J (ZS (ZT 64) (fun h64=>?_) (fun h64=>?_))
 refine Zq J J (Zz (n:=4) (m:=4) J J J (Zzg ?_))
 refine Zq J J (Zo J (Zq J J (Z0 J J (Zq J J (Zo J (ZS (ZT 69) (fun h69=>?_) (fun h69=>?_)))))))
 refine Zr J J J J (Zr J J J J (Zr J J J J (Zq J J (Zt J J (Zt J J ?_)))))
 refine ZS0 (t:=74) (v':=.bool (decide (x.fDef≠-1) && (decide (x.fDef≠(aheadN x (o.fSymbols.take k):Int)) || decide ((mostN o x:Int)≤(aheadN x (o.fSymbols.take k):Int))))) J (by congr 1;rw [decide_eq_true (show x.fDef≠-1 from h64),decide_eq_true (show x.fDef≠(aheadN x (o.fSymbols.take k):Int) from h69)];rfl) ?_
 refine Z4 (Z5 J ?_)
 (refine ZC0 rfl ZK (fun w hS=>frame hS ZQ (fun B' hB hS'=>obj_when hS' (decide (x.fDef≠-1) && (decide (x.fDef≠(aheadN x (o.fSymbols.take k):Int)) || decide ((mostN o x:Int)≤(aheadN x (o.fSymbols.take k):Int)))) 9)) ?_;rintro ⟨⟩ -)
 refine ZG ?_ J (fun w0=>?_)
 refine Z8 J J J J (fun w0=>?_) ?_
 refine Zz (n:=1) (m:=1) J J J ?_
 exact Z9 rfl
 refine Z8 J J J J (fun w0=>?_) ?_
 refine Zld ?_
 exact Z9 rfl
 exact AgainG.nil
 refine Zo J (ZS (ZT 78) (fun h78=>?_) (fun h78=>?_))
 refine Zq J J (Zz (n:=4) (m:=4) J J J (Zzg ?_))
 refine Zq J J (Zy J J (Zt J J ?_))
 refine ZS0 (t:=82) (v':=.bool (x.fLocal && decide (x.fDef = -1))) rfl (by rw [show x.fLocal=true from h78];rfl) ?_
 refine Z4 (Z5 J ?_)
 (refine ZC0 rfl ZK (fun w hS=>frame hS ZQ (fun B' hB hS'=>obj_when hS' (x.fLocal && decide (x.fDef = -1)) 13)) ?_;rintro ⟨⟩ -)
 refine ZG ?_ J (fun w0=>?_)
 exact AgainG.nil
 refine Z4 (Z5 J ?_)
 refine oBuildSliceF (Parts.cons J (Parts.cons J (Parts.cons J (Parts.cons J (Parts.cons J Parts.nil))))) J J J J J (Fulls.cons ZP J (Fulls.cons ZP J (Fulls.cons ZP J (Fulls.cons ZP J (Fulls.cons ZP J Fulls.nil ap) ap) ap) ap) ap) (fun b84=>?_)
 refine oConv (blk_row (enc:=Value.int .i64) (h1:=fun _=>J) (W:=B.e) (xs:=[nameF4 x.fName,whenF (kindB x) 8,whenF ((o.fSymbols.take k).any (nameP x)) 12,whenF (decide (x.fDef≠-1) && (decide (x.fDef≠(aheadN x (o.fSymbols.take k):Int)) || decide ((mostN o x:Int)≤(aheadN x (o.fSymbols.take k):Int)))) 9,whenF (x.fLocal && decide (x.fDef = -1)) 13]) (n:=5) ZP J J (by decide)) ?_
 refine ZG ?_ J (fun w0=>?_)
 exact AgainG.nil
 refine Z4 (Z5 J ?_)
 (refine ZD J (fun w B' hB hR hS'=>obj_first hS' [nameF4 x.fName,whenF (kindB x) 8,whenF ((o.fSymbols.take k).any (nameP x)) 12,whenF (decide (x.fDef≠-1) && (decide (x.fDef≠(aheadN x (o.fSymbols.take k):Int)) || decide ((mostN o x:Int)≤(aheadN x (o.fSymbols.take k):Int)))) 9,whenF (x.fLocal && decide (x.fDef = -1)) 13] (some ⟨b84,0,none⟩) 5 5 rfl (row_Cs (W:=B.e) (e:=30) (A:=some ⟨b84,0,none⟩) (n:=5) (cp:=5) (hR _ _ ZP))) ?_;rintro ⟨⟩ -)
 refine ZG ?_ J (fun w0=>?_)
 exact AgainG.nil
 refine Z6 (Zzh ?_)
 exact ⟨(),trivial,rfl,Lh⟩
 refine Zr J J J J (Zr J J J J (Zr J J J J (Zu J J ?_)))
 refine ZS0 (t:=82) (v':=.bool (x.fLocal && decide (x.fDef = -1))) rfl (by rw [show x.fLocal=false from h78];rfl) ?_
 refine Z4 (Z5 J ?_)
 (refine ZC0 rfl ZK (fun w hS=>frame hS ZQ (fun B' hB hS'=>obj_when hS' (x.fLocal && decide (x.fDef = -1)) 13)) ?_;rintro ⟨⟩ -)
 refine ZG ?_ J (fun w0=>?_)
 exact AgainG.nil
 refine Z4 (Z5 J ?_)
 refine oBuildSliceF (Parts.cons J (Parts.cons J (Parts.cons J (Parts.cons J (Parts.cons J Parts.nil))))) J J J J J (Fulls.cons ZP J (Fulls.cons ZP J (Fulls.cons ZP J (Fulls.cons ZP J (Fulls.cons ZP J Fulls.nil ap) ap) ap) ap) ap) (fun b84=>?_)
 refine oConv (blk_row (enc:=Value.int .i64) (h1:=fun _=>J) (W:=B.e) (xs:=[nameF4 x.fName,whenF (kindB x) 8,whenF ((o.fSymbols.take k).any (nameP x)) 12,whenF (decide (x.fDef≠-1) && (decide (x.fDef≠(aheadN x (o.fSymbols.take k):Int)) || decide ((mostN o x:Int)≤(aheadN x (o.fSymbols.take k):Int)))) 9,whenF (x.fLocal && decide (x.fDef = -1)) 13]) (n:=5) ZP J J (by decide)) ?_
 refine ZG ?_ J (fun w0=>?_)
 exact AgainG.nil
 refine Z4 (Z5 J ?_)
 (refine ZD J (fun w B' hB hR hS'=>obj_first hS' [nameF4 x.fName,whenF (kindB x) 8,whenF ((o.fSymbols.take k).any (nameP x)) 12,whenF (decide (x.fDef≠-1) && (decide (x.fDef≠(aheadN x (o.fSymbols.take k):Int)) || decide ((mostN o x:Int)≤(aheadN x (o.fSymbols.take k):Int)))) 9,whenF (x.fLocal && decide (x.fDef = -1)) 13] (some ⟨b84,0,none⟩) 5 5 rfl (row_Cs (W:=B.e) (e:=30) (A:=some ⟨b84,0,none⟩) (n:=5) (cp:=5) (hR _ _ ZP))) ?_;rintro ⟨⟩ -)
 refine ZG ?_ J (fun w0=>?_)
 exact AgainG.nil
 refine Z6 (Zzh ?_)
 exact ⟨(),trivial,rfl,Lh⟩
 refine Zq J J (Zo J (Zq J J (Zo J (Zq J J (Z2 J J (Zq J J (Zu J J (Zt J J ?_))))))))
 refine ZS0 (t:=74) (v':=.bool (decide (x.fDef≠-1) && (decide (x.fDef≠(aheadN x (o.fSymbols.take k):Int)) || decide ((mostN o x:Int)≤(aheadN x (o.fSymbols.take k):Int))))) J (by congr 1;rw [decide_eq_true (show x.fDef≠-1 from h64),decide_eq_false (show ¬ x.fDef≠(aheadN x (o.fSymbols.take k):Int) from h69)];rfl) ?_
 refine Z4 (Z5 J ?_)
 (refine ZC0 rfl ZK (fun w hS=>frame hS ZQ (fun B' hB hS'=>obj_when hS' (decide (x.fDef≠-1) && (decide (x.fDef≠(aheadN x (o.fSymbols.take k):Int)) || decide ((mostN o x:Int)≤(aheadN x (o.fSymbols.take k):Int)))) 9)) ?_;rintro ⟨⟩ -)
 refine ZG ?_ J (fun w0=>?_)
 refine Z8 J J J J (fun w0=>?_) ?_
 refine Zz (n:=1) (m:=1) J J J ?_
 exact Z9 rfl
 refine Z8 J J J J (fun w0=>?_) ?_
 refine Zld ?_
 exact Z9 rfl
 exact AgainG.nil
 refine Zo J (ZS (ZT 78) (fun h78=>?_) (fun h78=>?_))
 refine Zq J J (Zz (n:=4) (m:=4) J J J (Zzg ?_))
 refine Zq J J (Zy J J (Zt J J ?_))
 refine ZS0 (t:=82) (v':=.bool (x.fLocal && decide (x.fDef = -1))) rfl (by rw [show x.fLocal=true from h78];rfl) ?_
 refine Z4 (Z5 J ?_)
 (refine ZC0 rfl ZK (fun w hS=>frame hS ZQ (fun B' hB hS'=>obj_when hS' (x.fLocal && decide (x.fDef = -1)) 13)) ?_;rintro ⟨⟩ -)
 refine ZG ?_ J (fun w0=>?_)
 exact AgainG.nil
 refine Z4 (Z5 J ?_)
 refine oBuildSliceF (Parts.cons J (Parts.cons J (Parts.cons J (Parts.cons J (Parts.cons J Parts.nil))))) J J J J J (Fulls.cons ZP J (Fulls.cons ZP J (Fulls.cons ZP J (Fulls.cons ZP J (Fulls.cons ZP J Fulls.nil ap) ap) ap) ap) ap) (fun b84=>?_)
 refine oConv (blk_row (enc:=Value.int .i64) (h1:=fun _=>J) (W:=B.e) (xs:=[nameF4 x.fName,whenF (kindB x) 8,whenF ((o.fSymbols.take k).any (nameP x)) 12,whenF (decide (x.fDef≠-1) && (decide (x.fDef≠(aheadN x (o.fSymbols.take k):Int)) || decide ((mostN o x:Int)≤(aheadN x (o.fSymbols.take k):Int)))) 9,whenF (x.fLocal && decide (x.fDef = -1)) 13]) (n:=5) ZP J J (by decide)) ?_
 refine ZG ?_ J (fun w0=>?_)
 exact AgainG.nil
 refine Z4 (Z5 J ?_)
 (refine ZD J (fun w B' hB hR hS'=>obj_first hS' [nameF4 x.fName,whenF (kindB x) 8,whenF ((o.fSymbols.take k).any (nameP x)) 12,whenF (decide (x.fDef≠-1) && (decide (x.fDef≠(aheadN x (o.fSymbols.take k):Int)) || decide ((mostN o x:Int)≤(aheadN x (o.fSymbols.take k):Int)))) 9,whenF (x.fLocal && decide (x.fDef = -1)) 13] (some ⟨b84,0,none⟩) 5 5 rfl (row_Cs (W:=B.e) (e:=30) (A:=some ⟨b84,0,none⟩) (n:=5) (cp:=5) (hR _ _ ZP))) ?_;rintro ⟨⟩ -)
 refine ZG ?_ J (fun w0=>?_)
 exact AgainG.nil
 refine Z6 (Zzh ?_)
 exact ⟨(),trivial,rfl,Lh⟩
 refine Zr J J J J (Zr J J J J (Zr J J J J (Zu J J ?_)))
 refine ZS0 (t:=82) (v':=.bool (x.fLocal && decide (x.fDef = -1))) rfl (by rw [show x.fLocal=false from h78];rfl) ?_
 refine Z4 (Z5 J ?_)
 (refine ZC0 rfl ZK (fun w hS=>frame hS ZQ (fun B' hB hS'=>obj_when hS' (x.fLocal && decide (x.fDef = -1)) 13)) ?_;rintro ⟨⟩ -)
 refine ZG ?_ J (fun w0=>?_)
 exact AgainG.nil
 refine Z4 (Z5 J ?_)
 refine oBuildSliceF (Parts.cons J (Parts.cons J (Parts.cons J (Parts.cons J (Parts.cons J Parts.nil))))) J J J J J (Fulls.cons ZP J (Fulls.cons ZP J (Fulls.cons ZP J (Fulls.cons ZP J (Fulls.cons ZP J Fulls.nil ap) ap) ap) ap) ap) (fun b84=>?_)
 refine oConv (blk_row (enc:=Value.int .i64) (h1:=fun _=>J) (W:=B.e) (xs:=[nameF4 x.fName,whenF (kindB x) 8,whenF ((o.fSymbols.take k).any (nameP x)) 12,whenF (decide (x.fDef≠-1) && (decide (x.fDef≠(aheadN x (o.fSymbols.take k):Int)) || decide ((mostN o x:Int)≤(aheadN x (o.fSymbols.take k):Int)))) 9,whenF (x.fLocal && decide (x.fDef = -1)) 13]) (n:=5) ZP J J (by decide)) ?_
 refine ZG ?_ J (fun w0=>?_)
 exact AgainG.nil
 refine Z4 (Z5 J ?_)
 (refine ZD J (fun w B' hB hR hS'=>obj_first hS' [nameF4 x.fName,whenF (kindB x) 8,whenF ((o.fSymbols.take k).any (nameP x)) 12,whenF (decide (x.fDef≠-1) && (decide (x.fDef≠(aheadN x (o.fSymbols.take k):Int)) || decide ((mostN o x:Int)≤(aheadN x (o.fSymbols.take k):Int)))) 9,whenF (x.fLocal && decide (x.fDef = -1)) 13] (some ⟨b84,0,none⟩) 5 5 rfl (row_Cs (W:=B.e) (e:=30) (A:=some ⟨b84,0,none⟩) (n:=5) (cp:=5) (hR _ _ ZP))) ?_;rintro ⟨⟩ -)
 refine ZG ?_ J (fun w0=>?_)
 exact AgainG.nil
 refine Z6 (Zzh ?_)
 exact ⟨(),trivial,rfl,Lh⟩
 refine Zr J J J J (Zr J J J J (Zr J J J J (Zr J J J J (Zr J J J J (Zs J J J (Zs J J J (Zs J J J (Zr J J J J (Zu J J ?_)))))))))
 refine ZS0 (t:=74) (v':=.bool (decide (x.fDef≠-1) && (decide (x.fDef≠(aheadN x (o.fSymbols.take k):Int)) || decide ((mostN o x:Int)≤(aheadN x (o.fSymbols.take k):Int))))) J (by congr 1;rw [decide_eq_false (show ¬ x.fDef≠-1 from h64)];rfl) ?_
 refine Z4 (Z5 J ?_)
 (refine ZC0 rfl ZK (fun w hS=>frame hS ZQ (fun B' hB hS'=>obj_when hS' (decide (x.fDef≠-1) && (decide (x.fDef≠(aheadN x (o.fSymbols.take k):Int)) || decide ((mostN o x:Int)≤(aheadN x (o.fSymbols.take k):Int)))) 9)) ?_;rintro ⟨⟩ -)
 refine ZG ?_ J (fun w0=>?_)
 refine Z8 J J J J (fun w0=>?_) ?_
 refine Zz (n:=1) (m:=1) J J J ?_
 exact Z9 rfl
 refine Z8 J J J J (fun w0=>?_) ?_
 refine Zld ?_
 exact Z9 rfl
 exact AgainG.nil
 refine Zo J (ZS (ZT 78) (fun h78=>?_) (fun h78=>?_))
 refine Zq J J (Zz (n:=4) (m:=4) J J J (Zzg ?_))
 refine Zq J J (Zy J J (Zt J J ?_))
 refine ZS0 (t:=82) (v':=.bool (x.fLocal && decide (x.fDef = -1))) rfl (by rw [show x.fLocal=true from h78];rfl) ?_
 refine Z4 (Z5 J ?_)
 (refine ZC0 rfl ZK (fun w hS=>frame hS ZQ (fun B' hB hS'=>obj_when hS' (x.fLocal && decide (x.fDef = -1)) 13)) ?_;rintro ⟨⟩ -)
 refine ZG ?_ J (fun w0=>?_)
 exact AgainG.nil
 refine Z4 (Z5 J ?_)
 refine oBuildSliceF (Parts.cons J (Parts.cons J (Parts.cons J (Parts.cons J (Parts.cons J Parts.nil))))) J J J J J (Fulls.cons ZP J (Fulls.cons ZP J (Fulls.cons ZP J (Fulls.cons ZP J (Fulls.cons ZP J Fulls.nil ap) ap) ap) ap) ap) (fun b84=>?_)
 refine oConv (blk_row (enc:=Value.int .i64) (h1:=fun _=>J) (W:=B.e) (xs:=[nameF4 x.fName,whenF (kindB x) 8,whenF ((o.fSymbols.take k).any (nameP x)) 12,whenF (decide (x.fDef≠-1) && (decide (x.fDef≠(aheadN x (o.fSymbols.take k):Int)) || decide ((mostN o x:Int)≤(aheadN x (o.fSymbols.take k):Int)))) 9,whenF (x.fLocal && decide (x.fDef = -1)) 13]) (n:=5) ZP J J (by decide)) ?_
 refine ZG ?_ J (fun w0=>?_)
 exact AgainG.nil
 refine Z4 (Z5 J ?_)
 (refine ZD J (fun w B' hB hR hS'=>obj_first hS' [nameF4 x.fName,whenF (kindB x) 8,whenF ((o.fSymbols.take k).any (nameP x)) 12,whenF (decide (x.fDef≠-1) && (decide (x.fDef≠(aheadN x (o.fSymbols.take k):Int)) || decide ((mostN o x:Int)≤(aheadN x (o.fSymbols.take k):Int)))) 9,whenF (x.fLocal && decide (x.fDef = -1)) 13] (some ⟨b84,0,none⟩) 5 5 rfl (row_Cs (W:=B.e) (e:=30) (A:=some ⟨b84,0,none⟩) (n:=5) (cp:=5) (hR _ _ ZP))) ?_;rintro ⟨⟩ -)
 refine ZG ?_ J (fun w0=>?_)
 exact AgainG.nil
 refine Z6 (Zzh ?_)
 exact ⟨(),trivial,rfl,Lh⟩
 refine Zr J J J J (Zr J J J J (Zr J J J J (Zu J J ?_)))
 refine ZS0 (t:=82) (v':=.bool (x.fLocal && decide (x.fDef = -1))) rfl (by rw [show x.fLocal=false from h78];rfl) ?_
 refine Z4 (Z5 J ?_)
 (refine ZC0 rfl ZK (fun w hS=>frame hS ZQ (fun B' hB hS'=>obj_when hS' (x.fLocal && decide (x.fDef = -1)) 13)) ?_;rintro ⟨⟩ -)
 refine ZG ?_ J (fun w0=>?_)
 exact AgainG.nil
 refine Z4 (Z5 J ?_)
 refine oBuildSliceF (Parts.cons J (Parts.cons J (Parts.cons J (Parts.cons J (Parts.cons J Parts.nil))))) J J J J J (Fulls.cons ZP J (Fulls.cons ZP J (Fulls.cons ZP J (Fulls.cons ZP J (Fulls.cons ZP J Fulls.nil ap) ap) ap) ap) ap) (fun b84=>?_)
 refine oConv (blk_row (enc:=Value.int .i64) (h1:=fun _=>J) (W:=B.e) (xs:=[nameF4 x.fName,whenF (kindB x) 8,whenF ((o.fSymbols.take k).any (nameP x)) 12,whenF (decide (x.fDef≠-1) && (decide (x.fDef≠(aheadN x (o.fSymbols.take k):Int)) || decide ((mostN o x:Int)≤(aheadN x (o.fSymbols.take k):Int)))) 9,whenF (x.fLocal && decide (x.fDef = -1)) 13]) (n:=5) ZP J J (by decide)) ?_
 refine ZG ?_ J (fun w0=>?_)
 exact AgainG.nil
 refine Z4 (Z5 J ?_)
 (refine ZD J (fun w B' hB hR hS'=>obj_first hS' [nameF4 x.fName,whenF (kindB x) 8,whenF ((o.fSymbols.take k).any (nameP x)) 12,whenF (decide (x.fDef≠-1) && (decide (x.fDef≠(aheadN x (o.fSymbols.take k):Int)) || decide ((mostN o x:Int)≤(aheadN x (o.fSymbols.take k):Int)))) 9,whenF (x.fLocal && decide (x.fDef = -1)) 13] (some ⟨b84,0,none⟩) 5 5 rfl (row_Cs (W:=B.e) (e:=30) (A:=some ⟨b84,0,none⟩) (n:=5) (cp:=5) (hR _ _ ZP))) ?_;rintro ⟨⟩ -)
 refine ZG ?_ J (fun w0=>?_)
 exact AgainG.nil
 refine Z6 (Zzh ?_)
 exact ⟨(),trivial,rfl,Lh⟩
 refine Zj (Za (Zh (Zi (oMakeFunc J ?_))))
 refine ZS0 (t:=6) (v':=.int .i64 (mostN o x:Int)) J (by unfold mostN;rw [if_neg (show ¬ x.fSort=2 from h21)]) ?_
 refine Zp J (Zn (Za (Zh (Zi (Zp J ?_)))))
 refine ZS0 (t:=8) (v':=.int .i64 (aheadN x (o.fSymbols.take 0):Int)) J (by unfold aheadN;simp) ?_
 refine Zn (Za (Zh (Zh (Zi (Zz (n:=0) (m:=0) J J J (Zld ?_))))))
 refine Zo J (oSliceU J J ZO J ?_)
 refine Zv J J (Zo J (Zn (Za (Zk (wLoop (ι:=Nat) (fun k=>[(1,.int .i64 (i:Int)),(2,.pointer (some ⟨b2,0,none⟩)),(5,.pointer (some ⟨b5,0,none⟩)),(6,.int .i64 (mostN o x:Int)),(7,.func (.func 88) #[] #[.pointer (some ⟨b5,0,none⟩)]),(8,.int .i64 (aheadN x (o.fSymbols.take k):Int)),(29,.slice A0 i c0),(30,.int .i64 (i:Int)),(31,.int .i64 (k:Int))]) (fun k=>[blk b2 26 [.slice A0 o.fSymbols.length c0,.slice A1 o.fFuncs.length c1,.slice A2 o.fDatas.length c2],blk b5 44 [.string x.fName,.bool x.fLocal,.int .i64 x.fSort,.int .i64 x.fKind,.int .i64 x.fDef]]) (fun k=>k≤i) (fun k=>i-k) 0 ?_ cv (Leads.has ZQ) ?_)))))
 exact Nat.zero_le _
 rintro k hk
 have hal:=ahead_le x (o.fSymbols.take k)
 have htk:(o.fSymbols.take k).length≤300:=by rw [List.length_take];omega
 try dsimp only
 refine Zh (Zi (Zx J J (Zn (Za (Zh (wC (fun h32=>?_) (fun h32=>?_)))))))
 obtain ⟨y,hy⟩:∃ y,o.fSymbols[k]?=some y:=⟨_,List.getElem?_eq_getElem ZO⟩
 have hyt:(o.fSymbols.take i)[k]?=some y:=by rw [List.getElem?_take,if_pos ZO,hy]
 obtain ⟨e2,cs2,hE2⟩:=hqt.elm hyt
 obtain rfl:=kApiSymbol_open hE2.K
 refine Zj (Za (Zh (Zk (Zh (Zi (oIdxE J J (hE2) ZO J J ?_))))))
 have hc33:=(hE2).cell
 refine Zlx hc33 ?_
 refine oAlloc J ZP (fun b10=>?_)
 refine Zsa ?_
 refine Zn (Za (Zh (Zi (Zz (n:=2) (m:=2) J J J (Zld ?_)))))
 refine Zz (n:=2) (m:=2) J J J (Zld ?_)
 refine Zy J J (Zo J (ZS (ZT 40) (fun h40=>?_) (fun h40=>?_)))
 refine Zq J J (Zz (n:=4) (m:=4) J J J (Zzg ?_))
 refine Zq J J (Z0 J J (Zt J J (Zn (Za (wC (fun h44=>?_) (fun h44=>?_))))))
 have hap:aheadP x y=true:=by unfold aheadP;simp [show y.fSort=x.fSort from h40];first | exact h44 | simpa using h44
 refine Zi (Zo J ?_)
 first | refine oAdd rfl rfl ZO ?_ | refine oAddW rfl rfl ?_
 refine Zp J ?_
 skip
 refine Zn (Zze ?_)
 refine Zo J (Zn (Za ?_))
 exact ⟨rfl,k+1,by omega,by omega,by rw [ahead_succ x hy,if_pos hap];exact cv,Lh⟩
 have hap:¬ aheadP x y=true:=by unfold aheadP;simp [show y.fSort=x.fSort from h40];first | exact h44 | simpa using h44
 refine Zj (Zze ?_)
 refine Zo J (Zn (Za ?_))
 exact ⟨rfl,k+1,by omega,by omega,by rw [ahead_succ x hy,if_neg hap,Nat.add_zero];exact cv,Lh⟩
 have hap:¬ aheadP x y=true:=by unfold aheadP;simp [show ¬ y.fSort=x.fSort from h40]
 refine Zr J J J J (Zr J J J J (Zr J J J J (Zu J J (Zn (Za (wCondF J (Zj (Zze ?_))))))))
 refine Zo J (Zn (Za ?_))
 exact ⟨rfl,k+1,by omega,by omega,by rw [ahead_succ x hy,if_neg hap,Nat.add_zero];exact cv,Lh⟩
 obtain rfl:k=i:=by omega
 refine Zm (Zb (Zb (Ze (Za (Zh (wDrawG J [0,1,3,6,7,8,9,10,13,14,15,28,29] [(2,[3,6,7,8,9,10,13,14,15,28,29],[]),(4,[6,7,8,9,10,13,14,15,28,29],[]),(5,[6,7,8,9,10,13,14,15,28,29],[]),(11,[13,14,15,28,29],[]),(12,[13,14,15,28,29],[16,17,18,19,20,21,22,23,24,25,26]),(27,[28,29],[30,31,32,33,34]),(35,[],[]),(36,[],[]),(37,[],[])] [38] 24 ZK J J (fun w0=>?_)))))))
 refine Zz (n:=0) (m:=0) J J J (Zld ?_)
 refine Zla ?_
 refine Zz (n:=0) (m:=0) J J J (Zld ?_)
 refine Zo J (oSliceU J J ZO J ?_)
 refine Zo J (Zz (n:=4) (m:=4) J J J (Zld ?_))
 refine Z0 J J (Zz (n:=1) (m:=1) J J J (Zld ?_))
 refine Z4 (Z5 J ?_)
 (refine ZC0 rfl ZK (fun w hS=>frame hS ZQ (fun B' hB hS'=>name_Check hS' x.fName)) ?_;rintro ⟨⟩ -)
 refine ZG ?_ J (fun w0=>?_)
 refine Z8 J J J J (fun w0=>?_) ?_
 refine Zla ?_
 exact Z9 rfl
 refine Z8 J J J J (fun w0=>?_) ?_
 refine Zz (n:=0) (m:=0) J J J ?_
 exact Z9 rfl
 refine Z8 J J J J (fun w0=>?_) ?_
 refine Zld ?_
 exact Z9 rfl
 refine Z8 J J J J (fun w0=>?_) ?_
 refine Zo J ?_
 exact Z9 rfl
 refine Z8 J J J J (fun w0=>?_) ?_
 refine oSliceU J J ZO J ?_
 exact Z9 rfl
 refine Z8 J J J J (fun w0=>?_) ?_
 refine Zo J ?_
 exact Z9 rfl
 refine Z8 J J J J (fun w0=>?_) ?_
 refine Zz (n:=4) (m:=4) J J J ?_
 exact Z9 rfl
 refine Z8 J J J J (fun w0=>?_) ?_
 refine Zld ?_
 exact Z9 rfl
 refine Z8 J J J J (fun w0=>?_) ?_
 refine Z0 J J ?_
 exact Z9 rfl
 refine Z8 J J J J (fun w0=>?_) ?_
 refine Zz (n:=1) (m:=1) J J J ?_
 exact Z9 rfl
 refine Z8 J J J J (fun w0=>?_) ?_
 refine Zld ?_
 exact Z9 rfl
 exact AgainG.nil
 refine Z4 (Z5 J ?_)
 (refine ZC0 rfl ZK (fun w hS=>frame hS ZQ (fun B' hB hS'=>obj_kind hS' x _ (kApiSymbol.K_grow hB hxK))) ?_;rintro ⟨⟩ -)
 refine ZG ?_ J (fun w0=>?_)
 refine Z8 J J J J (fun w0=>?_) ?_
 refine Zz (n:=0) (m:=0) J J J ?_
 exact Z9 rfl
 refine Z8 J J J J (fun w0=>?_) ?_
 refine Zld ?_
 exact Z9 rfl
 refine Z8 J J J J (fun w0=>?_) ?_
 refine Zo J ?_
 exact Z9 rfl
 refine Z8 J J J J (fun w0=>?_) ?_
 refine oSliceU J J ZO J ?_
 exact Z9 rfl
 refine Z8 J J J J (fun w0=>?_) ?_
 refine Zo J ?_
 exact Z9 rfl
 refine Z8 J J J J (fun w0=>?_) ?_
 refine Zz (n:=4) (m:=4) J J J ?_
 exact Z9 rfl
 refine Z8 J J J J (fun w0=>?_) ?_
 refine Zld ?_
 exact Z9 rfl
 refine Z8 J J J J (fun w0=>?_) ?_
 refine Z0 J J ?_
 exact Z9 rfl
 refine Z8 J J J J (fun w0=>?_) ?_
 refine Zz (n:=1) (m:=1) J J J ?_
 exact Z9 rfl
 refine Z8 J J J J (fun w0=>?_) ?_
 refine Zld ?_
 exact Z9 rfl
 exact AgainG.nil
 refine Z4 (Z5 J ?_)
 (refine ZC0 rfl ZK (fun w hS=>frame hS ZQ (fun B' hB hS'=>obj_when hS' (kindB x) 8)) ?_;rintro ⟨⟩ -)
 refine ZG ?_ J (fun w0=>?_)
 refine Z8 J J J J (fun w0=>?_) ?_
 refine Zz (n:=0) (m:=0) J J J ?_
 exact Z9 rfl
 refine Z8 J J J J (fun w0=>?_) ?_
 refine Zld ?_
 exact Z9 rfl
 refine Z8 J J J J (fun w0=>?_) ?_
 refine Zo J ?_
 exact Z9 rfl
 refine Z8 J J J J (fun w0=>?_) ?_
 refine oSliceU J J ZO J ?_
 exact Z9 rfl
 refine Z8 J J J J (fun w0=>?_) ?_
 refine Zo J ?_
 exact Z9 rfl
 refine Z8 J J J J (fun w0=>?_) ?_
 refine Zz (n:=4) (m:=4) J J J ?_
 exact Z9 rfl
 refine Z8 J J J J (fun w0=>?_) ?_
 refine Zld ?_
 exact Z9 rfl
 refine Z8 J J J J (fun w0=>?_) ?_
 refine Z0 J J ?_
 exact Z9 rfl
 refine Z8 J J J J (fun w0=>?_) ?_
 refine Zz (n:=1) (m:=1) J J J ?_
 exact Z9 rfl
 refine Z8 J J J J (fun w0=>?_) ?_
 refine Zld ?_
 exact Z9 rfl
 exact AgainG.nil
 refine Z4 (Z5 J ?_)
 (refine ZC0 rfl ZK (fun w hS=>frame hS ZQ (fun B' hB hS'=>containsFunc_sym hS' (o.fSymbols.take k) A0 k c0 htl.symm (Kd.C_grow hB hqt) 88 #[.pointer (some ⟨b5,0,none⟩)] (nameP x) ZK (fun B2 w2 y hB2 hy2 hS2=>obj_named x b5 hS2 y))) ?_;rintro ⟨⟩ -)
 refine ZG ?_ J (fun w0=>?_)
 refine Z8 J J J J (fun w0=>?_) ?_
 refine Zz (n:=4) (m:=4) J J J ?_
 exact Z9 rfl
 refine Z8 J J J J (fun w0=>?_) ?_
 refine Zld ?_
 exact Z9 rfl
 refine Z8 J J J J (fun w0=>?_) ?_
 refine Z0 J J ?_
 exact Z9 rfl
 refine Z8 J J J J (fun w0=>?_) ?_
 refine Zz (n:=1) (m:=1) J J J ?_
 exact Z9 rfl
 refine Z8 J J J J (fun w0=>?_) ?_
 refine Zld ?_
 exact Z9 rfl
 exact AgainG.nil
 refine Z4 (Z5 J ?_)
 (refine ZC0 rfl ZK (fun w hS=>frame hS ZQ (fun B' hB hS'=>obj_when hS' ((o.fSymbols.take k).any (nameP x)) 12)) ?_;rintro ⟨⟩ -)
 refine ZG ?_ J (fun w0=>?_)
 refine Z8 J J J J (fun w0=>?_) ?_
 refine Zz (n:=4) (m:=4) J J J ?_
 exact Z9 rfl
 refine Z8 J J J J (fun w0=>?_) ?_
 refine Zld ?_
 exact Z9 rfl
 refine Z8 J J J J (fun w0=>?_) ?_
 refine Z0 J J ?_
 exact Z9 rfl
 refine Z8 J J J J (fun w0=>?_) ?_
 refine Zz (n:=1) (m:=1) J J J ?_
 exact Z9 rfl
 refine Z8 J J J J (fun w0=>?_) ?_
 refine Zld ?_
 exact Z9 rfl
 exact AgainG.nil
 refine Zo J (ZS (ZT 64) (fun h64=>?_) (fun h64=>?_))
 refine Zq J J (Zz (n:=4) (m:=4) J J J (Zzg ?_))
 refine Zq J J (Zo J (Zq J J (Z0 J J (Zq J J (Zo J (ZS (ZT 69) (fun h69=>?_) (fun h69=>?_)))))))
 refine Zr J J J J (Zr J J J J (Zr J J J J (Zq J J (Zt J J (Zt J J ?_)))))
 refine ZS0 (t:=74) (v':=.bool (decide (x.fDef≠-1) && (decide (x.fDef≠(aheadN x (o.fSymbols.take k):Int)) || decide ((mostN o x:Int)≤(aheadN x (o.fSymbols.take k):Int))))) J (by congr 1;rw [decide_eq_true (show x.fDef≠-1 from h64),decide_eq_true (show x.fDef≠(aheadN x (o.fSymbols.take k):Int) from h69)];rfl) ?_
 refine Z4 (Z5 J ?_)
 (refine ZC0 rfl ZK (fun w hS=>frame hS ZQ (fun B' hB hS'=>obj_when hS' (decide (x.fDef≠-1) && (decide (x.fDef≠(aheadN x (o.fSymbols.take k):Int)) || decide ((mostN o x:Int)≤(aheadN x (o.fSymbols.take k):Int)))) 9)) ?_;rintro ⟨⟩ -)
 refine ZG ?_ J (fun w0=>?_)
 refine Z8 J J J J (fun w0=>?_) ?_
 refine Zz (n:=1) (m:=1) J J J ?_
 exact Z9 rfl
 refine Z8 J J J J (fun w0=>?_) ?_
 refine Zld ?_
 exact Z9 rfl
 exact AgainG.nil
 refine Zo J (ZS (ZT 78) (fun h78=>?_) (fun h78=>?_))
 refine Zq J J (Zz (n:=4) (m:=4) J J J (Zzg ?_))
 refine Zq J J (Zy J J (Zt J J ?_))
 refine ZS0 (t:=82) (v':=.bool (x.fLocal && decide (x.fDef = -1))) rfl (by rw [show x.fLocal=true from h78];rfl) ?_
 refine Z4 (Z5 J ?_)
 (refine ZC0 rfl ZK (fun w hS=>frame hS ZQ (fun B' hB hS'=>obj_when hS' (x.fLocal && decide (x.fDef = -1)) 13)) ?_;rintro ⟨⟩ -)
 refine ZG ?_ J (fun w0=>?_)
 exact AgainG.nil
 refine Z4 (Z5 J ?_)
 refine oBuildSliceF (Parts.cons J (Parts.cons J (Parts.cons J (Parts.cons J (Parts.cons J Parts.nil))))) J J J J J (Fulls.cons ZP J (Fulls.cons ZP J (Fulls.cons ZP J (Fulls.cons ZP J (Fulls.cons ZP J Fulls.nil ap) ap) ap) ap) ap) (fun b84=>?_)
 refine oConv (blk_row (enc:=Value.int .i64) (h1:=fun _=>J) (W:=B.e) (xs:=[nameF4 x.fName,whenF (kindB x) 8,whenF ((o.fSymbols.take k).any (nameP x)) 12,whenF (decide (x.fDef≠-1) && (decide (x.fDef≠(aheadN x (o.fSymbols.take k):Int)) || decide ((mostN o x:Int)≤(aheadN x (o.fSymbols.take k):Int)))) 9,whenF (x.fLocal && decide (x.fDef = -1)) 13]) (n:=5) ZP J J (by decide)) ?_
 refine ZG ?_ J (fun w0=>?_)
 exact AgainG.nil
 refine Z4 (Z5 J ?_)
 (refine ZD J (fun w B' hB hR hS'=>obj_first hS' [nameF4 x.fName,whenF (kindB x) 8,whenF ((o.fSymbols.take k).any (nameP x)) 12,whenF (decide (x.fDef≠-1) && (decide (x.fDef≠(aheadN x (o.fSymbols.take k):Int)) || decide ((mostN o x:Int)≤(aheadN x (o.fSymbols.take k):Int)))) 9,whenF (x.fLocal && decide (x.fDef = -1)) 13] (some ⟨b84,0,none⟩) 5 5 rfl (row_Cs (W:=B.e) (e:=30) (A:=some ⟨b84,0,none⟩) (n:=5) (cp:=5) (hR _ _ ZP))) ?_;rintro ⟨⟩ -)
 refine ZG ?_ J (fun w0=>?_)
 exact AgainG.nil
 refine Z6 (Zzh ?_)
 exact ⟨(),trivial,rfl,Lh⟩
 refine Zr J J J J (Zr J J J J (Zr J J J J (Zu J J ?_)))
 refine ZS0 (t:=82) (v':=.bool (x.fLocal && decide (x.fDef = -1))) rfl (by rw [show x.fLocal=false from h78];rfl) ?_
 refine Z4 (Z5 J ?_)
 (refine ZC0 rfl ZK (fun w hS=>frame hS ZQ (fun B' hB hS'=>obj_when hS' (x.fLocal && decide (x.fDef = -1)) 13)) ?_;rintro ⟨⟩ -)
 refine ZG ?_ J (fun w0=>?_)
 exact AgainG.nil
 refine Z4 (Z5 J ?_)
 refine oBuildSliceF (Parts.cons J (Parts.cons J (Parts.cons J (Parts.cons J (Parts.cons J Parts.nil))))) J J J J J (Fulls.cons ZP J (Fulls.cons ZP J (Fulls.cons ZP J (Fulls.cons ZP J (Fulls.cons ZP J Fulls.nil ap) ap) ap) ap) ap) (fun b84=>?_)
 refine oConv (blk_row (enc:=Value.int .i64) (h1:=fun _=>J) (W:=B.e) (xs:=[nameF4 x.fName,whenF (kindB x) 8,whenF ((o.fSymbols.take k).any (nameP x)) 12,whenF (decide (x.fDef≠-1) && (decide (x.fDef≠(aheadN x (o.fSymbols.take k):Int)) || decide ((mostN o x:Int)≤(aheadN x (o.fSymbols.take k):Int)))) 9,whenF (x.fLocal && decide (x.fDef = -1)) 13]) (n:=5) ZP J J (by decide)) ?_
 refine ZG ?_ J (fun w0=>?_)
 exact AgainG.nil
 refine Z4 (Z5 J ?_)
 (refine ZD J (fun w B' hB hR hS'=>obj_first hS' [nameF4 x.fName,whenF (kindB x) 8,whenF ((o.fSymbols.take k).any (nameP x)) 12,whenF (decide (x.fDef≠-1) && (decide (x.fDef≠(aheadN x (o.fSymbols.take k):Int)) || decide ((mostN o x:Int)≤(aheadN x (o.fSymbols.take k):Int)))) 9,whenF (x.fLocal && decide (x.fDef = -1)) 13] (some ⟨b84,0,none⟩) 5 5 rfl (row_Cs (W:=B.e) (e:=30) (A:=some ⟨b84,0,none⟩) (n:=5) (cp:=5) (hR _ _ ZP))) ?_;rintro ⟨⟩ -)
 refine ZG ?_ J (fun w0=>?_)
 exact AgainG.nil
 refine Z6 (Zzh ?_)
 exact ⟨(),trivial,rfl,Lh⟩
 refine Zq J J (Zo J (Zq J J (Zo J (Zq J J (Z2 J J (Zq J J (Zu J J (Zt J J ?_))))))))
 refine ZS0 (t:=74) (v':=.bool (decide (x.fDef≠-1) && (decide (x.fDef≠(aheadN x (o.fSymbols.take k):Int)) || decide ((mostN o x:Int)≤(aheadN x (o.fSymbols.take k):Int))))) J (by congr 1;rw [decide_eq_true (show x.fDef≠-1 from h64),decide_eq_false (show ¬ x.fDef≠(aheadN x (o.fSymbols.take k):Int) from h69)];rfl) ?_
 refine Z4 (Z5 J ?_)
 (refine ZC0 rfl ZK (fun w hS=>frame hS ZQ (fun B' hB hS'=>obj_when hS' (decide (x.fDef≠-1) && (decide (x.fDef≠(aheadN x (o.fSymbols.take k):Int)) || decide ((mostN o x:Int)≤(aheadN x (o.fSymbols.take k):Int)))) 9)) ?_;rintro ⟨⟩ -)
 refine ZG ?_ J (fun w0=>?_)
 refine Z8 J J J J (fun w0=>?_) ?_
 refine Zz (n:=1) (m:=1) J J J ?_
 exact Z9 rfl
 refine Z8 J J J J (fun w0=>?_) ?_
 refine Zld ?_
 exact Z9 rfl
 exact AgainG.nil
 refine Zo J (ZS (ZT 78) (fun h78=>?_) (fun h78=>?_))
 refine Zq J J (Zz (n:=4) (m:=4) J J J (Zzg ?_))
 refine Zq J J (Zy J J (Zt J J ?_))
 refine ZS0 (t:=82) (v':=.bool (x.fLocal && decide (x.fDef = -1))) rfl (by rw [show x.fLocal=true from h78];rfl) ?_
 refine Z4 (Z5 J ?_)
 (refine ZC0 rfl ZK (fun w hS=>frame hS ZQ (fun B' hB hS'=>obj_when hS' (x.fLocal && decide (x.fDef = -1)) 13)) ?_;rintro ⟨⟩ -)
 refine ZG ?_ J (fun w0=>?_)
 exact AgainG.nil
 refine Z4 (Z5 J ?_)
 refine oBuildSliceF (Parts.cons J (Parts.cons J (Parts.cons J (Parts.cons J (Parts.cons J Parts.nil))))) J J J J J (Fulls.cons ZP J (Fulls.cons ZP J (Fulls.cons ZP J (Fulls.cons ZP J (Fulls.cons ZP J Fulls.nil ap) ap) ap) ap) ap) (fun b84=>?_)
 refine oConv (blk_row (enc:=Value.int .i64) (h1:=fun _=>J) (W:=B.e) (xs:=[nameF4 x.fName,whenF (kindB x) 8,whenF ((o.fSymbols.take k).any (nameP x)) 12,whenF (decide (x.fDef≠-1) && (decide (x.fDef≠(aheadN x (o.fSymbols.take k):Int)) || decide ((mostN o x:Int)≤(aheadN x (o.fSymbols.take k):Int)))) 9,whenF (x.fLocal && decide (x.fDef = -1)) 13]) (n:=5) ZP J J (by decide)) ?_
 refine ZG ?_ J (fun w0=>?_)
 exact AgainG.nil
 refine Z4 (Z5 J ?_)
 (refine ZD J (fun w B' hB hR hS'=>obj_first hS' [nameF4 x.fName,whenF (kindB x) 8,whenF ((o.fSymbols.take k).any (nameP x)) 12,whenF (decide (x.fDef≠-1) && (decide (x.fDef≠(aheadN x (o.fSymbols.take k):Int)) || decide ((mostN o x:Int)≤(aheadN x (o.fSymbols.take k):Int)))) 9,whenF (x.fLocal && decide (x.fDef = -1)) 13] (some ⟨b84,0,none⟩) 5 5 rfl (row_Cs (W:=B.e) (e:=30) (A:=some ⟨b84,0,none⟩) (n:=5) (cp:=5) (hR _ _ ZP))) ?_;rintro ⟨⟩ -)
 refine ZG ?_ J (fun w0=>?_)
 exact AgainG.nil
 refine Z6 (Zzh ?_)
 exact ⟨(),trivial,rfl,Lh⟩
 refine Zr J J J J (Zr J J J J (Zr J J J J (Zu J J ?_)))
 refine ZS0 (t:=82) (v':=.bool (x.fLocal && decide (x.fDef = -1))) rfl (by rw [show x.fLocal=false from h78];rfl) ?_
 refine Z4 (Z5 J ?_)
 (refine ZC0 rfl ZK (fun w hS=>frame hS ZQ (fun B' hB hS'=>obj_when hS' (x.fLocal && decide (x.fDef = -1)) 13)) ?_;rintro ⟨⟩ -)
 refine ZG ?_ J (fun w0=>?_)
 exact AgainG.nil
 refine Z4 (Z5 J ?_)
 refine oBuildSliceF (Parts.cons J (Parts.cons J (Parts.cons J (Parts.cons J (Parts.cons J Parts.nil))))) J J J J J (Fulls.cons ZP J (Fulls.cons ZP J (Fulls.cons ZP J (Fulls.cons ZP J (Fulls.cons ZP J Fulls.nil ap) ap) ap) ap) ap) (fun b84=>?_)
 refine oConv (blk_row (enc:=Value.int .i64) (h1:=fun _=>J) (W:=B.e) (xs:=[nameF4 x.fName,whenF (kindB x) 8,whenF ((o.fSymbols.take k).any (nameP x)) 12,whenF (decide (x.fDef≠-1) && (decide (x.fDef≠(aheadN x (o.fSymbols.take k):Int)) || decide ((mostN o x:Int)≤(aheadN x (o.fSymbols.take k):Int)))) 9,whenF (x.fLocal && decide (x.fDef = -1)) 13]) (n:=5) ZP J J (by decide)) ?_
 refine ZG ?_ J (fun w0=>?_)
 exact AgainG.nil
 refine Z4 (Z5 J ?_)
 (refine ZD J (fun w B' hB hR hS'=>obj_first hS' [nameF4 x.fName,whenF (kindB x) 8,whenF ((o.fSymbols.take k).any (nameP x)) 12,whenF (decide (x.fDef≠-1) && (decide (x.fDef≠(aheadN x (o.fSymbols.take k):Int)) || decide ((mostN o x:Int)≤(aheadN x (o.fSymbols.take k):Int)))) 9,whenF (x.fLocal && decide (x.fDef = -1)) 13] (some ⟨b84,0,none⟩) 5 5 rfl (row_Cs (W:=B.e) (e:=30) (A:=some ⟨b84,0,none⟩) (n:=5) (cp:=5) (hR _ _ ZP))) ?_;rintro ⟨⟩ -)
 refine ZG ?_ J (fun w0=>?_)
 exact AgainG.nil
 refine Z6 (Zzh ?_)
 exact ⟨(),trivial,rfl,Lh⟩
 refine Zr J J J J (Zr J J J J (Zr J J J J (Zr J J J J (Zr J J J J (Zs J J J (Zs J J J (Zs J J J (Zr J J J J (Zu J J ?_)))))))))
 refine ZS0 (t:=74) (v':=.bool (decide (x.fDef≠-1) && (decide (x.fDef≠(aheadN x (o.fSymbols.take k):Int)) || decide ((mostN o x:Int)≤(aheadN x (o.fSymbols.take k):Int))))) J (by congr 1;rw [decide_eq_false (show ¬ x.fDef≠-1 from h64)];rfl) ?_
 refine Z4 (Z5 J ?_)
 (refine ZC0 rfl ZK (fun w hS=>frame hS ZQ (fun B' hB hS'=>obj_when hS' (decide (x.fDef≠-1) && (decide (x.fDef≠(aheadN x (o.fSymbols.take k):Int)) || decide ((mostN o x:Int)≤(aheadN x (o.fSymbols.take k):Int)))) 9)) ?_;rintro ⟨⟩ -)
 refine ZG ?_ J (fun w0=>?_)
 refine Z8 J J J J (fun w0=>?_) ?_
 refine Zz (n:=1) (m:=1) J J J ?_
 exact Z9 rfl
 refine Z8 J J J J (fun w0=>?_) ?_
 refine Zld ?_
 exact Z9 rfl
 exact AgainG.nil
 refine Zo J (ZS (ZT 78) (fun h78=>?_) (fun h78=>?_))
 refine Zq J J (Zz (n:=4) (m:=4) J J J (Zzg ?_))
 refine Zq J J (Zy J J (Zt J J ?_))
 refine ZS0 (t:=82) (v':=.bool (x.fLocal && decide (x.fDef = -1))) rfl (by rw [show x.fLocal=true from h78];rfl) ?_
 refine Z4 (Z5 J ?_)
 (refine ZC0 rfl ZK (fun w hS=>frame hS ZQ (fun B' hB hS'=>obj_when hS' (x.fLocal && decide (x.fDef = -1)) 13)) ?_;rintro ⟨⟩ -)
 refine ZG ?_ J (fun w0=>?_)
 exact AgainG.nil
 refine Z4 (Z5 J ?_)
 refine oBuildSliceF (Parts.cons J (Parts.cons J (Parts.cons J (Parts.cons J (Parts.cons J Parts.nil))))) J J J J J (Fulls.cons ZP J (Fulls.cons ZP J (Fulls.cons ZP J (Fulls.cons ZP J (Fulls.cons ZP J Fulls.nil ap) ap) ap) ap) ap) (fun b84=>?_)
 refine oConv (blk_row (enc:=Value.int .i64) (h1:=fun _=>J) (W:=B.e) (xs:=[nameF4 x.fName,whenF (kindB x) 8,whenF ((o.fSymbols.take k).any (nameP x)) 12,whenF (decide (x.fDef≠-1) && (decide (x.fDef≠(aheadN x (o.fSymbols.take k):Int)) || decide ((mostN o x:Int)≤(aheadN x (o.fSymbols.take k):Int)))) 9,whenF (x.fLocal && decide (x.fDef = -1)) 13]) (n:=5) ZP J J (by decide)) ?_
 refine ZG ?_ J (fun w0=>?_)
 exact AgainG.nil
 refine Z4 (Z5 J ?_)
 (refine ZD J (fun w B' hB hR hS'=>obj_first hS' [nameF4 x.fName,whenF (kindB x) 8,whenF ((o.fSymbols.take k).any (nameP x)) 12,whenF (decide (x.fDef≠-1) && (decide (x.fDef≠(aheadN x (o.fSymbols.take k):Int)) || decide ((mostN o x:Int)≤(aheadN x (o.fSymbols.take k):Int)))) 9,whenF (x.fLocal && decide (x.fDef = -1)) 13] (some ⟨b84,0,none⟩) 5 5 rfl (row_Cs (W:=B.e) (e:=30) (A:=some ⟨b84,0,none⟩) (n:=5) (cp:=5) (hR _ _ ZP))) ?_;rintro ⟨⟩ -)
 refine ZG ?_ J (fun w0=>?_)
 exact AgainG.nil
 refine Z6 (Zzh ?_)
 exact ⟨(),trivial,rfl,Lh⟩
 refine Zr J J J J (Zr J J J J (Zr J J J J (Zu J J ?_)))
 refine ZS0 (t:=82) (v':=.bool (x.fLocal && decide (x.fDef = -1))) rfl (by rw [show x.fLocal=false from h78];rfl) ?_
 refine Z4 (Z5 J ?_)
 (refine ZC0 rfl ZK (fun w hS=>frame hS ZQ (fun B' hB hS'=>obj_when hS' (x.fLocal && decide (x.fDef = -1)) 13)) ?_;rintro ⟨⟩ -)
 refine ZG ?_ J (fun w0=>?_)
 exact AgainG.nil
 refine Z4 (Z5 J ?_)
 refine oBuildSliceF (Parts.cons J (Parts.cons J (Parts.cons J (Parts.cons J (Parts.cons J Parts.nil))))) J J J J J (Fulls.cons ZP J (Fulls.cons ZP J (Fulls.cons ZP J (Fulls.cons ZP J (Fulls.cons ZP J Fulls.nil ap) ap) ap) ap) ap) (fun b84=>?_)
 refine oConv (blk_row (enc:=Value.int .i64) (h1:=fun _=>J) (W:=B.e) (xs:=[nameF4 x.fName,whenF (kindB x) 8,whenF ((o.fSymbols.take k).any (nameP x)) 12,whenF (decide (x.fDef≠-1) && (decide (x.fDef≠(aheadN x (o.fSymbols.take k):Int)) || decide ((mostN o x:Int)≤(aheadN x (o.fSymbols.take k):Int)))) 9,whenF (x.fLocal && decide (x.fDef = -1)) 13]) (n:=5) ZP J J (by decide)) ?_
 refine ZG ?_ J (fun w0=>?_)
 exact AgainG.nil
 refine Z4 (Z5 J ?_)
 (refine ZD J (fun w B' hB hR hS'=>obj_first hS' [nameF4 x.fName,whenF (kindB x) 8,whenF ((o.fSymbols.take k).any (nameP x)) 12,whenF (decide (x.fDef≠-1) && (decide (x.fDef≠(aheadN x (o.fSymbols.take k):Int)) || decide ((mostN o x:Int)≤(aheadN x (o.fSymbols.take k):Int)))) 9,whenF (x.fLocal && decide (x.fDef = -1)) 13] (some ⟨b84,0,none⟩) 5 5 rfl (row_Cs (W:=B.e) (e:=30) (A:=some ⟨b84,0,none⟩) (n:=5) (cp:=5) (hR _ _ ZP))) ?_;rintro ⟨⟩ -)
 refine ZG ?_ J (fun w0=>?_)
 exact AgainG.nil
 refine Z6 (Zzh ?_)
 exact ⟨(),trivial,rfl,Lh⟩
end Go.Proofs.YtpmdhkjbhjgoaaaGreatO
namespace Go.Proofs.YtpmdhkjbhjgoaaaGreatD
set_option maxRecDepth 100000
set_option maxHeartbeats 4000000
open Go.RowKit Go.Proofs.YtpmdhkjbhjgoaaaGreatK Go.Proofs.YtpmdhkjbhjgoaaaGreatT
open Go.Proofs.YtpmdhkjbhjgoaaaGreatO (oSliceU C_take)

theorem adl_next {l:List Int}{i:Nat}{x:Int}(h:l[i]?=some x):adl (l.take (i+1))=(((adl (l.take i)).1+x) % 65521,((adl (l.take i)).2+((adl (l.take i)).1+x) % 65521) % 65521):=by
 rw [List.take_add_one,h]
 exact adl_snoc _ _
theorem tmod_pos {a:Int}(h:0≤a):a.tmod 65521=a % 65521:=Int.tmod_eq_emod_of_nonneg h
theorem sum_New {B:Base}{w:World}(hS:St B [] w) :
 CW 100 #[] w (Ret B (fun _:Nat=>True) (fun z=>.pointer (some ⟨z,0,none⟩)) (fun z=>[blk z 181 [.int .i64 1,.int .i64 0,.bool true]])):=by
 refine ZX Tryz.func100 hS ?_
 refine Zh (Zi (Zp J (Zn (Za (Zh (Zi (oBuild (Parts.cons J (Parts.cons J Parts.nil)) J J (Built.cons (off:=0) (s:=1) J ZP J ZP (Built.cons (off:=2) (s:=1) J ZP J ZP Built.nil)) ?_)))))))
 refine oBox J ZP (fun b2=>?_)
 refine Zp J (Zza ?_)
 exact ⟨b2,trivial,rfl,Lh⟩
theorem sum_Add {B:Base}{w:World}(ba:Nat) (hS:St B [blk ba 181 [.int .i64 (1),.int .i64 (0),.bool true]] w) (A:Option Addr) (cp:Nat) (l:List Int) (hC:(Kd.int .u8).C B.e A l) (hb:Byts l) :
 CW 102 #[.pointer (some ⟨ba,0,none⟩),.slice A l.length cp] w (Ret B (fun _:Unit=>True) (fun _=>.tuple #[]) (fun _=>[blk ba 181 [.int .i64 ((adl l).1),.int .i64 ((adl l).2),.bool true]])):=by
 have hl:=hC.1
 refine ZX Tryz.func102 hS ?_
 refine Zh (Zh (Zi (Zo J (oEqlP J J J (ZS0 (t:=7) (v':=.bool false) J (by simp) ?_)))))
 refine Zo J (Zq J J (Zo J (Zq J J (Z3 J (Zq J J (Zz (n:=2) (m:=2) J J J (Zzg ?_)))))))
 refine Zq J J (Zno ?_)
 refine ZS0 (t:=13) (v':=.bool false) J J (Zu J J (Zn (Za (wCondF J (Zj (Za (Zh (Zi (Zo J (Zv J J (Zo J (Zn (Za (Zk (wLoop (ι:=Nat) (fun i=>[(0,.pointer (some ⟨ba,0,none⟩)),(15,.slice A l.length cp),(16,.int .i64 (l.length:Int)),(17,.int .i64 (i:Int))]) (fun i=>[blk ba 181 [.int .i64 ((adl (l.take i)).1),.int .i64 ((adl (l.take i)).2),.bool true]]) (fun i=>i≤l.length) (fun i=>l.length-i) 0 ?_ cv (Leads.has ZQ) ?_)))))))))))))))
 exact Nat.zero_le _
 rintro i hi
 have hai:=adl_in (l.take i)
 try dsimp only
 refine Zh (Zi (Zx J J (Zn (Za (Zh (wC (fun h18=>?_) (fun h18=>?_)))))))
 refine Zj (Za (Zh (Zk (Zh (Zi (oIdx J J (hC) J ZO J J (fun e19 u19 cs19 hu19 hk19 hc19=>?_)))))))
 obtain rfl:=hk19
 have hu:=hb _ (List.mem_of_getElem? hu19)
 have hnx:=adl_next hu19
 have ha1:((adl (l.take i)).1+u19).tmod 65521=(adl (l.take (i+1))).1:=by rw [hnx,tmod_pos ZO]
 have ha2:((adl (l.take i)).2+(adl (l.take (i+1))).1).tmod 65521=(adl (l.take (i+1))).2:=by rw [hnx];dsimp only;rw [tmod_pos ZO]
 have hai2:=adl_in (l.take (i+1))
 refine Zlx hc19 ?_
 refine Zp J (Zn (Za (Zh (Zi (Zo J (Zo J (Z3 J (Zz (n:=0) (m:=0) J J J (Zld ?_)))))))))
 refine Zo J (oConvInt (m:=u19) J J J (small_wrap hu.1 ZO) ?_)
 refine oAdd J J ZO ?_
 refine oRem J J (by decide) ?_
 refine ZS0 (t:=29) (v':=.int .i64 (adl (l.take (i+1))).1) rfl (by rw [ha1]) ?_
 refine Z3 J (Zz (n:=0) (m:=0) J J J (Zst ?_))
 refine Zn (Za (wDraw2 J J [0,1,5] [2,3,4,6,7,8,9,10,11,12] 13 ZK J J J (fun w0=>?_)))
 refine Z3 J (Zz (n:=1) (m:=1) J J J (Zld ?_))
 refine Z3 J (Zz (n:=0) (m:=0) J J J (Zld ?_))
 refine oAdd J J ZO ?_
 refine oRem J J (by decide) ?_
 refine ZS0 (t:=42) (v':=.int .i64 (adl (l.take (i+1))).2) rfl (by rw [ha2]) ?_
 refine Z3 J (Zz (n:=1) (m:=1) J J J (oHead (Zst ?_)))
 refine oNilT (Zze ?_)
 refine Zo J (Zn (Za ?_))
 exact ⟨rfl,i+1,by omega,by omega,cv,Lh⟩
 obtain rfl:i=l.length:=by omega
 rw [List.take_length]
 refine Zm (Zb (Zb (Ze (fin_n ?_))))
 refine ⟨rfl,_,ResL.nil,?_⟩
 exact ⟨(),trivial,rfl,Lh⟩
theorem sum_Sum {B:Base}{w:World}(ba:Nat) (a b:Int) (ha:0≤a∧a<65521) (hb:0≤b∧b<65521) (hS:St B [blk ba 181 [.int .i64 (a),.int .i64 (b),.bool true]] w) :
 CW 103 #[.pointer (some ⟨ba,0,none⟩)] w (Ret B (fun _:Unit=>True) (fun _=>.int .i64 (b * 65536+a)) (fun _=>[blk ba 181 [.int .i64 (a),.int .i64 (b),.bool true]])):=by
 refine ZX Tryz.func103 hS ?_
 refine Zh (Zi (Zp J (Zn (Za (Zh (Zh (Zi (Zo J (oEqlP J J J (ZS0 (t:=4) (v':=.bool false) J (by simp) ?_))))))))))
 refine Zo J (Zq J J (Zo J (Zq J J (Z3 J (Zq J J (Zz (n:=2) (m:=2) J J J (Zzg ?_)))))))
 refine Zq J J (Zno ?_)
 refine ZS0 (t:=10) (v':=.bool false) J J (Zu J J (Zn (Za (wCondF J (Zj (Za (Zh (wDraw2 J J [0,5] [1,2,3,4,6,7,8,9] 10 ZK J J J (fun w0=>?_)))))))))
 refine Z3 J (Zz (n:=1) (m:=1) J J J (Zld ?_))
 refine oShlN (b:=16) J J ZO ?_
 refine ZS0 (t:=16) (v':=.int .i64 (b * 65536)) rfl (by rw [show (2:Int) ^ 16=65536 from by decide,small_wrap ZO ZO]) ?_
 refine Z3 J (Zz (n:=0) (m:=0) J J J (Zld ?_))
 refine oOr16 J J ZO ZO ?_
 refine oHead (Zp J (oNilT (Za (Zl (Zw (fi1 J ?_))))))
 exact ⟨(),trivial,rfl,Lh⟩
theorem sum_feed {B:Base}{w:World}(ba:Nat) (hS:St B [blk ba 181 [.int .i64 (1),.int .i64 (0),.bool true]] w) (A:Option Addr) (cp:Nat) (l:List Int) (hC:(Kd.int .u8).C B.e A l) (hb:Byts l) :
 CW 101 #[.func (.func 102) #[.pointer (some ⟨ba,0,none⟩)] #[],.slice A l.length cp] w (Ret B (fun _:Unit=>True) (fun _=>.tuple #[]) (fun _=>[blk ba 181 [.int .i64 ((adl l).1),.int .i64 ((adl l).2),.bool true]])):=by
 refine ZX Tryz.func101 hS ?_
 refine Zi (Zo J (Zo J ?_))
 (refine oCallV rfl rfl rfl ZK (fun w hS=>frame hS ZQ (fun B' hB hS'=>sum_Add ba hS' A cp l (Kd.C_grow hB hC) hb)) ?_;rintro ⟨⟩ -)
 refine Zn (fin_n ?_)
 refine ⟨rfl,_,ResL.nil,?_⟩
 exact ⟨(),trivial,rfl,Lh⟩
theorem sum_Of {B:Base}{w:World}(hS:St B [] w) (A:Option Addr) (cp:Nat) (l:List Int) (hC:(Kd.int .u8).C B.e A l) (hb:Byts l) :
 CW 55 #[.slice A l.length cp] w (Ret B (fun _:Unit=>True) (fun _=>.int .i64 (sumF l)) (fun _=>[])):=by
 refine ZX Tryz.func55 hS ?_
 refine Zh (Zi (Zp J (Zn (Za (Zh (Zi ?_))))))
 (refine ZC0 rfl ZK (fun w hS=>frame hS ZQ (fun B' hB hS'=>sum_New hS')) ?_;rintro ba -)
 refine Zp J (Zn (Za (Zh (Zi (Zo J (oMakeFuncB J J (Zo J ?_)))))))
 (refine ZC0 rfl ZK (fun w hS=>frame hS ZQ (fun B' hB hS'=>sum_feed ba hS' A cp l (Kd.C_grow hB hC) hb)) ?_;rintro ⟨⟩ -)
 refine Zn (Za (Zzi ?_))
 (refine ZC0 rfl ZK (fun w hS=>frame hS ZQ (fun B' hB hS'=>sum_Sum ba (adl l).1 (adl l).2 (adl_in l).1 (adl_in l).2 hS')) ?_;rintro ⟨⟩ -)
 refine Zp J (Zza ?_)
 exact ⟨(),trivial,rfl,Lh⟩
theorem sum_Seal {B:Base}{w:World}(hS:St B [] w) (A:Option Addr) (cp:Nat) (l:List Int) (hC:(Kd.int .u8).C B.e A l) (hb:Byts l) (hl:l.length≤900000) (W0:World) :
 CW 42 #[.slice A l.length cp] w (Ret B (fun _:Option Addr×Nat=>True) (fun z=>.slice z.1 (sealP l).length z.2) (fun z=>[row (Kd.int .u8) W0 5 (.slice z.1 (sealP l).length z.2) (sealP l)])):=by
 refine ZX Tryz.func42 hS ?_
 refine Zh (Zi (Zp J (Zn (Zzn ?_))))
 (refine ZC0 rfl ZK (fun w hS=>frame hS ZQ (fun B' hB hS'=>sum_Of hS' A cp l (Kd.C_grow hB hC) hb)) ?_;rintro ⟨⟩ -)
 (refine ZC0 rfl ZK (fun w hS=>frame hS ZQ (fun B' hB hS'=>octet_Put hS' A cp l (Kd.C_grow hB hC) ZO (sumF l) 4 (by decide) W0)) ?_;rintro ⟨A6,c6⟩ -)
 refine Zp J (Zza ?_)
 exact ⟨(A6,c6),trivial,rfl,Lh⟩
def errX {α:Type} : Except Int α→Int
  | .ok _=>0
  | .error e=>e
def valX:Except Int (List Int)→List Int
  | .ok l=>l
  | .error _=>[]
theorem opn_ok {l:List Int}(h1:¬ l.length<4) (h2:valU (l.drop (l.length-4))=sumF (l.take (l.length-4))):opnF l=.ok (l.take (l.length-4)):=by unfold opnF;rw [if_neg h1,if_neg (by rw [h2];simp)]
theorem opn_sum {l:List Int}(h1:¬ l.length<4) (h2:¬ valU (l.drop (l.length-4))=sumF (l.take (l.length-4))):opnF l=.error 4:=by unfold opnF;rw [if_neg h1,if_pos h2]
theorem opn_short {l:List Int}(h1:l.length<4):opnF l=.error 5:=by unfold opnF;rw [if_pos h1]
theorem take_n {l:List Int}{n:Nat}(h:n≤l.length):(l.take n).length=n:=by rw [List.length_take];omega
theorem val4 {l:List Int}(hb:Byts l) (h:¬ l.length<4):(rawN (l.drop (l.length-4)) (0,false) 4).2=valU (l.drop (l.length-4)):=by
 have hx:(l.drop (l.length-4)).length=4:=by rw [List.length_drop];omega
 rw [rawN_ok ZO,List.drop_zero,List.take_of_length_le ZO]
 have:=valU_in (hb.drop (l.length-4))
 rw [hx,show (256:Int) ^ 4=4294967296 from by decide] at this
 exact small_wrap this.1 ZO
theorem sum_Open {B:Base}{w:World}(hS:St B [] w) (A:Option Addr) (cp:Nat) (l:List Int) (hC:(Kd.int .u8).C B.e A l) (hb:Byts l) (hl:l.length≤900000) (hcp:l.length≤cp) (W0:World) :
 CW 21 #[.slice A l.length cp] w (Ret B (fun z:Option Addr×Nat=>(valX (opnF l)).length≤z.2) (fun z=>.tuple #[.slice z.1 (valX (opnF l)).length z.2,.int .i64 (errX (opnF l))]) (fun z=>[row (Kd.int .u8) W0 5 (.slice z.1 (valX (opnF l)).length z.2) (valX (opnF l))])):=by
 refine ZX Tryz.func21 hS ?_
 refine Zh (Zi (Zp J (Zp J (Zn (Za (Zh (Zi (Zo J (Zv J J (oSub J J ZO ?_))))))))))
 refine Zp J (Zn (Za (Zh (Zh (Zi (Zo J (Zx J J (Zn (Za (wC (fun h10=>?_) (fun h10=>?_)))))))))))
 refine Zh (Zi (Zp J (Zp J (Zn (Za (Zl (Zc (Zw ?_))))))))
 refine ⟨rfl,_,(ResL.cons (ResR.tmp rfl) (ResL.cons (ResR.tmp rfl) ResL.nil)),?_⟩
 rw [opn_short ZO]
 exact ⟨(none,0),Nat.le_refl _,rfl,Leads.trans (Leads.nilrow (kd:=Kd.int .u8) (W:=W0) (e:=5)) Lh⟩
 have h4:¬ l.length<4:=by omega
 have hx4:(l.drop (l.length-4)).length=4:=by rw [List.length_drop];omega
 obtain ⟨m,hm⟩:∃ m,m=l.length-4:=⟨_,rfl⟩
 rw [← hm] at hx4
 have htl:=take_n (l:=l) (n:=m) ZO
 refine Zj (Zzn ?_)
 refine ZS0 (t:=12) (v':=.int .i64 (m:Int)) J (by congr 1;omega) ?_
 refine oSliceV (m:=m) J J ZO hcp J ?_
 rw [show l.length-m=(l.drop m).length by rw [List.length_drop]]
 (refine ZC0 rfl ZK (fun w hS=>frame hS ZQ (fun B' hB hS'=>rd_New hS' _ (cp-m) (l.drop m) (C_from (Kd.C_grow hB hC) m hcp rfl) ZO W0)) ?_;rintro ⟨br,A14,c14⟩ hc14)
 refine Zp J (Zn (Za (Zh (Zh (wDrawG J [0,2,3,4] [(1,[2,3,4],[]),(5,[],[6])] [] 24 ZK J J (fun w0=>?_))))))
 refine Zo J (Zo J (Zo J ?_))
 refine ZS0 (t:=18) (v':=.int .i64 (m:Int)) J (by congr 1;omega) ?_
 refine oSliceU (m:=m) J J ZO J ?_
 refine ZS0 (t:=19) (v':=.slice A (l.take m).length cp) rfl (by rw [htl]) ?_
 refine Z4 (Z5 J ?_)
 (refine ZC0 rfl ZK (fun w hS=>frame' hS ZQ (fun B' hB hR hS'=>rd_Num br A14 c14 (l.drop m) 0 false hS' ZO ZO (hb.drop m) hc14 (row_Cs (hR _ _ ZP)) 4 (by decide))) ?_;rintro ⟨s16,n16⟩ h16)
 have hn16:n16=valU (l.drop m):=by have:=val4 hb h4;rw [← hm,← h16] at this;exact this
 refine ZG ?_ J (fun w0=>?_)
 refine Z8 J J J J (fun w0=>?_) ?_
 refine Zo J ?_
 exact Z9 rfl
 refine Z8 J J J J (fun w0=>?_) ?_
 refine Zo J ?_
 refine ZS0 (t:=18) (v':=.int .i64 (m:Int)) J (by congr 1;omega) ?_
 exact Z9 rfl
 refine Z8 J J J J (fun w0=>?_) ?_
 refine oSliceU (m:=m) J J ZO J ?_
 refine ZS0 (t:=19) (v':=.slice A (l.take m).length cp) rfl (by rw [htl]) ?_
 exact Z9 rfl
 exact AgainG.nil
 refine Z4 (Z5 J ?_)
 (refine ZC0 rfl ZK (fun w hS=>frame hS ZQ (fun B' hB hS'=>sum_Of hS' A cp (l.take m) (C_take (Kd.C_grow hB hC) m) (hb.take m))) ?_;rintro ⟨⟩ -)
 refine ZG ?_ J (fun w0=>?_)
 exact AgainG.nil
 refine Z0 J J (Z6 (Zn (Za (wC (fun h21=>?_) (fun h21=>?_)))))
 refine Zh (Zi (Zp J (Zp J (Zn (Za (Zl (Zc (Zw ?_))))))))
 refine ⟨rfl,_,(ResL.cons (ResR.tmp rfl) (ResL.cons (ResR.tmp rfl) ResL.nil)),?_⟩
 rw [opn_sum h4 (by rw [← hm,← hn16];exact h21)]
 exact ⟨(none,0),Nat.le_refl _,rfl,Leads.trans (Leads.nilrow (kd:=Kd.int .u8) (W:=W0) (e:=5)) Lh⟩
 refine Zj (Za (Zh (Zi (oBuildSlice0 (Kd.int .u8) W0 J (fun b22=>?_)))))
 refine Zo J (Zo J ?_)
 refine ZS0 (t:=24) (v':=.int .i64 (m:Int)) J (by congr 1;omega) ?_
 refine oSliceU (m:=m) J J ZO J ?_
 refine oAppA (ys:=l.take m) J J J J ZP htl (fun w hw=>src_Cs (C_take hC m) (Base.grow hw.ok)) (by simp;omega) J (fun A26 c26 hc26=>?_)
 rw [show ([]:List Int).length+m=(l.take m).length by rw [htl];simp,show ([]++l.take m:List Int)=l.take m from rfl] at *
 refine Zp J (Zp J (Zn (Za (Zl (Zw ?_)))))
 refine ⟨rfl,_,(ResL.cons (ResR.tmp rfl) (ResL.cons (ResR.tmp rfl) ResL.nil)),?_⟩
 rw [opn_ok h4 (by rw [← hm,← hn16];exact Decidable.not_not.1 h21),← hm]
 exact ⟨(A26,c26),hc26,rfl,Lh⟩
section
variable {c : Cx} {M : Me c} {N : Md c} {d : Nat} {ty : TypeId} {pos : String} {af : Array Edge} {rest : List Oper} {E : Env} {D : List Deferred} {H H' : List Res} {x y : Operand} {t t' : TypeId} {v : Value}
theorem oMark {b n cp:Nat}{e tb:TypeId}{cs:List Value}{xs:List Int}(hx:E.op x=some (.slice (some ⟨b,0,none⟩) n cp)) (ht:c.P.underlying t=some (.slice e)) (he:c.P.underlying e=some (.int .u8)) (hp:Pick H (blk b tb cs) H') (hc:cs=xs.map (Value.int .u8)) (hl:xs.length≤9223372036854775807)
 (h:O M.toMd rest ((d,.slice (some ⟨b,0,none⟩) n cp) :: E) D (rdr c.B.e (fun k=>k=b) (Kd.int .u8) (some ⟨b,0,none⟩) xs :: H')) (hN:Nat.blt d c.N=true:=by rfl):O M.toMd (⟨some d,.convert t t x,ty,pos,af,none⟩ :: rest) E D H:=
 oEff rfl hN fun a w ha hw=>by
  subst hc
  have hb:w.heap[b]?=some (.cells (xs.map (Value.int .u8)).toArray tb (0,0)):=hw.get hp
  have hsh:w.shape? b=some (tb,(xs.map (Value.int .u8)).toArray.size):=by unfold World.shape?;rw [hb]
  have hfz:∀ m,(w.freeze ⟨b,m,none⟩ 1).heap[b]?=some (.cells (xs.map (Value.int .u8)).toArray tb (m,m+1)):=fun m=>by
   unfold World.freeze
   rw [if_neg (by decide)]
   simp [Array.getElem?_modify,hb]
  have hother:∀ m k,k≠b→(w.freeze ⟨b,m,none⟩ 1).heap[k]?=w.heap[k]?:=fun m k hk=>by
   unfold World.freeze
   rw [if_neg (by decide)]
   simp [Array.getElem?_modify,Ne.symm hk]
  refine ⟨_,w.freeze ⟨b,xs.length,none⟩ 1,rdr c.B.e (fun k=>k=b) (Kd.int .u8) (some ⟨b,0,none⟩) xs :: H',?_,?_,h⟩
  · simp [execOp,ha.op hx,convert,run_underlying ht,run_underlying he,markStringish,hsh]
  · refine hw.upd' hp ⟨?_,?_,?_,?_,fun k _ hk=>hother _ k hk⟩ ⟨fun k hk=>?_,fun w' _ hs=>?_⟩ (fun k hk=>.inl hk)
    · unfold World.freeze;rw [if_neg (by decide)]
    · unfold World.freeze;rw [if_neg (by decide)]
    · unfold World.freeze;rw [if_neg (by decide)]
    · unfold World.freeze;rw [if_neg (by decide)];simp
    · obtain rfl:k=b:=hk
      exact (Array.getElem?_eq_some_iff.1 (hfz xs.length)).1
    · have hb':=(hs b rfl).trans (hfz xs.length)
      refine ⟨hl,fun _=>⟨_,rfl,fun j u hj=>⟨[.int .u8 u],rfl,fun i v hv=>?_⟩⟩⟩
      cases i with
      | zero=>
       obtain rfl:Value.int .u8 u=v:=by simpa using hv
       rw [add_at,show 0+(j * (Kd.int .u8).sz+0)=j by show 0+(j * 1+0)=j;omega]
       unfold World.cell?
       rw [hb']
       simp [hj]
      | succ i=>simp at hv
theorem oLdE {ad:Addr}(hx:E.op x=some (.pointer (some ad))) (hc:c.B.e.cell? ad=some v) (hs:scalT c.P t=true) (h:O N rest ((d,v) :: E) D H) (hN:Nat.blt d c.N=true:=by rfl):O N (⟨some d,.load t x,ty,pos,af,none⟩ :: rest) E D H:=by
 refine oC _ J hN (fun a w ha hw=>?_) h
 have hc1:=Base.grow hw.ok _ _ hc
 simp [execOp,ha.op hx,Instr.loadAt,Instr.sureAddr,loadVar,run_isAgg_s hs,hc1]
end
theorem rdr_base {B:Base}{Φ:List Res}{α:Type}{kd:Kd α}{A:Option Addr}{xs:List α}(hC:kd.C B.e A xs):Leads B Φ (rdr B.e (fun _=>False) kd A xs :: Φ):=
 fun w h=>h.add (Chg.refl _ _) ⟨fun _ h=>h.elim,fun w' g _=>Kd.C_grow g hC⟩ (fun _ h=>h.elim)
theorem int_rdr {B:Base}{Φ Φ':List Res}{enc:Int→Value}{h1:∀ x,(enc x).oneCell'=true}{W0 W:World}{e:TypeId}{A:Option Addr}{n cp:Nat}{xs:List Int}(hp:Pick Φ (row (Kd.scalar enc h1) W0 e (.slice A n cp) xs) Φ'):Leads B Φ (rdr W (fun k=>(Value.slice A n cp).ownBlock=some k) (Kd.scalar enc h1) A xs :: Φ'):=row_rdr hp (fun _ _ _ h=>h)
theorem flat_next {α:Type}{q:α→List Int}{xs:List α}{i:Nat}{x:α}(h:xs[i]?=some x):(xs.take (i+1)).flatMap q=(xs.take i).flatMap q++q x:=by
 rw [List.take_add_one,h,List.flatMap_append]
 simp
theorem flat_len {α:Type}{q:α→List Int}{c:Nat} : ∀ {xs:List α},(∀ x ∈ xs,(q x).length≤c)→(xs.flatMap q).length≤xs.length * c
 | [],_=>by simp
 | x :: xs,h=>by
  rw [List.flatMap_cons,List.length_append,List.length_cons,Nat.succ_mul]
  have h1:=h x List.mem_cons_self
  have h2:=flat_len (fun y hy=>h y (List.mem_cons_of_mem _ hy))
  omega
theorem flat_take {α:Type}{q:α→List Int}{xs:List α}{c m i:Nat}(h:∀ x ∈ xs,(q x).length≤c) (hm:xs.length≤m):((xs.take i).flatMap q).length≤m * c:=
 Nat.le_trans (flat_len (fun x hx=>h x (List.mem_of_mem_take hx))) (Nat.mul_le_mul (by rw [List.length_take];omega) (Nat.le_refl _))
def puts {α:Type}(q:α→List Int) (X:List Int) (xs:List α):List Int:=xs.foldl (fun a x=>a++q x) X
theorem puts_eq {α:Type}(q:α→List Int):∀ (xs:List α) (X:List Int),puts q X xs=X++xs.flatMap q
 | [],X=>by simp [puts]
 | x :: xs,X=>by
  have:=puts_eq q xs (X++q x)
  show puts q (X++q x) xs=_
  rw [this,List.flatMap_cons,List.append_assoc]
theorem puts_next {α:Type}{q:α→List Int}{X:List Int}{xs:List α}{i:Nat}{x:α}(h:xs[i]?=some x):puts q X (xs.take (i+1))=puts q X (xs.take i)++q x:=by
 rw [puts_eq,puts_eq,flat_next h,List.append_assoc]
theorem puts_le {α:Type}{q:α→List Int}{X:List Int}{xs:List α}{c m:Nat}(i:Nat) (h:∀ x ∈ xs,(q x).length≤c) (hm:xs.length≤m):(puts q X (xs.take i)).length≤X.length+m * c:=by
 have:=flat_take (i:=i) h hm
 rw [puts_eq,List.length_append];omega
theorem puts_all {α:Type}{q:α→List Int}{X:List Int}{xs:List α}{c m:Nat}(h:∀ x ∈ xs,(q x).length≤c) (hm:xs.length≤m):(puts q X xs).length≤X.length+m * c:=by
 have:=puts_le (X:=X) xs.length h hm
 rwa [List.take_length] at this
theorem insP_len (x:ApiInstr):(insP x).length=8:=by unfold insP;simp only [List.length_append,putL_len]
theorem linP_len (x:ApiLine):(linP x).length=3:=by unfold linP;simp only [List.length_append,putL_len]
theorem relP_len (x:ApiReloc):(relP x).length=3:=by unfold relP;simp only [List.length_append,putL_len]
theorem symP_len (x:ApiSymbol):(symP x).length≤260:=by unfold symP;have:=txtP_le x.fName;simp only [List.length_append,putL_len];omega
theorem lstP_len {α:Type}{q:α→List Int}{xs:List α}{c m:Nat}(h:∀ x ∈ xs,(q x).length≤c) (hm:xs.length≤m):(lstP q xs).length≤1+m * c:=by
 unfold lstP
 have h1:=flat_len h
 have h2:=Nat.mul_le_mul hm (Nat.le_refl c)
 rw [List.length_append,putL_len];omega
def SmlF (f:ApiFunc):Prop:=f.fKinds.length≤300∧f.fLines.length≤300∧f.fCode.length≤300∧f.fRelocs.length≤300
def SmlD (d:ApiData):Prop:=d.fWords.length≤300∧d.fRelocs.length≤300
structure SmlO (o:ApiObject):Prop where
  syms:o.fSymbols.length≤60
  funs:o.fFuncs.length≤20
  dats:o.fDatas.length≤20
  fun_:∀ f ∈ o.fFuncs,SmlF f
  dat_:∀ d ∈ o.fDatas,SmlD d
theorem funP_len {f:ApiFunc}(h:SmlF f):(funP f).length≤4600:=by
 unfold funP
 have h1:=lstP_len (q:=fun n=>putL n 1) (xs:=f.fKinds) (c:=1) (fun x _=>Nat.le_of_eq (putL_len x 1)) h.1
 have h2:=lstP_len (q:=linP) (xs:=f.fLines) (c:=3) (fun x _=>Nat.le_of_eq (linP_len x)) h.2.1
 have h3:=lstP_len (q:=insP) (xs:=f.fCode) (c:=8) (fun x _=>Nat.le_of_eq (insP_len x)) h.2.2.1
 have h4:=lstP_len (q:=relP) (xs:=f.fRelocs) (c:=3) (fun x _=>Nat.le_of_eq (relP_len x)) h.2.2.2
 simp only [List.length_append,putL_len]
 omega
theorem datP_len {d:ApiData}(h:SmlD d):(datP d).length≤3400:=by
 unfold datP
 have h1:=lstP_len (q:=fun n=>putL n 8) (xs:=d.fWords) (c:=8) (fun x _=>Nat.le_of_eq (putL_len x 8)) h.1
 have h4:=lstP_len (q:=relP) (xs:=d.fRelocs) (c:=3) (fun x _=>Nat.le_of_eq (relP_len x)) h.2
 simp only [List.length_append,putL_len]
 omega
open Go.Proofs.YtpmdhkjbhjgoaaaGreatV
theorem data_flag {B:Base}{w:World}(hS:St B [] w) (b:Bool) :
 CW 84 #[.bool b] w (Ret B (fun _:Unit=>True) (fun _=>.int .i64 (flagN b)) (fun _=>[])):=by
 refine ZX Tryz.func84 hS ?_
 refine Zh (Zi (Zp J (Zn (Za (Zh (Zh (Zi (Zo J (Zn (Za (wC (fun h3=>?_) (fun h3=>?_))))))))))))
 refine Zh (Zi (Zzb ?_))
 exact ⟨(),trivial,by unfold flagN;rw [if_pos h3];rfl,Lh⟩
 refine Zj (Za (Zh (Zi (Zzh ?_))))
 exact ⟨(),trivial,by unfold flagN;rw [if_neg (by rw [h3];simp)];rfl,Lh⟩
theorem fun_flag {B:Base}{w:World}(hS:St B [] w) (b:Bool) :
 CW 82 #[.bool b] w (Ret B (fun _:Unit=>True) (fun _=>.int .i64 (flagN b)) (fun _=>[])):=by
 refine ZX Tryz.func82 hS ?_
 refine Zh (Zi (Zp J (Zn (Za (Zh (Zh (Zi (Zo J (Zn (Za (wC (fun h3=>?_) (fun h3=>?_))))))))))))
 refine Zh (Zi (Zzb ?_))
 exact ⟨(),trivial,by unfold flagN;rw [if_pos h3];rfl,Lh⟩
 refine Zj (Za (Zh (Zi (Zzh ?_))))
 exact ⟨(),trivial,by unfold flagN;rw [if_neg (by rw [h3];simp)];rfl,Lh⟩
theorem file_flag {B:Base}{w:World}(hS:St B [] w) (b:Bool) :
 CW 39 #[.bool b] w (Ret B (fun _:Unit=>True) (fun _=>.int .i64 (flagN b)) (fun _=>[])):=by
 refine ZX Tryz.func39 hS ?_
 refine Zh (Zi (Zp J (Zn (Za (Zh (Zh (Zi (Zo J (Zn (Za (wC (fun h3=>?_) (fun h3=>?_))))))))))))
 refine Zh (Zi (Zzb ?_))
 exact ⟨(),trivial,by unfold flagN;rw [if_pos h3];rfl,Lh⟩
 refine Zj (Za (Zh (Zi (Zzh ?_))))
 exact ⟨(),trivial,by unfold flagN;rw [if_neg (by rw [h3];simp)];rfl,Lh⟩
theorem insP_four (l:List Int) (x:ApiInstr):l++((numsL x).take 4).flatMap (fun n=>putL n 1)++putL x.fN 4=l++insP x:=by
 unfold insP numsL
 simp [List.append_assoc]
theorem nums_get (x:ApiInstr) {i:Nat}(h:i<5):(numsL x)[i]?=some ((numsL x).getD i 0):=by
 rw [List.getD_eq_getElem?_getD,List.getElem?_eq_getElem (show i<(numsL x).length from h)];rfl
theorem instr_Put {B:Base}{w:World}(hS:St B [] w) (A:Option Addr) (cp:Nat) (l:List Int) (hC:(Kd.int .u8).C B.e A l) (hl:l.length≤900000) (x:ApiInstr) (xc:List Value) (hx:kApiInstr.K B.e x xc) (W0:World) :
 CW 83 #[.slice A l.length cp,.agg xc.toArray] w (Ret B (fun _:Option Addr×Nat=>True) (fun z=>.slice z.1 (l++insP x).length z.2) (fun z=>[row (Kd.int .u8) W0 5 (.slice z.1 (l++insP x).length z.2) (l++insP x)])):=by
 obtain rfl:=kApiInstr_open hx
 refine ZX Tryz.func83 hS ?_
 refine Zh (Zi (oBox J ZP (fun b3=>?_)))
 refine Zp J (Zn (Za (Zh (Zh (Zi (Zla ?_))))))
 (refine ZC0 rfl ZK (fun w hS=>frame hS ZQ (fun B' hB hS'=>instr_numbers hS' x _ (kApiInstr.K_grow hB hx))) ?_;rintro ⟨⟩ -)
 refine Zo J (ZS0 (t:=0) (v':=.slice A (l++((numsL x).take 0).flatMap (fun n=>putL n 1)).length cp) J (by simp) ?_)
 refine Zn (Za (Zk ?_))
 refine wLoop (ι:=Nat×Option Addr×Nat×(Nat→Prop)) (fun z=>[(0,.slice z.2.1 (l++((numsL x).take z.1).flatMap (fun n=>putL n 1)).length z.2.2.1),(8,.agg ((numsL x).map (Value.int .i64)).toArray),(9,.int .i64 (z.1:Int))]) (fun z=>[rdr B.e z.2.2.2 (Kd.int .u8) z.2.1 (l++((numsL x).take z.1).flatMap (fun n=>putL n 1))]) (fun z=>z.1≤4) (fun z=>5-z.1) (0,A,cp,fun _=>False) ?_ cv (by simp only [List.take_zero,List.flatMap_nil,List.append_nil];exact (rdr_base hC).trans Lh) ?_
 exact Nat.zero_le _
 rintro ⟨i,A1,c1,S1⟩ hi
 dsimp only at hi
 have hll:(l++((numsL x).take i).flatMap (fun n=>putL n 1)).length≤900005:=by rw [List.length_append];have:=flat_take (q:=fun n=>putL n 1) (xs:=numsL x) (c:=1) (m:=5) (i:=i) (fun y _=>Nat.le_of_eq (putL_len y 1)) (Nat.le_refl _);omega
 try dsimp only
 refine Zh (Zi (Zx J J (Zn (Za (Zh (wC (fun h10=>?_) (fun h10=>?_)))))))
 refine Zj (Za (Zh (Zk (Zh (Zi (Zo J (oIndexArr (i:=i) J J J J J ZO (nums_at x ZO) ?_)))))))
 refine Zp J (Zp J (Zn (Za (Zh (Zh (Zi (Zo J (Zy J J (Zn (Za (wC (fun h14=>?_) (fun h14=>?_))))))))))))
 refine Zh (Zi (Zo J (Zo J ?_)))
 (refine ZD J (fun w B' hB hR hS'=>octet_Put hS' A1 c1 _ (rdr_C (hR _ _ ZP) hB) ZO ((numsL x).getD i 0) 4 (by decide) W0) ?_;rintro ⟨A17,c17⟩ -)
 refine Zp J (Zzj ?_)
 obtain rfl:i=4:=by omega
 have e5:l++((numsL x).take 4).flatMap (fun n=>putL n 1)++putL ((numsL x).getD 4 0) 4=l++insP x:=insP_four l x
 rw [← e5]
 exact ⟨(A17,c17),trivial,rfl,Lh⟩
 refine Zj (Za (Zi (Zo J (Zo J ?_))))
 (refine ZD J (fun w B' hB hR hS'=>octet_Put hS' A1 c1 _ (rdr_C (hR _ _ ZP) hB) ZO ((numsL x).getD i 0) 1 (by decide) W0) ?_;rintro ⟨A20,c20⟩ -)
 refine Zp J (Zn (Zze ?_))
 refine Zo J ?_
 skip
 refine Zn (Za ?_)
 have e1:l++((numsL x).take (i+1)).flatMap (fun n=>putL n 1)=l++((numsL x).take i).flatMap (fun n=>putL n 1)++putL ((numsL x).getD i 0) 1:=by rw [flat_next (nums_get x ZO),List.append_assoc]
 exact ⟨rfl,(i+1,A20,c20,_),by show i+1≤4;omega,by show 5-(i+1)<5-i;omega,by dsimp only;rw [e1];exact cv,by dsimp only;rw [e1];exact (int_rdr ZP).trans Lh⟩
 omega
theorem data_Put {B:Base}{w:World}(hS:St B [] w) (A:Option Addr) (cp:Nat) (l:List Int) (hC:(Kd.int .u8).C B.e A l) (hl:l.length≤800000) (d:ApiData) (dc:List Value) (hd:kApiData.K B.e d dc) (hs:SmlD d) (W0:World) :
 CW 41 #[.slice A l.length cp,.agg dc.toArray] w (Ret B (fun _:Option Addr×Nat=>True) (fun z=>.slice z.1 (l++datP d).length z.2) (fun z=>[row (Kd.int .u8) W0 5 (.slice z.1 (l++datP d).length z.2) (l++datP d)])):=by
 obtain ⟨A0,c0,A1,c1,rfl,l0,g0,l1,g1⟩:=kApiData_open hd
 obtain ⟨hs1,hs2⟩:=hs
 refine ZX Tryz.func41 hS ?_
 refine Zh (Zi (oBox J ZP (fun b3=>?_)))
 refine Zp J (Zn (Za (Zh (Zi (Zo J (Zz (n:=0) (m:=0) J J J (Zld ?_)))))))
 (refine ZC0 rfl ZK (fun w hS=>frame hS ZQ (fun B' hB hS'=>octet_Put hS' A cp l (Kd.C_grow hB hC) ZO d.fKind 1 (by decide) W0)) ?_;rintro ⟨A12,c12⟩ -)
 refine Zp J (Zn (Za (Zh (Zi (Zo J (Zz (n:=1) (m:=1) J J J (Zld ?_)))))))
 refine Zv J J ?_
 (refine ZD J (fun w B' hB hR hS'=>octet_Put hS' A12 c12 _ (row_Cs (hR _ _ ZP)) (by first | omega | (simp only [List.length_append,putL_len];omega)) (d.fWords.length:Int) 1 (by decide) W0) ?_;rintro ⟨A17,c17⟩ -)
 obtain ⟨X,eX⟩:∃ X,X=l++putL d.fKind 1++putL (d.fWords.length:Int) 1:=⟨_,rfl⟩
 rw [← eX]
 have hX:X.length=l.length+2:=by rw [eX];simp only [List.length_append,putL_len]
 refine Zp J (Zn (Za (Zh (Zh (Zi (Zz (n:=1) (m:=1) J J J (Zld ?_)))))))
 refine Zv J J (Zo J (Zn (Za (Zk (wLoop (ι:=Nat×Option Addr×Nat) (fun z=>[(0,.slice z.2.1 (puts (fun n=>putL n 8) X (d.fWords.take z.1)).length z.2.2),(3,.pointer (some ⟨b3,0,none⟩)),(19,.slice A0 d.fWords.length c0),(20,.int .i64 (d.fWords.length:Int)),(21,.int .i64 (z.1:Int))]) (fun z=>[blk b3 55 [.int .i64 d.fKind,.slice A0 d.fWords.length c0,.slice A1 d.fRelocs.length c1],row (Kd.int .u8) W0 5 (.slice z.2.1 (puts (fun n=>putL n 8) X (d.fWords.take z.1)).length z.2.2) (puts (fun n=>putL n 8) X (d.fWords.take z.1))]) (fun z=>z.1≤d.fWords.length) (fun z=>d.fWords.length-z.1) (0,A17,c17) ?_ cv (Leads.has ZQ) ?_)))))
 exact Nat.zero_le _
 rintro ⟨i,A2,c2⟩ hii
 dsimp only at hii
 have hlli:=puts_le (q:=(fun n=>putL n 8)) (X:=X) (c:=8) i (fun y _=>Nat.le_of_eq (putL_len y 8)) hs1
 try dsimp only
 refine Zh (Zi (Zx J J (Zn (Za (Zh (wC (fun h22=>?_) (fun h22=>?_)))))))
 refine Zj (Za (Zh (Zk (Zh (Zi (oIdx J J (g0) J ZO J J (fun e23 u23 cs23 hu23 hk23 hc23=>?_)))))))
 obtain rfl:=hk23
 refine Zlx hc23 ?_
 refine Zp J (Zn (Za (Zi (Zo J (Zo J ?_)))))
 (refine ZD J (fun w B' hB hR hS'=>octet_Put hS' A2 c2 _ (row_Cs (hR _ _ ZP)) ZO u23 8 (by decide) W0) ?_;rintro ⟨A27,c27⟩ -)
 refine Zp J (Zn (Zze ?_))
 refine Zo J (Zn (Za ?_))
 have e1:=puts_next (q:=fun n=>putL n 8) (X:=X) hu23
 exact ⟨rfl,(i+1,A27,c27),by show i+1≤d.fWords.length;omega,by show d.fWords.length-(i+1)<d.fWords.length-i;omega,by dsimp only;rw [e1];exact cv,by dsimp only;rw [e1];exact Lh⟩
 obtain rfl:i=d.fWords.length:=by omega
 rw [List.take_length] at *
 refine Zm (Zb (Zb (Ze (Za (Zh (Zi (Zo J (Zz (n:=2) (m:=2) J J J (Zld ?_)))))))))
 refine Zv J J ?_
 (refine ZD J (fun w B' hB hR hS'=>octet_Put hS' A2 c2 _ (row_Cs (hR _ _ ZP)) ZO (d.fRelocs.length:Int) 1 (by decide) W0) ?_;rintro ⟨A33,c33⟩ -)
 obtain ⟨Y,eY⟩:∃ Y,Y=puts (fun n=>putL n 8) X d.fWords++putL (d.fRelocs.length:Int) 1:=⟨_,rfl⟩
 rw [← eY]
 have hY:Y.length≤800000+2403:=by rw [eY];simp only [List.length_append,putL_len];omega
 refine Zp J (Zn (Za (Zh (Zh (Zi (Zz (n:=2) (m:=2) J J J (Zld ?_)))))))
 refine Zv J J (Zo J (Zn (Za (Zk (wLoop (ι:=Nat×Option Addr×Nat) (fun z=>[(0,.slice z.2.1 (puts relP Y (d.fRelocs.take z.1)).length z.2.2),(3,.pointer (some ⟨b3,0,none⟩)),(35,.slice A1 d.fRelocs.length c1),(36,.int .i64 (d.fRelocs.length:Int)),(37,.int .i64 (z.1:Int))]) (fun z=>[blk b3 55 [.int .i64 d.fKind,.slice A0 d.fWords.length c0,.slice A1 d.fRelocs.length c1],row (Kd.int .u8) W0 5 (.slice z.2.1 (puts relP Y (d.fRelocs.take z.1)).length z.2.2) (puts relP Y (d.fRelocs.take z.1))]) (fun z=>z.1≤d.fRelocs.length) (fun z=>d.fRelocs.length-z.1) (0,A33,c33) ?_ cv (Leads.has ZQ) ?_)))))
 exact Nat.zero_le _
 rintro ⟨j,A3,c3⟩ hij
 dsimp only at hij
 have hllj:=puts_le (q:=relP) (X:=Y) (c:=3) j (fun y _=>Nat.le_of_eq (relP_len y)) hs2
 try dsimp only
 refine Zh (Zi (Zx J J (Zn (Za (Zh (wC (fun h38=>?_) (fun h38=>?_)))))))
 refine Zj (Za (Zh (Zk (Zh (Zi (oIdx J J (g1) J ZO J J (fun e39 u39 cs39 hu39 hk39 hc39=>?_)))))))
 obtain rfl:=kApiReloc_open hk39
 refine Zlx hc39 ?_
 refine oAlloc J ZP (fun b8=>?_)
 refine Zsa ?_
 refine Zn (Za (wDrawG J [0,1,2,4,5,7,8] [(3,[4,5,7,8],[]),(6,[7,8],[]),(9,[],[]),(10,[],[])] [11] 24 ZK J J (fun w0=>?_)))
 refine Zo J (Zz (n:=0) (m:=0) J J J (Zld ?_))
 refine Zz (n:=1) (m:=1) J J J (Zld ?_)
 refine Zz (n:=2) (m:=2) J J J (Zld ?_)
 refine Z4 (Z5 J ?_)
 (refine ZD J (fun w B' hB hR hS'=>octet_Put hS' A3 c3 _ (row_Cs (hR _ _ ZP)) (by first | omega | (simp only [List.length_append,putL_len];omega)) u39.fAt 1 (by decide) W0) ?_;rintro ⟨A44,c44⟩ -)
 refine ZG ?_ J (fun w0=>?_)
 refine Z8 J J J J (fun w0=>?_) ?_
 refine Zz (n:=1) (m:=1) J J J ?_
 exact Z9 rfl
 refine Z8 J J J J (fun w0=>?_) ?_
 refine Zld ?_
 exact Z9 rfl
 refine Z8 J J J J (fun w0=>?_) ?_
 refine Zz (n:=2) (m:=2) J J J ?_
 exact Z9 rfl
 refine Z8 J J J J (fun w0=>?_) ?_
 refine Zld ?_
 exact Z9 rfl
 exact AgainG.nil
 refine Z4 (Z5 J ?_)
 (refine ZD J (fun w B' hB hR hS'=>octet_Put hS' A44 c44 _ (row_Cs (hR _ _ ZP)) (by first | omega | (simp only [List.length_append,putL_len];omega)) u39.fSym 1 (by decide) W0) ?_;rintro ⟨A47,c47⟩ -)
 refine ZG ?_ J (fun w0=>?_)
 refine Z8 J J J J (fun w0=>?_) ?_
 refine Zz (n:=2) (m:=2) J J J ?_
 exact Z9 rfl
 refine Z8 J J J J (fun w0=>?_) ?_
 refine Zld ?_
 exact Z9 rfl
 exact AgainG.nil
 refine Z4 (Z5 J ?_)
 (refine ZC0 rfl ZK (fun w hS=>frame hS ZQ (fun B' hB hS'=>data_flag hS' u39.fWide)) ?_;rintro ⟨⟩ -)
 refine ZG ?_ J (fun w0=>?_)
 exact AgainG.nil
 refine Z4 (Z5 J ?_)
 (refine ZD J (fun w B' hB hR hS'=>octet_Put hS' A47 c47 _ (row_Cs (hR _ _ ZP)) (by first | omega | (simp only [List.length_append,putL_len];omega)) (flagN u39.fWide) 1 (by decide) W0) ?_;rintro ⟨A51,c51⟩ -)
 refine ZG ?_ J (fun w0=>?_)
 exact AgainG.nil
 refine Z6 (Zp J (Zn (Zze ?_)))
 refine Zo J (Zn (Za ?_))
 have e1:puts relP Y (d.fRelocs.take (j+1))=puts relP Y (d.fRelocs.take j)++putL u39.fAt 1++putL u39.fSym 1++putL (flagN u39.fWide) 1:=by rw [puts_next hu39];unfold relP;simp only [List.append_assoc]
 exact ⟨rfl,(j+1,A51,c51),by show j+1≤d.fRelocs.length;omega,by show d.fRelocs.length-(j+1)<d.fRelocs.length-j;omega,by dsimp only;rw [e1];exact cv,by dsimp only;rw [e1];exact Lh⟩
 obtain rfl:j=d.fRelocs.length:=by omega
 rw [List.take_length] at *
 have eE:puts relP Y d.fRelocs=l++datP d:=by rw [puts_eq,eY,puts_eq,eX];unfold datP lstP;simp only [List.append_assoc]
 rw [eE]
 refine Zm (Zb (Zb (Ze (Zzq ?_))))
 exact ⟨(A3,c3),trivial,rfl,Lh⟩
theorem fun_wput {B:Base}{w:World}(bw:Nat) (A:Option Addr) (cp:Nat) (l:List Int) (W0:World) (hS:St B [blk bw 128 [.slice A (l).length cp],row (Kd.int .u8) W0 5 (.slice A (l).length cp) (l)] w) (hl:l.length≤890000) (An:Option Addr) (cn:Nat) (ns:List Int) (hn:(Kd.int .i64).C B.e An ns) (hm:ns.length≤300) (k:Nat) (hk:1≤k∧k≤8) :
 CW 81 #[.pointer (some ⟨bw,0,none⟩),.int .i64 (k:Int),.slice An ns.length cn] w (Ret B (fun _:Option Addr×Nat=>True) (fun _=>.tuple #[]) (fun z=>[blk bw 128 [.slice z.1 (puts (fun n=>putL n k) l ns).length z.2],row (Kd.int .u8) W0 5 (.slice z.1 (puts (fun n=>putL n k) l ns).length z.2) (puts (fun n=>putL n k) l ns)])):=by
 refine ZX Tryz.func81 hS ?_
 refine Zh (Zi (Zo J (Zv J J (Zo J (Zn (Za (Zk (wLoop (ι:=Nat×Option Addr×Nat) (fun z=>[(0,.pointer (some ⟨bw,0,none⟩)),(1,.int .i64 (k:Int)),(8,.slice An ns.length cn),(9,.int .i64 (ns.length:Int)),(10,.int .i64 (z.1:Int))]) (fun z=>[blk bw 128 [.slice z.2.1 (puts (fun n=>putL n k) l (ns.take z.1)).length z.2.2],row (Kd.int .u8) W0 5 (.slice z.2.1 (puts (fun n=>putL n k) l (ns.take z.1)).length z.2.2) (puts (fun n=>putL n k) l (ns.take z.1))]) (fun z=>z.1≤ns.length) (fun z=>ns.length-z.1) (0,A,cp) ?_ cv (Leads.has ZQ) ?_))))))))
 exact Nat.zero_le _
 rintro ⟨i,A1,c1⟩ hi
 dsimp only at hi
 have hll:=puts_le (q:=fun n=>putL n k) (X:=l) (c:=8) i (fun y _=>by rw [putL_len];exact hk.2) hm
 try dsimp only
 refine Zh (Zi (Zx J J (Zn (Za (Zh (wC (fun h11=>?_) (fun h11=>?_)))))))
 refine Zj (Za (Zh (Zk (Zh (Zi (oIdx J J (hn) J ZO J J (fun e12 u12 cs12 hu12 hk12 hc12=>?_)))))))
 obtain rfl:=hk12
 refine Zlx hc12 ?_
 refine Zp J (Zn (Za (Zi (Zo J (Zo J (Z3 J (Zz (n:=0) (m:=0) J J J (Zld ?_))))))))
 refine Zo J (Zo J ?_)
 (refine ZD J (fun w B' hB hR hS'=>octet_Put hS' A1 c1 _ (row_Cs (hR _ _ ZP)) ZO u12 k hk W0) ?_;rintro ⟨A21,c21⟩ -)
 refine Z3 J (Zz (n:=0) (m:=0) J J J (Zst ?_))
 refine Zn (Zze ?_)
 refine Zo J (Zn (Za ?_))
 have e1:=puts_next (q:=fun n=>putL n k) (X:=l) hu12
 exact ⟨rfl,(i+1,A21,c21),by show i+1≤ns.length;omega,by show ns.length-(i+1)<ns.length-i;omega,by dsimp only;exact cv,by dsimp only;rw [e1];exact Lh⟩
 obtain rfl:i=ns.length:=by omega
 rw [List.take_length] at *
 refine Zm (Zb (Zb (Ze (fin_n ?_))))
 refine ⟨rfl,_,ResL.nil,?_⟩
 exact ⟨(A1,c1),trivial,rfl,Lh⟩
theorem puts_one (k:Nat) (X:List Int) (ns:List Int):(puts (fun n=>putL n k) X ns).length=X.length+ns.length * k:=by
 rw [puts_eq,List.length_append]
 congr 1
 induction ns with
 | nil=>simp
 | cons n ns ih=>rw [List.flatMap_cons,List.length_append,putL_len,ih,List.length_cons,Nat.succ_mul];omega
theorem fun_Put {B:Base}{w:World}(hS:St B [] w) (A:Option Addr) (cp:Nat) (l:List Int) (hC:(Kd.int .u8).C B.e A l) (hl:l.length≤800000) (f:ApiFunc) (fc:List Value) (hf:kApiFunc.K B.e f fc) (hs:SmlF f) (W0:World) :
 CW 40 #[.slice A l.length cp,.agg fc.toArray] w (Ret B (fun _:Option Addr×Nat=>True) (fun z=>.slice z.1 (l++funP f).length z.2) (fun z=>[row (Kd.int .u8) W0 5 (.slice z.1 (l++funP f).length z.2) (l++funP f)])):=by
 obtain ⟨A0,c0,A1,c1,A2,c2,A3,c3,rfl,l0,g0,l1,g1,l2,g2,l3,g3⟩:=kApiFunc_open hf
 obtain ⟨hs1,hs2,hs3,hs4⟩:=hs
 refine ZX Tryz.func40 hS ?_
 refine Zh (Zi (oBox J ZP (fun b3=>?_)))
 refine Zp J (Zn (Za (Zh (Zi (oBuildSlice0 (Kd.int .u8) W0 J (fun b12=>?_))))))
 refine Zo J ?_
 refine oAppA (ys:=l) J J J J ZP J (fun w hw=>src_Cs hC (Base.grow hw.ok)) (by simp;omega) J (fun A14 c14 hc14=>?_)
 rw [show ([]:List Int).length+l.length=l.length by simp,show ([]++l:List Int)=l from rfl]
 refine oBuild (Parts.cons J Parts.nil) J J (Built.cons (off:=0) (s:=1) J ZP J ZP Built.nil) ?_
 refine oBox J ZP (fun b16=>?_)
 refine Zp J (Zn (Za (Zh (Zi (Zo J (Zz (n:=0) (m:=0) J J J (Zld ?_)))))))
 refine Zz (n:=1) (m:=1) J J J (Zld ?_)
 refine Zv J J ?_
 refine oBuildSliceF (Parts.cons J (Parts.cons J Parts.nil)) J J J J J (Fulls.cons ZP J (Fulls.cons ZP J Fulls.nil ap) ap) (fun b23=>?_)
 (refine ZC0 rfl ZK (fun w hS=>frame' hS ZQ (fun B' hB hR hS'=>fun_wput b16 A14 c14 l W0 hS' ZO (An:=some ⟨b23,0,none⟩) (cn:=2) (ns:=[f.fClass,(f.fKinds.length:Int)]) (C_blk (b:=b23) (hR _ _ ZP) (by simp) (cat_scalar.2 rfl)) (by decide:2≤300) 1 (by decide))) ?_;rintro ⟨B1,k1⟩ -)
 obtain ⟨X1,eX1⟩:∃ X,X=puts (fun n=>putL n 1) l [f.fClass,(f.fKinds.length:Int)]:=⟨_,rfl⟩
 rw [← eX1]
 have hX1:X1.length≤800002:=by rw [eX1,puts_one];first | omega | (simp only [List.length_append,putL_len,List.length_cons,List.length_nil];omega)
 refine Zn (Za (Zh (Zi (Zo J (Zz (n:=1) (m:=1) J J J (Zld ?_))))))
 (refine ZC0 rfl ZK (fun w hS=>frame' hS ZQ (fun B' hB hR hS'=>fun_wput b16 B1 k1 X1 W0 hS' ZO (An:=A0) (cn:=c0) (ns:=f.fKinds) (Kd.C_grow hB g0) hs1 1 (by decide))) ?_;rintro ⟨B2,k2⟩ -)
 obtain ⟨X2,eX2⟩:∃ X,X=puts (fun n=>putL n 1) X1 f.fKinds:=⟨_,rfl⟩
 rw [← eX2]
 have hX2:X2.length≤800302:=by rw [eX2,puts_one];first | omega | (simp only [List.length_append,putL_len,List.length_cons,List.length_nil];omega)
 refine Zn (Za (Zh (Zi (Zo J (Zz (n:=2) (m:=2) J J J (Zld ?_))))))
 refine oBuildSlice1 J J J J J ZP J (fun b32=>?_)
 (refine ZC0 rfl ZK (fun w hS=>frame' hS ZQ (fun B' hB hR hS'=>fun_wput b16 B2 k2 X2 W0 hS' ZO (An:=some ⟨b32,0,none⟩) (cn:=1) (ns:=[f.fPad]) (C_blk (b:=b32) (hR _ _ ZP) (by simp) (cat_scalar.2 rfl)) (by decide:1≤300) 2 (by decide))) ?_;rintro ⟨B3,k3⟩ -)
 obtain ⟨X3,eX3⟩:∃ X,X=puts (fun n=>putL n 2) X2 [f.fPad]:=⟨_,rfl⟩
 rw [← eX3]
 have hX3:X3.length≤800304:=by rw [eX3,puts_one];first | omega | (simp only [List.length_append,putL_len,List.length_cons,List.length_nil];omega)
 refine Zn (Za (Zh (wDrawG J [0,1,2,4,5,6,7,8,9,10] [(3,[0,4,5,6,7,8,9,10],[]),(11,[0],[]),(12,[],[])] [] 24 ZK J J (fun w0=>?_))))
 refine Zo J (Zz (n:=3) (m:=3) J J J (Zld ?_))
 refine Zz (n:=4) (m:=4) J J J (Zld ?_)
 refine Zz (n:=5) (m:=5) J J J (Zld ?_)
 refine Zz (n:=6) (m:=6) J J J (Zld ?_)
 refine Zv J J (Z4 (Z5 J ?_))
 (refine ZC0 rfl ZK (fun w hS=>frame hS ZQ (fun B' hB hS'=>fun_flag hS' f.fNosplit)) ?_;rintro ⟨⟩ -)
 refine ZG ?_ J (fun w0=>?_)
 refine Z8 J J J J (fun w0=>?_) ?_
 refine Zo J ?_
 exact Z9 rfl
 refine Z8 J J J J (fun w0=>?_) ?_
 refine Zz (n:=4) (m:=4) J J J ?_
 exact Z9 rfl
 refine Z8 J J J J (fun w0=>?_) ?_
 refine Zld ?_
 exact Z9 rfl
 refine Z8 J J J J (fun w0=>?_) ?_
 refine Zz (n:=5) (m:=5) J J J ?_
 exact Z9 rfl
 refine Z8 J J J J (fun w0=>?_) ?_
 refine Zld ?_
 exact Z9 rfl
 refine Z8 J J J J (fun w0=>?_) ?_
 refine Zz (n:=6) (m:=6) J J J ?_
 exact Z9 rfl
 refine Z8 J J J J (fun w0=>?_) ?_
 refine Zld ?_
 exact Z9 rfl
 refine Z8 J J J J (fun w0=>?_) ?_
 refine Zv J J ?_
 exact Z9 rfl
 exact AgainG.nil
 refine Z4 (Z5 J ?_)
 refine oBuildSliceF (Parts.cons J (Parts.cons J (Parts.cons J (Parts.cons J Parts.nil)))) J J J J J (Fulls.cons ZP J (Fulls.cons ZP J (Fulls.cons ZP J (Fulls.cons ZP J Fulls.nil ap) ap) ap) ap) (fun b45=>?_)
 refine ZG ?_ J (fun w0=>?_)
 refine Z8 J J J J (fun w0=>?_) ?_
 refine Zo J ?_
 exact Z9 rfl
 exact AgainG.nil
 refine Z4 (Z5 J ?_)
 (refine ZC0 rfl ZK (fun w hS=>frame' hS ZQ (fun B' hB hR hS'=>fun_wput b16 B3 k3 X3 W0 hS' ZO (An:=some ⟨b45,0,none⟩) (cn:=4) (ns:=[flagN f.fNosplit,f.fFrom,f.fTo,(f.fLines.length:Int)]) (C_blk (b:=b45) (hR _ _ ZP) (by simp) (cat_scalar.2 rfl)) (by decide:4≤300) 1 (by decide))) ?_;rintro ⟨B4,k4⟩ -)
 obtain ⟨X4,eX4⟩:∃ X,X=puts (fun n=>putL n 1) X3 [flagN f.fNosplit,f.fFrom,f.fTo,(f.fLines.length:Int)]:=⟨_,rfl⟩
 rw [← eX4]
 have hX4:X4.length≤800308:=by rw [eX4,puts_one];first | omega | (simp only [List.length_append,putL_len,List.length_cons,List.length_nil];omega)
 refine ZG ?_ J (fun w0=>?_)
 exact AgainG.nil
 refine Z6 (Zn (Za (Zh (Zh (Zi (Zz (n:=6) (m:=6) J J J (Zld ?_)))))))
 refine Zv J J (Zo J (Zn (Za (Zk (wLoop (ι:=Nat×Option Addr×Nat) (fun z=>[(3,.pointer (some ⟨b3,0,none⟩)),(5,.pointer (some ⟨b16,0,none⟩)),(48,.slice A1 f.fLines.length c1),(49,.int .i64 (f.fLines.length:Int)),(50,.int .i64 (z.1:Int))]) (fun z=>[blk b3 51 [.int .i64 f.fClass,.slice A0 f.fKinds.length c0,.int .i64 f.fPad,.bool f.fNosplit,.int .i64 f.fFrom,.int .i64 f.fTo,.slice A1 f.fLines.length c1,.slice A2 f.fCode.length c2,.slice A3 f.fRelocs.length c3],row (Kd.int .u8) W0 5 (.slice z.2.1 (puts linP X4 (f.fLines.take z.1)).length z.2.2) (puts linP X4 (f.fLines.take z.1)),blk b16 128 [.slice z.2.1 (puts linP X4 (f.fLines.take z.1)).length z.2.2]]) (fun z=>z.1≤f.fLines.length) (fun z=>f.fLines.length-z.1) (0,B4,k4) ?_ cv (Leads.has ZQ) ?_)))))
 exact Nat.zero_le _
 rintro ⟨i,A5,c5⟩ hii
 dsimp only at hii
 have hlli:=puts_le (q:=linP) (X:=X4) (c:=3) i (fun y _=>Nat.le_of_eq (linP_len y)) hs2
 try dsimp only
 refine Zh (Zi (Zx J J (Zn (Za (Zh (wC (fun h51=>?_) (fun h51=>?_)))))))
 refine Zj (Za (Zh (Zk (Zh (Zi (oIdx J J (g1) J ZO J J (fun e52 u52 cs52 hu52 hk52 hc52=>?_)))))))
 obtain rfl:=kApiLine_open hk52
 refine Zlx hc52 ?_
 refine oAlloc J ZP (fun b7=>?_)
 refine Zsa ?_
 refine Zn (Za (Zh (Zi (Zo J (Zz (n:=0) (m:=0) J J J (Zld ?_))))))
 refine oBuildSlice1 J J J J J ZP J (fun b57=>?_)
 (refine ZC0 rfl ZK (fun w hS=>frame' hS ZQ (fun B' hB hR hS'=>fun_wput b16 A5 c5 _ W0 hS' ZO (An:=some ⟨b57,0,none⟩) (cn:=1) (ns:=[u52.fAt]) (C_blk (b:=b57) (hR _ _ ZP) (by simp) (cat_scalar.2 rfl)) (by decide:1≤300) 1 (by decide))) ?_;rintro ⟨B5,k5⟩ -)
 refine Zn (Za (Zi (Zo J (Zz (n:=1) (m:=1) J J J (Zld ?_)))))
 refine oBuildSlice1 J J J J J ZP J (fun b62=>?_)
 (refine ZC0 rfl ZK (fun w hS=>frame' hS ZQ (fun B' hB hR hS'=>fun_wput b16 B5 k5 _ W0 hS' (by rw [puts_one];simp only [List.length_cons,List.length_nil];omega) (An:=some ⟨b62,0,none⟩) (cn:=1) (ns:=[u52.fLine]) (C_blk (b:=b62) (hR _ _ ZP) (by simp) (cat_scalar.2 rfl)) (by decide:1≤300) 2 (by decide))) ?_;rintro ⟨B6,k6⟩ -)
 refine Zn (Zze ?_)
 refine Zo J (Zn (Za ?_))
 have e1:puts linP X4 (f.fLines.take (i+1))=puts (fun n=>putL n 2) (puts (fun n=>putL n 1) (puts linP X4 (f.fLines.take i)) [u52.fAt]) [u52.fLine]:=by rw [puts_next hu52];unfold linP;rw [← List.append_assoc];rfl
 exact ⟨rfl,(i+1,B6,k6),by show i+1≤f.fLines.length;omega,by show f.fLines.length-(i+1)<f.fLines.length-i;omega,by dsimp only;first | exact cv | (rw [e1];exact cv),by dsimp only;rw [e1];exact Lh⟩
 obtain rfl:i=f.fLines.length:=by omega
 rw [List.take_length] at *
 have hY4:=puts_all (q:=linP) (X:=X4) (c:=3) (fun y _=>Nat.le_of_eq (linP_len y)) hs2
 refine Zm (Zb (Zb (Ze (Za (Zh (Zi (Zo J (Zz (n:=7) (m:=7) J J J (Zld ?_)))))))))
 refine Zv J J (oBuildSlice1 J J J J J ZP J (fun b69=>?_))
 (refine ZC0 rfl ZK (fun w hS=>frame' hS ZQ (fun B' hB hR hS'=>fun_wput b16 A5 c5 _ W0 hS' ZO (An:=some ⟨b69,0,none⟩) (cn:=1) (ns:=[(f.fCode.length:Int)]) (C_blk (b:=b69) (hR _ _ ZP) (by simp) (cat_scalar.2 rfl)) (by decide:1≤300) 1 (by decide))) ?_;rintro ⟨B7,k7⟩ -)
 obtain ⟨X5,eX5⟩:∃ X,X=puts (fun n=>putL n 1) (puts linP X4 f.fLines) [(f.fCode.length:Int)]:=⟨_,rfl⟩
 rw [← eX5]
 have hX5:X5.length≤801300:=by rw [eX5,puts_one];first | omega | (simp only [List.length_append,putL_len,List.length_cons,List.length_nil];omega)
 refine Zn (Za (Zh (Zh (Zi (Zz (n:=7) (m:=7) J J J (Zld ?_))))))
 refine Zv J J (Zo J (Zn (Za (Zk (wLoop (ι:=Nat×Option Addr×Nat) (fun z=>[(3,.pointer (some ⟨b3,0,none⟩)),(5,.pointer (some ⟨b16,0,none⟩)),(72,.slice A2 f.fCode.length c2),(73,.int .i64 (f.fCode.length:Int)),(74,.int .i64 (z.1:Int))]) (fun z=>[blk b3 51 [.int .i64 f.fClass,.slice A0 f.fKinds.length c0,.int .i64 f.fPad,.bool f.fNosplit,.int .i64 f.fFrom,.int .i64 f.fTo,.slice A1 f.fLines.length c1,.slice A2 f.fCode.length c2,.slice A3 f.fRelocs.length c3],row (Kd.int .u8) W0 5 (.slice z.2.1 (puts insP X5 (f.fCode.take z.1)).length z.2.2) (puts insP X5 (f.fCode.take z.1)),blk b16 128 [.slice z.2.1 (puts insP X5 (f.fCode.take z.1)).length z.2.2]]) (fun z=>z.1≤f.fCode.length) (fun z=>f.fCode.length-z.1) (0,B7,k7) ?_ cv (Leads.has ZQ) ?_)))))
 exact Nat.zero_le _
 rintro ⟨j,A6,c6⟩ hij
 dsimp only at hij
 have hllj:=puts_le (q:=insP) (X:=X5) (c:=8) j (fun y _=>Nat.le_of_eq (insP_len y)) hs3
 try dsimp only
 refine Zh (Zi (Zx J J (Zn (Za (Zh (wC (fun h75=>?_) (fun h75=>?_)))))))
 refine Zj (Za (Zh (Zk (Zh (Zi (oIdx J J (g2) J ZO J J (fun e76 u76 cs76 hu76 hk76 hc76=>?_)))))))
 obtain rfl:=kApiInstr_open hk76
 refine Zlx hc76 ?_
 refine oAlloc J ZP (fun b9=>?_)
 refine Zsa ?_
 refine Zn (Za (wDrawG J [0,1,2,3,4,5] [(6,[0],[])] [7,8,9] 24 ZK J J (fun w0=>?_)))
 refine Zo J (Zo J (Z3 J (Zz (n:=0) (m:=0) J J J (Zld ?_))))
 refine Zla ?_
 refine Z4 (Z5 J ?_)
 (refine ZD J (fun w B' hB hR hS'=>instr_Put hS' A6 c6 _ (row_Cs (hR _ _ ZP)) ZO u76 _ (kApiInstr_mk _ u76) W0) ?_;rintro ⟨A84,c84⟩ -)
 refine ZG ?_ J (fun w0=>?_)
 refine Z8 J J J J (fun w0=>?_) ?_
 refine Zo J ?_
 exact Z9 rfl
 exact AgainG.nil
 refine Z6 (Z3 J (Zz (n:=0) (m:=0) J J J (Zst ?_)))
 refine Zn (Zze ?_)
 refine Zo J (Zn (Za ?_))
 have e1:=puts_next (q:=insP) (X:=X5) hu76
 exact ⟨rfl,(j+1,A84,c84),by show j+1≤f.fCode.length;omega,by show f.fCode.length-(j+1)<f.fCode.length-j;omega,by dsimp only;first | exact cv | (rw [e1];exact cv),by dsimp only;rw [e1];exact Lh⟩
 obtain rfl:j=f.fCode.length:=by omega
 rw [List.take_length] at *
 have hY5:=puts_all (q:=insP) (X:=X5) (c:=8) (fun y _=>Nat.le_of_eq (insP_len y)) hs3
 refine Zm (Zb (Zb (Ze (Za (Zh (Zi (Zo J (Zz (n:=8) (m:=8) J J J (Zld ?_)))))))))
 refine Zv J J (oBuildSlice1 J J J J J ZP J (fun b92=>?_))
 (refine ZC0 rfl ZK (fun w hS=>frame' hS ZQ (fun B' hB hR hS'=>fun_wput b16 A6 c6 _ W0 hS' ZO (An:=some ⟨b92,0,none⟩) (cn:=1) (ns:=[(f.fRelocs.length:Int)]) (C_blk (b:=b92) (hR _ _ ZP) (by simp) (cat_scalar.2 rfl)) (by decide:1≤300) 1 (by decide))) ?_;rintro ⟨B8,k8⟩ -)
 obtain ⟨X6,eX6⟩:∃ X,X=puts (fun n=>putL n 1) (puts insP X5 f.fCode) [(f.fRelocs.length:Int)]:=⟨_,rfl⟩
 rw [← eX6]
 have hX6:X6.length≤803800:=by rw [eX6,puts_one];first | omega | (simp only [List.length_append,putL_len,List.length_cons,List.length_nil];omega)
 refine Zn (Za (Zh (Zh (Zi (Zz (n:=8) (m:=8) J J J (Zld ?_))))))
 refine Zv J J (Zo J (Zn (Za (Zk (wLoop (ι:=Nat×Option Addr×Nat) (fun z=>[(3,.pointer (some ⟨b3,0,none⟩)),(5,.pointer (some ⟨b16,0,none⟩)),(95,.slice A3 f.fRelocs.length c3),(96,.int .i64 (f.fRelocs.length:Int)),(97,.int .i64 (z.1:Int))]) (fun z=>[blk b3 51 [.int .i64 f.fClass,.slice A0 f.fKinds.length c0,.int .i64 f.fPad,.bool f.fNosplit,.int .i64 f.fFrom,.int .i64 f.fTo,.slice A1 f.fLines.length c1,.slice A2 f.fCode.length c2,.slice A3 f.fRelocs.length c3],row (Kd.int .u8) W0 5 (.slice z.2.1 (puts relP X6 (f.fRelocs.take z.1)).length z.2.2) (puts relP X6 (f.fRelocs.take z.1)),blk b16 128 [.slice z.2.1 (puts relP X6 (f.fRelocs.take z.1)).length z.2.2]]) (fun z=>z.1≤f.fRelocs.length) (fun z=>f.fRelocs.length-z.1) (0,B8,k8) ?_ cv (Leads.has ZQ) ?_)))))
 exact Nat.zero_le _
 rintro ⟨m,A7,c7⟩ him
 dsimp only at him
 have hllm:=puts_le (q:=relP) (X:=X6) (c:=3) m (fun y _=>Nat.le_of_eq (relP_len y)) hs4
 try dsimp only
 refine Zh (Zi (Zx J J (Zn (Za (Zh (wC (fun h98=>?_) (fun h98=>?_)))))))
 refine Zj (Za (Zh (Zk (Zh (Zi (oIdx J J (g3) J ZO J J (fun e99 u99 cs99 hu99 hk99 hc99=>?_)))))))
 obtain rfl:=kApiReloc_open hk99
 refine Zlx hc99 ?_
 refine oAlloc J ZP (fun b11=>?_)
 refine Zsa ?_
 refine Zn (Za (wDrawG J [0,1,2,3,4,5,6] [(7,[0,1,2,3,4],[]),(8,[0],[]),(9,[],[])] [] 24 ZK J J (fun w0=>?_)))
 refine Zo J (Zz (n:=0) (m:=0) J J J (Zld ?_))
 refine Zz (n:=1) (m:=1) J J J (Zld ?_)
 refine Zz (n:=2) (m:=2) J J J (Zld ?_)
 refine Z4 (Z5 J ?_)
 (refine ZC0 rfl ZK (fun w hS=>frame hS ZQ (fun B' hB hS'=>fun_flag hS' u99.fWide)) ?_;rintro ⟨⟩ -)
 refine ZG ?_ J (fun w0=>?_)
 refine Z8 J J J J (fun w0=>?_) ?_
 refine Zo J ?_
 exact Z9 rfl
 refine Z8 J J J J (fun w0=>?_) ?_
 refine Zz (n:=0) (m:=0) J J J ?_
 exact Z9 rfl
 refine Z8 J J J J (fun w0=>?_) ?_
 refine Zld ?_
 exact Z9 rfl
 refine Z8 J J J J (fun w0=>?_) ?_
 refine Zz (n:=1) (m:=1) J J J ?_
 exact Z9 rfl
 refine Z8 J J J J (fun w0=>?_) ?_
 refine Zld ?_
 exact Z9 rfl
 exact AgainG.nil
 refine Z4 (Z5 J ?_)
 refine oBuildSliceF (Parts.cons J (Parts.cons J (Parts.cons J Parts.nil))) J J J J J (Fulls.cons ZP J (Fulls.cons ZP J (Fulls.cons ZP J Fulls.nil ap) ap) ap) (fun b109=>?_)
 refine ZG ?_ J (fun w0=>?_)
 refine Z8 J J J J (fun w0=>?_) ?_
 refine Zo J ?_
 exact Z9 rfl
 exact AgainG.nil
 refine Z4 (Z5 J ?_)
 (refine ZC0 rfl ZK (fun w hS=>frame' hS ZQ (fun B' hB hR hS'=>fun_wput b16 A7 c7 _ W0 hS' ZO (An:=some ⟨b109,0,none⟩) (cn:=3) (ns:=[u99.fAt,u99.fSym,flagN u99.fWide]) (C_blk (b:=b109) (hR _ _ ZP) (by simp) (cat_scalar.2 rfl)) (by decide:3≤300) 1 (by decide))) ?_;rintro ⟨B9,k9⟩ -)
 refine ZG ?_ J (fun w0=>?_)
 exact AgainG.nil
 refine Z6 (Zn (Zze ?_))
 refine Zo J (Zn (Za ?_))
 have e1:puts relP X6 (f.fRelocs.take (m+1))=puts (fun n=>putL n 1) (puts relP X6 (f.fRelocs.take m)) [u99.fAt,u99.fSym,flagN u99.fWide]:=by rw [puts_next hu99];unfold relP;rw [← List.append_assoc,← List.append_assoc];rfl
 exact ⟨rfl,(m+1,B9,k9),by show m+1≤f.fRelocs.length;omega,by show f.fRelocs.length-(m+1)<f.fRelocs.length-m;omega,by dsimp only;first | exact cv | (rw [e1];exact cv),by dsimp only;rw [e1];exact Lh⟩
 obtain rfl:m=f.fRelocs.length:=by omega
 rw [List.take_length] at *
 have eE:puts relP X6 f.fRelocs=l++funP f:=by rw [puts_eq,eX6,puts_eq,puts_eq,eX5,puts_eq,puts_eq,eX4,puts_eq,eX3,puts_eq,eX2,puts_eq,eX1,puts_eq];unfold funP lstP;simp only [List.append_assoc,List.flatMap_cons,List.flatMap_nil,List.append_nil]
 rw [eE]
 refine Zm (Zb (Zb (Ze (Za (Zh (Zi (Zo J (Z3 J (Zz (n:=0) (m:=0) J J J (Zld ?_))))))))))
 refine Zp J (Zza ?_)
 exact ⟨(A7,c7),trivial,rfl,Lh⟩
theorem txtP_byts (s:ByteArray):Byts (txtP s):=(putL_byts _ _).app ((txtL_byts s).take _)
theorem flat_byts {α:Type}{q:α→List Int}(h:∀ x,Byts (q x)) (xs:List α):Byts (xs.flatMap q):=fun v hv=>by
 obtain ⟨x,_,hx⟩:=List.mem_flatMap.1 hv
 exact h x v hx
theorem lstP_byts {α:Type}{q:α→List Int}(h:∀ x,Byts (q x)) (xs:List α):Byts (lstP q xs):=(putL_byts _ _).app (flat_byts h xs)
theorem symP_byts (x:ApiSymbol):Byts (symP x):=(txtP_byts _).app ((putL_byts _ _).app ((putL_byts _ _).app ((putL_byts _ _).app (putL_byts _ _))))
theorem insP_byts (x:ApiInstr):Byts (insP x):=(putL_byts _ _).app ((putL_byts _ _).app ((putL_byts _ _).app ((putL_byts _ _).app (putL_byts _ _))))
theorem linP_byts (x:ApiLine):Byts (linP x):=(putL_byts _ _).app (putL_byts _ _)
theorem relP_byts (x:ApiReloc):Byts (relP x):=(putL_byts _ _).app ((putL_byts _ _).app (putL_byts _ _))
theorem funP_byts (f:ApiFunc):Byts (funP f):=(putL_byts _ _).app ((lstP_byts (fun n=>putL_byts n 1) _).app ((putL_byts _ _).app ((putL_byts _ _).app ((putL_byts _ _).app ((putL_byts _ _).app ((lstP_byts linP_byts _).app ((lstP_byts insP_byts _).app (lstP_byts relP_byts _))))))))
theorem datP_byts (d:ApiData):Byts (datP d):=(putL_byts _ _).app ((lstP_byts (fun n=>putL_byts n 8) _).app (lstP_byts relP_byts _))
theorem innP_byts (o:ApiObject):Byts (innP o):=(show Byts magicL by unfold magicL;intro v hv;simp at hv;omega).app ((lstP_byts symP_byts _).app ((lstP_byts funP_byts _).app (lstP_byts datP_byts _)))
theorem objP_byts (o:ApiObject):Byts (objP o):=(innP_byts o).app (putL_byts _ _)
theorem innP_len {o:ApiObject}(hs:SmlO o):(innP o).length≤200000:=by
 unfold innP magicL
 have h1:=lstP_len (q:=symP) (xs:=o.fSymbols) (c:=260) (fun y _=>symP_len y) hs.syms
 have h2:=lstP_len (q:=funP) (xs:=o.fFuncs) (c:=4600) (fun y hy=>funP_len (hs.fun_ y hy)) hs.funs
 have h3:=lstP_len (q:=datP) (xs:=o.fDatas) (c:=3400) (fun y hy=>datP_len (hs.dat_ y hy)) hs.dats
 simp only [List.length_append,List.length_cons,List.length_nil]
 omega
theorem objP_len {o:ApiObject}(hs:SmlO o):(objP o).length≤200004:=by
 have:=innP_len hs
 unfold objP sealP
 rw [List.length_append,putL_len];omega
def symN (x:ApiSymbol):List Int:=[flagN x.fLocal,x.fSort,x.fKind,x.fDef]
theorem symN_get (x:ApiSymbol) {i:Nat}(h:i<4):(symN x)[i]?=some ((symN x).getD i 0):=by
 rw [List.getD_eq_getElem?_getD,List.getElem?_eq_getElem (show i<(symN x).length from h)];rfl
theorem symN_at (x:ApiSymbol) {i:Nat}(h:i<4):((symN x).map (Value.int .i64))[i]?=some (.int .i64 ((symN x).getD i 0)):=by
 rw [List.getElem?_map,symN_get x h];rfl
theorem symP_N (X:List Int) (x:ApiSymbol):puts (fun n=>putL n 1) (X++txtP x.fName) (symN x)=X++symP x:=by
 rw [puts_eq]
 unfold symP symN
 simp only [List.append_assoc,List.flatMap_cons,List.flatMap_nil,List.append_nil]
theorem file_Put {B:Base}{w:World}(hS:St B [] w) (o:ApiObject) (oc:List Value) (ho:kApiObject.K B.e o oc) (hs:SmlO o) (hv:vApiObject o) (W0:World) :
 CW 15 #[.agg oc.toArray] w (Ret B (fun _:Option Addr×Nat=>True) (fun z=>.slice z.1 (objP o).length z.2) (fun z=>[row (Kd.int .u8) W0 5 (.slice z.1 (objP o).length z.2) (objP o)])):=by
 obtain ⟨A0,c0,A1,c1,A2,c2,rfl,m0,q0,m1,q1,m2,q2⟩:=kApiObject_open ho
 have hs1:=hs.syms
 have hs2:=hs.funs
 have hs3:=hs.dats
 refine ZX Tryz.func15 hS ?_
 refine Zh (Zi (oBox J ZP (fun b1=>?_)))
 refine Zp J (Zn (Za (Zh (Zi ?_))))
 refine oBuildSliceF (Parts.cons J (Parts.cons J (Parts.cons J (Parts.cons J Parts.nil)))) J J J J J (Fulls.cons ZP J (Fulls.cons ZP J (Fulls.cons ZP J (Fulls.cons ZP J Fulls.nil ap) ap) ap) ap) (fun b12=>?_)
 refine oMark (xs:=magicL) J J J ZP J (by decide) ?_
 refine Zz (n:=0) (m:=0) J J J (Zld ?_)
 refine Zv J J ?_
 (refine ZD J (fun w B' hB hR hS'=>octet_Put hS' _ 4 magicL (rdr_C (hR _ _ ZP) hB) (by decide) (o.fSymbols.length:Int) 1 (by decide) W0) ?_;rintro ⟨B1,k1⟩ -)
 obtain ⟨X1,eX1⟩:∃ X,X=magicL++putL (o.fSymbols.length:Int) 1:=⟨_,rfl⟩
 rw [← eX1]
 have hX1:X1.length≤5:=by rw [eX1];first | omega | (simp only [magicL,List.length_append,putL_len,List.length_cons,List.length_nil];omega)
 refine Zp J (Zn (Za (Zh (Zh (Zi (Zz (n:=0) (m:=0) J J J (Zld ?_)))))))
 refine Zv J J (Zo J (Zn (Za (Zk (wLoop (ι:=Nat×Option Addr×Nat) (fun z=>[(3,.slice z.2.1 (puts symP X1 (o.fSymbols.take z.1)).length z.2.2),(1,.pointer (some ⟨b1,0,none⟩)),(19,.slice A0 o.fSymbols.length c0),(20,.int .i64 (o.fSymbols.length:Int)),(21,.int .i64 (z.1:Int))]) (fun z=>[blk b1 26 [.slice A0 o.fSymbols.length c0,.slice A1 o.fFuncs.length c1,.slice A2 o.fDatas.length c2],row (Kd.int .u8) W0 5 (.slice z.2.1 (puts symP X1 (o.fSymbols.take z.1)).length z.2.2) (puts symP X1 (o.fSymbols.take z.1))]) (fun z=>z.1≤o.fSymbols.length) (fun z=>o.fSymbols.length-z.1) (0,B1,k1) ?_ cv (Leads.has ZQ) ?_)))))
 exact Nat.zero_le _
 rintro ⟨i,D1,n1⟩ hii
 dsimp only at hii
 have hlli:=puts_le (q:=symP) (X:=X1) (c:=260) i (fun y _=>symP_len y) hs1
 try dsimp only
 refine Zh (Zi (Zx J J (Zn (Za (Zh (wC (fun h22=>?_) (fun h22=>?_)))))))
 refine Zj (Za (Zh (Zk (Zh (Zi (oIdx J J (q0) J ZO J J (fun e23 u23 cs23 hu23 hk23 hc23=>?_)))))))
 obtain rfl:=kApiSymbol_open hk23
 refine Zlx hc23 ?_
 refine oAlloc J ZP (fun b5=>?_)
 refine Zsa ?_
 refine Zn (Za (Zh (Zi (Zo J (Zz (n:=0) (m:=0) J J J (Zld ?_))))))
 (refine ZD J (fun w B' hB hR hS'=>octet_Text hS' D1 n1 _ (row_Cs (hR _ _ ZP)) ZO u23.fName (hv.1.2 _ (List.mem_of_getElem? hu23)).1 W0) ?_;rintro ⟨A28,c28⟩ -)
 refine Zp J (Zn (Za (Zh (wDrawG J [0,1,3,4,5,6,7,8,10] [(2,[3,4,5,6,7,8,10],[9])] [] 24 ZK J J (fun w0=>?_)))))
 refine Zz (n:=1) (m:=1) J J J (Zld ?_)
 refine Zz (n:=2) (m:=2) J J J (Zld ?_)
 refine Zz (n:=3) (m:=3) J J J (Zld ?_)
 refine Zz (n:=4) (m:=4) J J J (Zld ?_)
 refine Zo J (Z4 (Z5 J ?_))
 (refine ZC0 rfl ZK (fun w hS=>frame hS ZQ (fun B' hB hS'=>file_flag hS' u23.fLocal)) ?_;rintro ⟨⟩ -)
 refine ZG ?_ J (fun w0=>?_)
 refine Z8 J J J J (fun w0=>?_) ?_
 refine Zz (n:=2) (m:=2) J J J ?_
 exact Z9 rfl
 refine Z8 J J J J (fun w0=>?_) ?_
 refine Zld ?_
 exact Z9 rfl
 refine Z8 J J J J (fun w0=>?_) ?_
 refine Zz (n:=3) (m:=3) J J J ?_
 exact Z9 rfl
 refine Z8 J J J J (fun w0=>?_) ?_
 refine Zld ?_
 exact Z9 rfl
 refine Z8 J J J J (fun w0=>?_) ?_
 refine Zz (n:=4) (m:=4) J J J ?_
 exact Z9 rfl
 refine Z8 J J J J (fun w0=>?_) ?_
 refine Zld ?_
 exact Z9 rfl
 refine Z8 J J J J (fun w0=>?_) ?_
 refine Zo J ?_
 exact Z9 rfl
 exact AgainG.nil
 refine oBuildArr (Parts.cons J (Parts.cons J (Parts.cons J (Parts.cons J Parts.nil)))) J J (Built.cons (off:=0) (s:=1) J ZP J ZP (Built.cons (off:=1) (s:=1) J ZP J ZP (Built.cons (off:=2) (s:=1) J ZP J ZP (Built.cons (off:=3) (s:=1) J ZP J ZP Built.nil)))) ?_
 refine Z6 (Zn (Za (Zk (wLoop (ι:=Nat×Option Addr×Nat) (fun z=>[(3,.slice z.2.1 (puts (fun n=>putL n 1) (puts symP X1 (o.fSymbols.take i)++txtP u23.fName) ((symN u23).take z.1)).length z.2.2),(1,.pointer (some ⟨b1,0,none⟩)),(19,.slice A0 o.fSymbols.length c0),(20,.int .i64 (o.fSymbols.length:Int)),(21,.int .i64 (i:Int)),(38,.agg ((symN u23).map (Value.int .i64)).toArray),(39,.int .i64 (z.1:Int))]) (fun z=>[blk b1 26 [.slice A0 o.fSymbols.length c0,.slice A1 o.fFuncs.length c1,.slice A2 o.fDatas.length c2],row (Kd.int .u8) W0 5 (.slice z.2.1 (puts (fun n=>putL n 1) (puts symP X1 (o.fSymbols.take i)++txtP u23.fName) ((symN u23).take z.1)).length z.2.2) (puts (fun n=>putL n 1) (puts symP X1 (o.fSymbols.take i)++txtP u23.fName) ((symN u23).take z.1))]) (fun z=>z.1≤4) (fun z=>4-z.1) (0,A28,c28) ?_ cv (Leads.has ZQ) ?_))))
 exact Nat.zero_le _
 rintro ⟨j,D2,n2⟩ hj
 dsimp only at hj
 have htx:=txtP_le u23.fName
 have hlj:=puts_le (q:=(fun n=>putL n 1)) (X:=puts symP X1 (o.fSymbols.take i)++txtP u23.fName) (xs:=symN u23) (c:=1) (m:=4) j (fun y _=>Nat.le_of_eq (putL_len y 1)) (Nat.le_refl _)
 rw [List.length_append] at hlj
 try dsimp only
 refine Zh (Zi (Zx J J (Zn (Za (Zh (wC (fun h40=>?_) (fun h40=>?_)))))))
 refine Zj (Za (Zh (Zk (Zh (Zi (oIndexArr (i:=j) J J J J J ZO (symN_at u23 ZO) ?_))))))
 refine Zp J (Zn (Za (Zi (Zo J (Zo J ?_)))))
 (refine ZD J (fun w B' hB hR hS'=>octet_Put hS' D2 n2 _ (row_Cs (hR _ _ ZP)) ZO ((symN u23).getD j 0) 1 (by decide) W0) ?_;rintro ⟨A44,c44⟩ -)
 refine Zp J (Zn (Zze ?_))
 refine Zo J (Zn (Za ?_))
 have e1:puts (fun n=>putL n 1) (puts symP X1 (o.fSymbols.take i)++txtP u23.fName) ((symN u23).take (j+1))=puts (fun n=>putL n 1) (puts symP X1 (o.fSymbols.take i)++txtP u23.fName) ((symN u23).take j)++putL ((symN u23).getD j 0) 1:=puts_next (symN_get u23 ZO)
 exact ⟨rfl,(j+1,A44,c44),by show j+1≤4;omega,by show 4-(j+1)<4-j;omega,by dsimp only;rw [e1];exact cv,by dsimp only;rw [e1];exact Lh⟩
 obtain rfl:j=4:=by omega
 rw [show (symN u23).take 4=symN u23 from rfl]
 refine Zm (Zb (Zb (Ze (Zze ?_))))
 refine Zo J (Zn (Za ?_))
 have e1:=puts_next (q:=symP) (X:=X1) hu23
 rw [← symP_N] at e1
 exact ⟨rfl,(i+1,D2,n2),by show i+1≤o.fSymbols.length;omega,by show o.fSymbols.length-(i+1)<o.fSymbols.length-i;omega,by dsimp only;first | (rw [e1];exact cv) | exact cv,by dsimp only;rw [e1];exact Lh⟩
 obtain rfl:i=o.fSymbols.length:=by omega
 rw [List.take_length] at *
 have hY1:=puts_all (q:=symP) (X:=X1) (c:=260) (fun y _=>symP_len y) hs1
 refine Zm (Zb (Zb (Ze (Za (Zh (Zi (Zo J (Zz (n:=1) (m:=1) J J J (Zld ?_)))))))))
 refine Zv J J ?_
 (refine ZD J (fun w B' hB hR hS'=>octet_Put hS' D1 n1 _ (row_Cs (hR _ _ ZP)) ZO (o.fFuncs.length:Int) 1 (by decide) W0) ?_;rintro ⟨B2,k2⟩ -)
 obtain ⟨X2,eX2⟩:∃ X,X=puts symP X1 o.fSymbols++putL (o.fFuncs.length:Int) 1:=⟨_,rfl⟩
 rw [← eX2]
 have hX2:X2.length≤15606:=by rw [eX2];first | omega | (simp only [List.length_append,putL_len,List.length_cons,List.length_nil];omega)
 refine Zp J (Zn (Za (Zh (Zh (Zi (Zz (n:=1) (m:=1) J J J (Zld ?_)))))))
 refine Zv J J (Zo J (Zn (Za (Zk (wLoop (ι:=Nat×Option Addr×Nat) (fun z=>[(3,.slice z.2.1 (puts funP X2 (o.fFuncs.take z.1)).length z.2.2),(1,.pointer (some ⟨b1,0,none⟩)),(53,.slice A1 o.fFuncs.length c1),(54,.int .i64 (o.fFuncs.length:Int)),(55,.int .i64 (z.1:Int))]) (fun z=>[blk b1 26 [.slice A0 o.fSymbols.length c0,.slice A1 o.fFuncs.length c1,.slice A2 o.fDatas.length c2],row (Kd.int .u8) W0 5 (.slice z.2.1 (puts funP X2 (o.fFuncs.take z.1)).length z.2.2) (puts funP X2 (o.fFuncs.take z.1))]) (fun z=>z.1≤o.fFuncs.length) (fun z=>o.fFuncs.length-z.1) (0,B2,k2) ?_ cv (Leads.has ZQ) ?_)))))
 exact Nat.zero_le _
 rintro ⟨m,D3,n3⟩ him
 dsimp only at him
 have hllm:=puts_le (q:=funP) (X:=X2) (c:=4600) m (fun y hy=>funP_len (hs.fun_ y hy)) hs2
 try dsimp only
 refine Zh (Zi (Zx J J (Zn (Za (Zh (wC (fun h56=>?_) (fun h56=>?_)))))))
 refine Zj (Za (Zh (Zk (Zh (Zi (oIdx J J (q1) J ZO J J (fun e57 u57 cs57 hu57 hk57 hc57=>?_)))))))
 have hf57:=hk57
 obtain ⟨F0,d0,F1,d1,F2,d2,F3,d3,rfl,_⟩:=kApiFunc_open hk57
 refine Zlx hc57 ?_
 refine oAlloc J ZP (fun b9=>?_)
 refine Zsa ?_
 refine Zn (Za (Zi (Zo J (Zla ?_))))
 (refine ZD J (fun w B' hB hR hS'=>fun_Put hS' D3 n3 _ (row_Cs (hR _ _ ZP)) ZO u57 _ (kApiFunc.K_grow hB hf57) (hs.fun_ _ (List.mem_of_getElem? hu57)) W0) ?_;rintro ⟨A61,c61⟩ -)
 refine Zp J (Zn (Zze ?_))
 refine Zo J (Zn (Za ?_))
 have e1:=puts_next (q:=funP) (X:=X2) hu57
 exact ⟨rfl,(m+1,A61,c61),by show m+1≤o.fFuncs.length;omega,by show o.fFuncs.length-(m+1)<o.fFuncs.length-m;omega,by dsimp only;first | (rw [e1];exact cv) | exact cv,by dsimp only;rw [e1];exact Lh⟩
 obtain rfl:m=o.fFuncs.length:=by omega
 rw [List.take_length] at *
 have hY2:=puts_all (q:=funP) (X:=X2) (c:=4600) (fun y hy=>funP_len (hs.fun_ y hy)) hs2
 refine Zm (Zb (Zb (Ze (Za (Zh (Zi (Zo J (Zz (n:=2) (m:=2) J J J (Zld ?_)))))))))
 refine Zv J J ?_
 (refine ZD J (fun w B' hB hR hS'=>octet_Put hS' D3 n3 _ (row_Cs (hR _ _ ZP)) ZO (o.fDatas.length:Int) 1 (by decide) W0) ?_;rintro ⟨B3,k3⟩ -)
 obtain ⟨X3,eX3⟩:∃ X,X=puts funP X2 o.fFuncs++putL (o.fDatas.length:Int) 1:=⟨_,rfl⟩
 rw [← eX3]
 have hX3:X3.length≤107700:=by rw [eX3];first | omega | (simp only [List.length_append,putL_len,List.length_cons,List.length_nil];omega)
 refine Zp J (Zn (Za (Zh (Zh (Zi (Zz (n:=2) (m:=2) J J J (Zld ?_)))))))
 refine Zv J J (Zo J (Zn (Za (Zk (wLoop (ι:=Nat×Option Addr×Nat) (fun z=>[(3,.slice z.2.1 (puts datP X3 (o.fDatas.take z.1)).length z.2.2),(1,.pointer (some ⟨b1,0,none⟩)),(69,.slice A2 o.fDatas.length c2),(70,.int .i64 (o.fDatas.length:Int)),(71,.int .i64 (z.1:Int))]) (fun z=>[blk b1 26 [.slice A0 o.fSymbols.length c0,.slice A1 o.fFuncs.length c1,.slice A2 o.fDatas.length c2],row (Kd.int .u8) W0 5 (.slice z.2.1 (puts datP X3 (o.fDatas.take z.1)).length z.2.2) (puts datP X3 (o.fDatas.take z.1))]) (fun z=>z.1≤o.fDatas.length) (fun z=>o.fDatas.length-z.1) (0,B3,k3) ?_ cv (Leads.has ZQ) ?_)))))
 exact Nat.zero_le _
 rintro ⟨p,D4,n4⟩ hip
 dsimp only at hip
 have hllp:=puts_le (q:=datP) (X:=X3) (c:=3400) p (fun y hy=>datP_len (hs.dat_ y hy)) hs3
 try dsimp only
 refine Zh (Zi (Zx J J (Zn (Za (Zh (wC (fun h72=>?_) (fun h72=>?_)))))))
 refine Zj (Za (Zh (Zk (Zh (Zi (oIdx J J (q2) J ZO J J (fun e73 u73 cs73 hu73 hk73 hc73=>?_)))))))
 have hd73:=hk73
 obtain ⟨F0,d0,F1,d1,rfl,_⟩:=kApiData_open hk73
 refine Zlx hc73 ?_
 refine oAlloc J ZP (fun b11=>?_)
 refine Zsa ?_
 refine Zn (Za (Zi (Zo J (Zla ?_))))
 (refine ZD J (fun w B' hB hR hS'=>data_Put hS' D4 n4 _ (row_Cs (hR _ _ ZP)) ZO u73 _ (kApiData.K_grow hB hd73) (hs.dat_ _ (List.mem_of_getElem? hu73)) W0) ?_;rintro ⟨A77,c77⟩ -)
 refine Zp J (Zn (Zze ?_))
 refine Zo J (Zn (Za ?_))
 have e1:=puts_next (q:=datP) (X:=X3) hu73
 exact ⟨rfl,(p+1,A77,c77),by show p+1≤o.fDatas.length;omega,by show o.fDatas.length-(p+1)<o.fDatas.length-p;omega,by dsimp only;first | (rw [e1];exact cv) | exact cv,by dsimp only;rw [e1];exact Lh⟩
 obtain rfl:p=o.fDatas.length:=by omega
 rw [List.take_length] at *
 have eE:puts datP X3 o.fDatas=innP o:=by rw [puts_eq,eX3,puts_eq,eX2,puts_eq,eX1];unfold innP lstP;simp only [List.append_assoc]
 rw [eE]
 refine Zm (Zb (Zb (Ze (Za (Zzi ?_)))))
 (refine ZD J (fun w B' hB hR hS'=>sum_Seal hS' D4 n4 (innP o) (row_Cs (hR _ _ ZP)) (innP_byts o) (Nat.le_trans (innP_len hs) (by decide)) W0) ?_;rintro ⟨A80,c80⟩ -)
 refine Zp J (Zza ?_)
 exact ⟨(A80,c80),trivial,rfl,Lh⟩
theorem got_ok {α:Type}{l:List Int}{σ:Except Int (α×List Int)}{v:α}{s:Rs}(h:σ=.ok (v,l.drop s.1)) (hs:s.2=false) (hl:s.1≤l.length):Got l σ 0 v s:=by
 subst h;exact ⟨rfl,rfl,hs,rfl,hl⟩
theorem got_err {α:Type}{l:List Int}{σ:Except Int (α×List Int)}{v:α}{s:Rs}{e:Int}(h:σ=.error e) (he:e≠0):Got l σ e v s:=by
 subst h;exact ⟨rfl,he⟩
theorem got_inv {α:Type}{l:List Int}{σ:Except Int (α×List Int)}{v:α}{s:Rs}{e:Int}(h:Got l σ e v s):(e=0→σ=.ok (v,l.drop s.1)∧s.2=false∧s.1≤l.length)∧(e≠0→σ=.error e):=by
 unfold Got at h
 cases σ with
 | ok z=>
  obtain ⟨a,r⟩:=z
  obtain ⟨h1,h2,h3,h4,h5⟩:=h
  subst h2 h4
  exact ⟨fun _=>⟨rfl,h3,h5⟩,fun h=>absurd h1 h⟩
 | error x=>
  obtain ⟨h1,h2⟩:=h
  subst h1
  exact ⟨fun h=>absurd h h2,fun _=>rfl⟩
theorem rawN_le {l:List Int}{s s':Rs}{n:Int}{w:Nat}(h:(s',n)=rawN l s w) (hs:s.1≤l.length):s'.1≤l.length:=by
 unfold rawN at h
 split at h
 · obtain ⟨rfl,-⟩:=Prod.mk.inj h;exact hs
 · next k=>obtain ⟨rfl,-⟩:=Prod.mk.inj h;exact Nat.le_of_not_lt (fun h=>k (.inr h))
theorem rawS_le {l:List Int}{s s':Rs}{n:Int}{w:Nat}(h:(s',n)=rawS l s w) (hs:s.1≤l.length):s'.1≤l.length:=by
 unfold rawS at h
 split at h
 · obtain ⟨rfl,-⟩:=Prod.mk.inj h;exact hs
 · next k=>obtain ⟨rfl,-⟩:=Prod.mk.inj h;exact Nat.le_of_not_lt (fun h=>k (.inr h))
theorem rawT_le {l:List Int}(hb:Byts l) {s s':Rs}{v:ByteArray}{most:Nat}(h:(s',v)=rawT l s most) (hs:s.1≤l.length):s'.1≤l.length:=by
 unfold rawT at h
 have hi:=byte_in hb s.1
 split at h
 · obtain ⟨rfl,-⟩:=Prod.mk.inj h;exact hs
 · next k=>
   obtain ⟨rfl,-⟩:=Prod.mk.inj h
   have k3:¬ (l.length:Int)<(s.1:Int)+1+l.getD s.1 0:=fun h=>k (.inr (.inr (.inr h)))
   show s.1+1+(l.getD s.1 0).toNat≤l.length
   omega
theorem rawN_in {l:List Int}(hb:Byts l) {s s':Rs}{n:Int}(h:(s',n)=rawN l s 1):0≤n∧n<256:=by
  unfold rawN at h
  split at h
  · obtain ⟨-,rfl⟩:=Prod.mk.inj h;decide
  · next k=>
    obtain ⟨-,rfl⟩:=Prod.mk.inj h
    rw [num_one hb (by have : ¬ l.length < s.1 + 1 := fun h => k (.inr h)
                       omega)]
    exact byte_in hb _
def rawR (l:List Int) (w:Nat) (s:Rs):Nat→Rs×List Int
  | 0=>(s,[])
  | i+1=>((rawN l (rawR l w s i).1 w).1,(rawR l w s i).2++[(rawN l (rawR l w s i).1 w).2])
theorem rawR_len (l:List Int) (w:Nat) (s:Rs):∀ n,(rawR l w s n).2.length=n
 | 0=>rfl
 | n+1=>by show ((rawR l w s n).2++[_]).length=n+1;rw [List.length_append,rawR_len l w s n];rfl
theorem rawR_le {l:List Int}{w:Nat}{s:Rs}(hs:s.1≤l.length):∀ n,(rawR l w s n).1.1≤l.length
 | 0=>hs
 | n+1=>rawN_le (n:=(rawN l (rawR l w s n).1 w).2) rfl (rawR_le hs n)
theorem rep_snoc {α:Type}(p:Pr α):∀ (n:Nat) (r:List Int),repX p (n+1) r=bnd (repX p n) (fun xs=>bnd p fun x=>pur (xs++[x])) r
 | 0,r=>by
  show bnd p (fun x=>bnd (pur []) fun l=>pur (x :: l)) r=bnd p (fun x=>pur ([]++[x])) r
  rfl
 | n+1,r=>by
  have ih:=fun r=>rep_snoc p n r
  show bnd p (fun x=>bnd (repX p (n+1)) fun l=>pur (x :: l)) r=bnd (bnd p fun x=>bnd (repX p n) fun l=>pur (x :: l)) (fun xs=>bnd p fun x=>pur (xs++[x])) r
  rw [bnd_bnd]
  unfold bnd
  cases h:p r with
  | error e=>rfl
  | ok z=>
   obtain ⟨x,r1⟩:=z
   dsimp only
   rw [ih]
   unfold bnd
   cases h2:repX p n r1 with
   | error e=>rfl
   | ok z2=>
    obtain ⟨xs,r2⟩:=z2
    dsimp only [pur]
    cases h3:p r2 with
    | error e=>rfl
    | ok z3=>rfl
theorem rawR_law {l:List Int}{w:Nat}{p:Nat}(hp:p≤l.length):∀ n,((rawR l w (p,false) n).1.2=true→repX (numX w) n (l.drop p)=.error 5)∧((rawR l w (p,false) n).1.2=false→repX (numX w) n (l.drop p)=.ok ((rawR l w (p,false) n).2,l.drop (rawR l w (p,false) n).1.1))
 | 0=>⟨fun h=>(by cases h),fun _=>rfl⟩
 | n+1=>by
  obtain ⟨ih1,ih2⟩:=rawR_law (w:=w) hp n
  have hle:=rawR_le (l:=l) (w:=w) (s:=(p,false)) hp n
  rw [rep_snoc]
  show ((rawN l (rawR l w (p,false) n).1 w).1.2=true→bnd (repX (numX w) n) (fun xs=>bnd (numX w) fun x=>pur (xs++[x])) (l.drop p)=Except.error 5)∧((rawN l (rawR l w (p,false) n).1 w).1.2=false→bnd (repX (numX w) n) (fun xs=>bnd (numX w) fun x=>pur (xs++[x])) (l.drop p)=Except.ok ((rawR l w (p,false) n).2++[(rawN l (rawR l w (p,false) n).1 w).2],l.drop (rawN l (rawR l w (p,false) n).1 w).1.1))
  generalize rawR l w (p,false) n=y at *
  obtain ⟨⟨q,b⟩,ys⟩:=y
  cases b with
  | true=>
   have:=ih1 rfl
   rw [bnd_err this,rawN_bad]
   exact ⟨fun _=>rfl,fun h=>(by cases h)⟩
  | false=>
   have:=ih2 rfl
   rw [bnd_to this]
   rcases seqN (l:=l) (s':=(rawN l (q,false) w).1) (n:=(rawN l (q,false) w).2) (p:=q) (w:=w) rfl hle with ⟨p',e,hp',e1⟩ | ⟨e,e0,e1⟩
   · rw [e1,e]
     exact ⟨fun h=>(by cases h),fun _=>rfl⟩
   · rw [e1,e]
     exact ⟨fun _=>rfl,fun h=>(by cases h)⟩
def contX {α:Type}(acc:List α):Except Int (List α×List Int)→Except Int (List α×List Int)
  | .ok (xs,r)=>.ok (acc++xs,r)
  | .error e=>.error e
theorem cont_step {α:Type}{p:Pr α}{r r':List Int}{x:α}(acc:List α) (k:Nat) (h:p r=.ok (x,r')):contX acc (repX p (k+1) r)=contX (acc++[x]) (repX p k r'):=by
 show contX acc (bnd p (fun x=>bnd (repX p k) fun l=>pur (x :: l)) r)=_
 rw [bnd_to h]
 unfold bnd
 cases repX p k r' with
 | error e=>rfl
 | ok z=>obtain ⟨xs,r2⟩:=z;show Except.ok (acc++(x :: xs),r2)=Except.ok (acc++[x]++xs,r2);rw [List.append_assoc];rfl
theorem cont_err {α:Type}{p:Pr α}{r:List Int}{e:Int}(acc:List α) (k:Nat) (h:p r=.error e):contX acc (repX p (k+1) r)=.error e:=by
 show contX acc (bnd p (fun x=>bnd (repX p k) fun l=>pur (x :: l)) r)=_
 rw [bnd_err h];rfl
def ifR {α:Type}(l:List Int) (p:Pr α) (s:Rs):Except Int (α×List Int):=if s.2=true then .error 5 else p (l.drop s.1)
def LInv {α:Type}(p:Pr α) (l:List Int) (σ:Except Int (List α×List Int)) (s:Rs) (acc:List α) (i N:Nat):Prop:=
  s.1≤l.length∧i≤N∧((s.2=false∧σ=contX acc (repX p (N-i) (l.drop s.1)))∨(s.2=true∧σ=.error 5∧N=0))
theorem linv_start {α:Type}(p:Pr α) {l:List Int}{s s':Rs}{n:Int}(h:(s',n)=rawN l s 1) (hs:s.1≤l.length):LInv p l (ifR l (listX p) s) s' [] 0 n.toNat:=by
 refine ⟨rawN_le h hs,Nat.zero_le _,?_⟩
 obtain ⟨a,b⟩:=s
 cases b with
 | true=>
  obtain ⟨rfl,rfl⟩:=seqB h
  exact .inr ⟨rfl,rfl,rfl⟩
 | false=>
  rcases seqN h hs with ⟨p',rfl,hp',e1⟩ | ⟨rfl,rfl,e1⟩
  · refine .inl ⟨rfl,?_⟩
    show (if (false=true) then _ else listX p (l.drop a))=_
    rw [if_neg (by decide)]
    unfold listX
    rw [e1]
    show repX p n.toNat (l.drop p')=contX [] (repX p n.toNat (l.drop p'))
    cases repX p n.toNat (l.drop p') with
    | error e=>rfl
    | ok z=>rfl
  · refine .inr ⟨rfl,?_,rfl⟩
    show (if (false=true) then _ else listX p (l.drop a))=_
    rw [if_neg (by decide)]
    unfold listX
    rw [e1]
theorem linv_live {α:Type}{p:Pr α}{l:List Int}{σ:Except Int (List α×List Int)}{s:Rs}{acc:List α}{i N:Nat}(h:LInv p l σ s acc i N) (hi:i<N):s.2=false∧σ=contX acc (repX p (N-i-1+1) (l.drop s.1)):=by
 obtain ⟨h1,h2,h3 | h3⟩:=h
 · exact ⟨h3.1,by rw [show N-i-1+1=N-i by omega];exact h3.2⟩
 · omega
theorem linv_step {α:Type}{p:Pr α}{l:List Int}{σ:Except Int (List α×List Int)}{s s':Rs}{acc:List α}{i N:Nat}{x:α}(h:LInv p l σ s acc i N) (hi:i<N) (hx:p (l.drop s.1)=.ok (x,l.drop s'.1)) (hs:s'.2=false) (hl:s'.1≤l.length):LInv p l σ s' (acc++[x]) (i+1) N:=by
 obtain ⟨_,h2⟩:=linv_live h hi
 refine ⟨hl,hi,.inl ⟨hs,?_⟩⟩
 rw [h2,cont_step acc _ hx,show N-i-1=N-(i+1) by omega]
theorem linv_err {α:Type}{p:Pr α}{l:List Int}{σ:Except Int (List α×List Int)}{s:Rs}{acc:List α}{i N:Nat}{e:Int}(h:LInv p l σ s acc i N) (hi:i<N) (hx:p (l.drop s.1)=.error e):σ=.error e:=by
 obtain ⟨_,h2⟩:=linv_live h hi
 rw [h2,cont_err acc _ hx]
theorem linv_end {α:Type}{p:Pr α}{l:List Int}{σ:Except Int (List α×List Int)}{s:Rs}{acc:List α}{N:Nat}(h:LInv p l σ s acc N N):(s.2=false→σ=.ok (acc,l.drop s.1))∧(s.2=true→σ=.error 5):=by
 obtain ⟨h1,h2,h3 | h3⟩:=h
 · refine ⟨fun _=>?_,fun k=>(by rw [h3.1] at k;cases k)⟩
   rw [h3.2,Nat.sub_self]
   show Except.ok (acc++[],l.drop s.1)=_
   rw [List.append_nil]
 · exact ⟨fun k=>(by rw [h3.1] at k;cases k),fun _=>h3.2.1⟩
theorem sym_form {l:List Int}(hb:Byts l) {p:Nat}{s1 s2:Rs}{v:ByteArray}{n2:Int}(hp:p≤l.length) (h1:(s1,v)=rawT l (p,false) 255) (h2:(s2,n2)=rawN l s1 1) (k:1<n2):symX (l.drop p)=.error 3:=
 (sym_law hb hp h1 h2 (s3:=(rawN l s2 1).1) (n3:=(rawN l s2 1).2) rfl (s4:=(rawN l (rawN l s2 1).1 1).1) (n4:=(rawN l (rawN l s2 1).1 1).2) rfl (s5:=(rawS l (rawN l (rawN l s2 1).1 1).1 1).1) (n5:=(rawS l (rawN l (rawN l s2 1).1 1).1 1).2) rfl).1 k
theorem dat_law {l:List Int}(hb:Byts l) {p:Nat}(hp:p≤l.length) {s1 s2:Rs}{k n:Int}(h1:(s1,k)=rawN l (p,false) 1) (h2:(s2,n)=rawN l s1 1) :
 (∀ rs r,ifR l (listX relX) (rawR l 8 s2 n.toNat).1=.ok (rs,r)→datX (l.drop p)=.ok (⟨k,(rawR l 8 s2 n.toNat).2,rs⟩,r))∧(∀ e,ifR l (listX relX) (rawR l 8 s2 n.toNat).1=.error e→datX (l.drop p)=.error e):=by
 unfold datX
 have bad:∀ {q:Nat},(s2,n)=((q,true),0)→ifR l (listX relX) (rawR l 8 s2 n.toNat).1=.error 5:=by
  intro q h
  obtain ⟨rfl,rfl⟩:=Prod.mk.inj h
  rfl
 rcases seqN h1 hp with ⟨p1,rfl,hp1,e1⟩ | ⟨rfl,rfl,e1⟩
 · rw [e1]
   rcases seqN h2 hp1 with ⟨p2,rfl,hp2,e2⟩ | ⟨rfl,rfl,e2⟩
   · unfold listX
     rw [bnd_bnd,e2]
     obtain ⟨q1,q2⟩:=rawR_law (w:=8) hp2 n.toNat
     unfold ifR
     cases hb2:(rawR l 8 (p2,false) n.toNat).1.2 with
     | true=>
      rw [if_pos rfl,bnd_err (q1 hb2)]
      exact ⟨fun rs r h=>(by cases h),fun e h=>(by obtain rfl:=Except.error.inj h;rfl)⟩
     | false=>
      rw [if_neg (by decide),bnd_to (q2 hb2)]
      refine ⟨fun rs r h=>?_,fun e h=>?_⟩
      · exact bnd_to h
      · exact bnd_err h
   · rw [bad rfl]
     unfold listX
     rw [bnd_bnd,e2]
     exact ⟨fun rs r h=>(by cases h),fun e h=>(by obtain rfl:=Except.error.inj h;rfl)⟩
 · obtain ⟨rfl,rfl⟩:=seqB h2
   rw [bad rfl,e1]
   exact ⟨fun rs r h=>(by cases h),fun e h=>(by obtain rfl:=Except.error.inj h;rfl)⟩
end Go.Proofs.YtpmdhkjbhjgoaaaGreatD
namespace Go.Proofs.YtpmdhkjbhjgoaaaGreatK
open Go.RowKit
section
variable {c : Cx} {Q : Post} {E E' : Env} {D : List Deferred} {H : List Res} {P : Program} {ops : Array Oper} {a A : Act} {w w' w0 : World}
variable {ts : List Nat} {listed : Array Bool} {f : Nat}
def statT (ops:Array Oper) (ts:List Nat) (f:Nat):Bool:=
  plainB ops && Region.noSelect ops && ts.all (fun t=>Nat.blt t ops.size) && (List.range ops.size).all (fun i=>match ops[i]? with
    | some o => o.after.all (fun e => !(Region.binds .any e) || Nat.blt e.on i) && (ts.contains i || ((match o.guard with | none => true | some g => !(ts.contains g.1) && waitsP .any ops f i g.1) && (List.range ops.size).all (fun j => match ops[j]? with
        | some o'=>ts.contains j || ((Nat.beq i j || o'.dst != o.dst || o.dst.isNone) && (opTmps o).all (fun t=>o'.dst != some t || waitsP .any ops f i j))
        | none=>true)))
    | none=>true) && ts.all (fun t=>(List.range ops.size).all fun i=>ts.contains i || waitsP .any ops f t i)
theorem stat_opT (hB:statT ops ts f=true) {i:Nat}{o:Oper}(ho:ops[i]?=some o) (hit:i ∉ ts):(∀ g,o.guard=some g→g.1 ∉ ts∧waitsP .any ops f i g.1=true)∧(∀ j o',ops[j]?=some o'→j ∉ ts→j≠i→o.dst≠none→o'.dst≠o.dst)∧(∀ t ∈ opTmps o,∀ j o',ops[j]?=some o'→j ∉ ts→o'.dst=some t→waitsP .any ops f i j=true):=by
 simp only [statT,Bool.and_eq_true] at hB
 have hi:=(Array.getElem?_eq_some_iff.1 ho).1
 have h1:=List.all_eq_true.1 hB.1.2 i (List.mem_range.2 hi)
 rw [ho] at h1
 simp only [Bool.and_eq_true,Bool.or_eq_true] at h1
 rcases h1.2 with h2 | ⟨h2,h4⟩
 · exact absurd (by simpa using h2) hit
 · refine ⟨fun g hg=>?_,fun j o' ho' hjt hji hdn=>?_,fun t ht j o' ho' hjt hd=>?_⟩
   · rw [hg] at h2
     simp only [Bool.and_eq_true] at h2
     exact ⟨by simpa using h2.1,h2.2⟩
   · have hj:=(Array.getElem?_eq_some_iff.1 ho').1
     have h5:=List.all_eq_true.1 h4 j (List.mem_range.2 hj)
     rw [ho'] at h5
     simp only [Bool.or_eq_true,Bool.and_eq_true,Nat.beq_eq,bne_iff_ne,ne_eq] at h5
     rcases h5 with h5 | ⟨h5,_⟩
     · exact absurd (by simpa using h5) hjt
     · rcases h5 with (h5 | h5) | h5
       · exact absurd h5.symm hji
       · exact h5
       · exact absurd (by simpa using h5) hdn
   · have hj:=(Array.getElem?_eq_some_iff.1 ho').1
     have h5:=List.all_eq_true.1 h4 j (List.mem_range.2 hj)
     rw [ho'] at h5
     simp only [Bool.or_eq_true,Bool.and_eq_true] at h5
     rcases h5 with h5 | ⟨_,h5⟩
     · exact absurd (by simpa using h5) hjt
     · have h6:=List.all_eq_true.1 h5 t ht
       simp only [Bool.or_eq_true,bne_iff_ne,ne_eq] at h6
       rcases h6 with h6 | h6
       · exact absurd hd h6
       · exact h6
theorem inv_execT (hB:statT ops ts f=true) {A a:Act}(inv:Inv ops ts A listed a) {i:Nat}{o:Oper}(ho:ops[i]?=some o) (hit:i ∉ ts) (hr:i ∈ Region.ready .any ops listed):execOp a.eval o=execOp A.eval o:=by
 obtain ⟨_,_,h4⟩:=stat_opT hB ho hit
 have hsel:Region.noSelect ops=true:=by simp only [statT,Bool.and_eq_true] at hB;exact hB.1.1.1.2
 refine execOp_congr o (fun cs b=>Region.noSelect_spec hsel i o cs b ho) (fun x hx=>?_)
 cases x with
 | tmp t=>
  show a.tmps.getD t undef=A.tmps.getD t undef
  have ht:t ∈ opTmps o:=List.mem_filterMap.2 ⟨.tmp t,by simpa using hx,rfl⟩
  by_cases h:∃ j o',ops[j]?=some o'∧j ∉ ts∧o'.dst=some t
  · obtain ⟨j,o',ho',hjt,hd⟩:=h
    exact inv.v1 j o' t ho' hjt hd (waitsP_ready inv.hi.closed hr (h4 t ht j o' ho' hjt hd))
  · exact inv.v2 t (fun j o' ho' hjt hd=>h ⟨j,o',ho',hjt,hd⟩)
 | const v=>rfl
 | global g=>rfl
 | func g=>rfl
theorem inv_wantedT (hB:statT ops ts f=true) {A a:Act}(inv:Inv ops ts A listed a) {i:Nat}{o:Oper}(ho:ops[i]?=some o) (hit:i ∉ ts) (hr:i ∈ Region.ready .any ops listed):Region.wanted o (yielded ops a.tmps)=Region.wanted o (yielded ops A.tmps):=by
 obtain ⟨h1,_,_⟩:=stat_opT hB ho hit
 unfold Region.wanted
 cases hg:o.guard with
 | none=>rfl
 | some g=>
  obtain ⟨h2,h3⟩:=h1 g hg
  simp only
  congr 1
  unfold yielded
  cases hog:ops[g.1]? with
  | none=>rfl
  | some og=>
   simp only [Option.bind_some]
   cases hd:og.dst with
   | none=>rfl
   | some d=>
    have:=inv.v1 g.1 og d hog h2 hd (waitsP_ready inv.hi.closed hr h3)
    simp only [Option.bind_some]
    rw [get_eq inv.size d this]
theorem inv_turnT (hB:statT ops ts f=true) {A a:Act}(inv:Inv ops ts A listed a) {i d:Nat}{o:Oper}{v:Value}(ho:ops[i]?=some o) (hit:i ∉ ts) (hr:i ∈ Region.ready .any ops listed) (hd:o.dst=some d) (hdl:d<A.tmps.size):Inv ops ts (A.put o.dst v) (listed.setIfInBounds i true) (a.put o.dst v):=by
 obtain ⟨_,h3,_⟩:=stat_opT hB ho hit
 rw [hd]
 refine ⟨inv.hi.set hr hit,by simp [Act.put,inv.size],inv.dfr,fun j o' d' ho' hjt hd' hl=>?_,fun t ht=>?_⟩
 · by_cases hji:j=i
   · subst hji
     have:o'=o:=Option.some.inj (ho'.symm.trans ho)
     subst this
     have:d'=d:=Option.some.inj (hd'.symm.trans hd)
     subst this
     simp [Act.put,inv.size,hdl]
   · rw [getD_set_ne false (Ne.symm hji)] at hl
     have hne:d≠d':=by rintro rfl;exact h3 j o' ho' hjt hji (by rw [hd];simp) (hd'.trans hd.symm)
     have:=inv.v1 j o' d' ho' hjt hd' hl
     simp only [Act.put,Array.getD_eq_getD_getElem?,Array.getElem?_setIfInBounds,if_neg hne] at this ⊢
     exact this
 · have hne:d≠t:=by rintro rfl;exact ht i o ho hit hd
   have:=inv.v2 t ht
   simp only [Act.put,Array.getD_eq_getD_getElem?,Array.getElem?_setIfInBounds,if_neg hne] at this ⊢
   exact this
theorem inv_putT (hB:statT ops ts f=true) {A a:Act}(inv:Inv ops ts A listed a) {i d:Nat}{o:Oper}(ho:ops[i]?=some o) (hit:i ∉ ts) (hr:i ∈ Region.ready .any ops listed) (hd:o.dst=some d) (hdl:d<A.tmps.size):Inv ops ts A (listed.setIfInBounds i true) (a.put o.dst (A.tmps.getD d undef)):=by
 have h:=inv_turnT (v:=A.tmps.getD d undef) hB inv ho hit hr hd hdl
 have e:A.put o.dst (A.tmps.getD d undef)=A:=by
  rw [hd]
  obtain ⟨At,Ad⟩:=A
  show Act.mk _ _=_
  congr 1
  exact put_same hdl
 rw [e] at h
 exact h
theorem step_valT (hB:statT ops ts f=true) {A a:Act}(inv:Inv ops ts A listed a) {Q':Exit→Act→World→Prop}{i:Nat}(hit:i ∉ ts) (hr:i ∈ Region.ready .any ops listed) {w:World}(hdl:∀ (i:Nat) (o:Oper) (d:Nat),ops[i]?=some o→o.dst=some d→d<A.tmps.size) (h:lkG c.P ops A w i) {K:Act→World→Prop}
 (hK:∀ a',Inv ops ts A (listed.setIfInBounds i true) a'→K a' w):wpOpIn c.F 0 c.P ops Q' i K a w:=by
 obtain ⟨o,d,ho,hd,hrun⟩:=h
 have hpl:plainB ops=true:=by simp only [statT,Bool.and_eq_true] at hB;exact hB.1.1.1.1
 unfold wpOpIn
 simp only [ho]
 have hp:=inv_putT hB inv ho hit hr hd (hdl i o d ho hd)
 rw [inv_wantedT hB inv ho hit hr]
 by_cases hwd:Region.wanted o (yielded ops A.tmps)=true
 · rw [if_pos hwd] at hrun ⊢
   refine ⟨fun g _=>c.fn g,?_⟩
   rw [semAt_plain' _ _ _ (plain_at hpl ho),inv_execT hB inv ho hit hr,hrun]
   exact hK _ hp
 · rw [if_neg hwd] at hrun ⊢
   refine ⟨fun g _=>c.fn g,?_⟩
   rw [hrun] at hp
   exact hK _ hp
theorem step_turnT (hB:statT ops ts f=true) {A a:Act}(inv:Inv ops ts A listed a) {Q':Exit→Act→World→Prop}{i:Nat}{o:Oper}(ho:ops[i]?=some o) (hit:i ∉ ts) (hr:i ∈ Region.ready .any ops listed) {w:World}{K K':Act→World→Prop}(h:rnC c.P ops K [o] A w) (hK:∀ v w',K (A.put o.dst v) w'→K' (a.put o.dst v) w'):wpOpIn c.F 0 c.P ops Q' i K' a w:=by
 have hpl:plainB ops=true:=by simp only [statT,Bool.and_eq_true] at hB;exact hB.1.1.1.1
 simp only [rnC] at h
 unfold wpOpIn
 simp only [ho]
 rw [inv_wantedT hB inv ho hit hr]
 by_cases hwd:Region.wanted o (yielded ops A.tmps)=true
 · rw [if_pos hwd] at h ⊢
   refine ⟨fun g _=>c.fn g,?_⟩
   rw [semAt_plain' _ _ _ (plain_at hpl ho),inv_execT hB inv ho hit hr]
   rcases h with ⟨v,w',h1,h2⟩ | ⟨w',h1,h2⟩ | ⟨g,args,w1,h1,h2⟩
   · rw [h1];exact hK _ _ h2
   · rw [h1];exact hK _ _ h2
   · rw [h1]
     refine ⟨fun h=>(by rw [c.dp] at h;cases h),c.call (h2.mono ?_)⟩
     rintro e w2 ⟨v,rfl,h3⟩
     exact hK _ _ h3
 · rw [if_neg hwd] at h ⊢
   exact ⟨fun g _=>c.fn g,hK _ _ h⟩
theorem inv_turnN {A a:Act}(inv:Inv ops ts A listed a) {i:Nat}{o:Oper}{v:Value}(ho:ops[i]?=some o) (hit:i ∉ ts) (hr:i ∈ Region.ready .any ops listed) (hd:o.dst=none):Inv ops ts (A.put o.dst v) (listed.setIfInBounds i true) (a.put o.dst v):=by
 rw [hd]
 refine ⟨inv.hi.set hr hit,inv.size,inv.dfr,fun j o' d' ho' hjt hd' hl=>?_,fun t ht=>inv.v2 t ht⟩
 by_cases hji:j=i
 · subst hji
   have:o'=o:=Option.some.inj (ho'.symm.trans ho)
   subst this
   rw [hd] at hd';cases hd'
 · rw [getD_set_ne false (Ne.symm hji)] at hl
   exact inv.v1 j o' d' ho' hjt hd' hl
theorem inv_turnA (hB:statT ops ts f=true) {A a:Act}(inv:Inv ops ts A listed a) {i:Nat}{o:Oper}{v:Value}(ho:ops[i]?=some o) (hit:i ∉ ts) (hr:i ∈ Region.ready .any ops listed) (hdl:∀ d,o.dst=some d→d<A.tmps.size):Inv ops ts (A.put o.dst v) (listed.setIfInBounds i true) (a.put o.dst v):=by
 cases hd:o.dst with
 | none=>have:=inv_turnN (v:=v) inv ho hit hr hd;rw [hd] at this;exact this
 | some d=>have:=inv_turnT (v:=v) hB inv ho hit hr hd (hdl d hd);rw [hd] at this;exact this
inductive TreeG where
  | tail
  | stop
  | alt (e:Nat) (res nw:List Nat) (sub more:TreeG)
def TreeG.alts:TreeG→List Nat
  | .alt e _ _ _ more=>e :: more.alts
  | _=>[]
def segT (c:Cx) (ops:Array Oper) (Q:Post) (tl:List Oper):TreeG→Act→World→Prop
  | .tail,a,w=>wpListIn c.F 0 c.P ops (lift c Q) tl a w
  | .stop,_,_=>True
  | .alt e res nw sub more,a,w=>(∃ o,ops[e]?=some o∧rnC c.P ops (fun a' w'=>(∀ i ∈ res,lkG c.P ops a' w' i)∧∃ l,nw.mapM (fun k=>ops[k]?)=some l∧lkX c.P ops w' (fun a''=>segT c ops Q tl sub a'' w') l a') [o] a w)∧segT c ops Q tl more a w
def altB (ops:Array Oper) (N:Nat) (ts lks:List Nat) (f:Nat) (es:List Nat) (e:Nat) (res nw:List Nat):Bool:=
  !(ts.contains e) && !(lks.contains e) && !(es.contains e) && Nat.blt e ops.size && orderG ops N nw && (res.all fun i=>lks.contains i && nw.all fun j=>keepG ops i j) && (nw.all fun i=>!(ts.contains i) && lks.contains i && waitsP .any ops f i e)
def covB (ops:Array Oper) (ts:List Nat) (f:Nat) (es ls al:List Nat):Bool:=(List.range ops.size).all fun i=>ts.contains i || ls.contains i || al.contains i || es.any (fun e=>Nat.beq e i || waitsP .any ops f e i) || al.any (fun e=>waitsP .any ops f i e)
def phT (ops:Array Oper) (N:Nat) (ts lks:List Nat) (f:Nat):Bool→List Nat→List Nat→TreeG→Bool
  | true,es,ls,.tail=>covB ops ts f es ls []
  | false,_,_,.tail=>false
  | true,_,_,.stop=>false
  | false,_,_,.stop=>true
  | b,es,ls,.alt e res nw sub more=>(!b || covB ops ts f es ls (e :: more.alts)) && altB ops N ts lks f es e res nw && phT ops N ts lks f true (e :: es) (res++nw) sub && phT ops N ts lks f false es ls more
theorem alt_of {N:Nat}{lks es ls:List Nat}{tl:List Oper}{A:Act}{w:World}{i:Nat} : ∀ {T:TreeG}{b:Bool},i ∈ T.alts→phT ops N ts lks f b es ls T=true→segT c ops Q tl T A w→∃ res nw sub o,altB ops N ts lks f es i res nw=true∧phT ops N ts lks f true (i :: es) (res++nw) sub=true∧ops[i]?=some o∧rnC c.P ops (fun a' w'=>(∀ i ∈ res,lkG c.P ops a' w' i)∧∃ l,nw.mapM (fun k=>ops[k]?)=some l∧lkX c.P ops w' (fun a''=>segT c ops Q tl sub a'' w') l a') [o] A w
 | .tail,_,hi,_,_=>by simp [TreeG.alts] at hi
 | .stop,_,hi,_,_=>by simp [TreeG.alts] at hi
 | .alt e res nw sub more,b,hi,hp,hs=>by
  simp only [phT,Bool.and_eq_true] at hp
  obtain ⟨⟨o,ho,hr⟩,hm⟩:=hs
  rcases List.mem_cons.1 hi with rfl | hi
  · exact ⟨res,nw,sub,o,hp.1.1.2,hp.1.2,ho,hr⟩
  · exact alt_of hi hp.2 hm
theorem alt_B {N:Nat}{lks es ls:List Nat}{i:Nat} : ∀ {T:TreeG}{b:Bool},i ∈ T.alts→phT ops N ts lks f b es ls T=true→∃ res nw,altB ops N ts lks f es i res nw=true
 | .tail,_,hi,_=>by simp [TreeG.alts] at hi
 | .stop,_,hi,_=>by simp [TreeG.alts] at hi
 | .alt e res nw sub more,b,hi,hp=>by
  simp only [phT,Bool.and_eq_true] at hp
  rcases List.mem_cons.1 hi with rfl | hi
  · exact ⟨res,nw,hp.1.1.2⟩
  · exact alt_B hi hp.2
theorem phT_cov {N:Nat}{lks es ls:List Nat}{T:TreeG}(h:phT ops N ts lks f true es ls T=true):covB ops ts f es ls T.alts=true∧(T=.tail∨T.alts≠[]):=by
 cases T with
 | tail=>exact ⟨h,.inl rfl⟩
 | stop=>cases h
 | alt e res nw sub more=>
  simp only [phT,Bool.and_eq_true,Bool.not_true,Bool.false_or] at h
  exact ⟨h.1.1.1,.inr (by simp [TreeG.alts])⟩
theorem phasesT (hB:statT ops ts f=true) {tl:List Oper}(htl:ts.mapM (fun t=>ops[t]?)=some tl) (hseq:seqT .any ops ts (doneL ops ts)=true) {M:Nat}{lks:List Nat}(hlkt:∀ i ∈ lks,i ∉ ts) (hdl:∀ (i:Nat) (o:Oper) (d:Nat),ops[i]?=some o→o.dst=some d→d<M) :
 ∀ (n:Nat) (T:TreeG) (ls es:List Nat) (listed:Array Bool) (A a:Act) (w:World),cnt ops ts listed=n→A.tmps.size=M→Inv ops ts A listed a→(∀ i ∈ ls,i ∈ lks∧lkG c.P ops A w i)→segT c ops Q tl T A w→phT ops M ts lks f true es ls T=true→
  (∀ e ∈ es,listed.getD e false=true)→(∀ i,listed.getD i false=true→i ∈ es∨i ∈ lks)→wpAnyIn c.F 0 c.P .any ops (lift c Q) (n+ts.length) listed a w:=by
 have hB':=hB
 simp only [statT,Bool.and_eq_true] at hB'
 have unl:∀ {T:TreeG}{es ls:List Nat}{listed:Array Bool}{i:Nat},phT ops M ts lks f true es ls T=true→(∀ i,listed.getD i false=true→i ∈ es∨i ∈ lks)→i ∈ T.alts→i ∉ ts∧i<ops.size∧listed.getD i false=false:=by
  intro T es ls listed i hph hli hi
  obtain ⟨res,nw,hb⟩:=alt_B hi hph
  simp only [altB,Bool.and_eq_true,Nat.blt_eq] at hb
  refine ⟨by simpa using hb.1.1.1.1.1.1,hb.1.1.1.2,?_⟩
  cases hl:listed.getD i false with
  | false=>rfl
  | true=>
   have h1:i ∉ lks:=by simpa using hb.1.1.1.1.1.2
   have h2:i ∉ es:=by simpa using hb.1.1.1.1.2
   exact ((hli i hl).elim h2 h1).elim
 intro n
 induction n with
 | zero=>
  intro T ls es listed A a w hc hM inv hl hcan hph hes hli
  have hlist:∀ i,i<ops.size→i ∉ ts→listed.getD i true=true:=fun i hi hit=>by
   cases hv:listed.getD i true with
   | true=>rfl
   | false=>
    have hm:i ∈ (List.range ops.size).filter fun i=>!(ts.contains i) && !(listed.getD i true):=List.mem_filter.2 ⟨List.mem_range.2 hi,by simp [hit,hv]⟩
    unfold cnt at hc
    rw [List.eq_nil_of_length_eq_zero hc] at hm
    cases hm
  rcases (phT_cov hph).2 with rfl | hne
  · have hcan:wpListIn c.F 0 c.P ops (lift c Q) tl A w:=hcan
    have hL:listed=doneL ops ts:=by
     apply Array.ext
     · rw [inv.hi.size];simp [doneL]
     · intro i h1 h2
       have hi:i<ops.size:=by rw [← inv.hi.size];exact h1
       have e1:listed[i]=listed.getD i true:=by simp [h1]
       rw [e1]
       simp only [doneL,List.getElem_toArray,List.getElem_map,List.getElem_range]
       by_cases hit:i ∈ ts
       · rw [inv.hi.tail i hit];simp [hit]
       · rw [hlist i hi hit];simp [hit]
    have hA:a=A:=by
     obtain ⟨at_,ad⟩:=a
     obtain ⟨At,Ad⟩:=A
     have h1:=inv.dfr
     simp only at h1
     subst h1
     congr 1
     apply Array.ext
     · exact inv.size
     · intro t h1 h2
       have key:at_.getD t undef=At.getD t undef:=by
        by_cases h:∃ j o',ops[j]?=some o'∧j ∉ ts∧o'.dst=some t
        · obtain ⟨j,o',ho',hjt,hd⟩:=h
          exact inv.v1 j o' t ho' hjt hd (by
           have hj:=(Array.getElem?_eq_some_iff.1 ho').1
           have:=hlist j hj hjt
           simp [inv.hi.size,hj] at this ⊢
           exact this)
        · exact inv.v2 t (fun j o' ho' hjt hd=>h ⟨j,o',ho',hjt,hd⟩)
       simpa [h1,h2] using key
    subst hA
    rw [Nat.zero_add]
    exact wpAnyIn_of_seqT ts tl listed a w htl (by rw [hL];exact hseq) hcan
  · obtain ⟨e,he⟩:=List.exists_mem_of_ne_nil _ hne
    obtain ⟨h1,h2,h3⟩:=unl hph hli he
    have h4:=hlist e h2 h1
    have h5:e<listed.size:=by rw [inv.hi.size];exact h2
    simp [h5] at h3 h4
    rw [h3] at h4;cases h4
 | succ n ih=>
  intro T ls es listed A a w hc hM inv hl hcan hph hes hli
  have hdl':∀ (i:Nat) (o:Oper) (d:Nat),ops[i]?=some o→o.dst=some d→d<A.tmps.size:=fun i o d h1 h2=>hM ▸ hdl i o d h1 h2
  rw [show n+1+ts.length=(n+ts.length)+1 by omega]
  have hne:Region.ready .any ops listed≠[]:=by
   have hex:∃ i,i<ops.size∧listed.getD i true=false:=by
    apply Classical.byContradiction
    intro h
    have:(List.range ops.size).filter (fun i=>!(ts.contains i) && !(listed.getD i true))=[]:=List.filter_eq_nil_iff.2 (fun i hi=>by
     have:=List.mem_range.1 hi
     cases hv:listed.getD i true with
     | true=>simp
     | false=>exact absurd ⟨i,this,hv⟩ h)
    unfold cnt at hc
    rw [this] at hc
    cases hc
   have hmin:∀ n i,i<n→i<ops.size→listed.getD i true=false→Region.ready .any ops listed≠[]:=by
    intro n
    induction n with
    | zero=>intro i hi;omega
    | succ n ihn=>
     intro i hin hi hun
     by_cases hlow:∃ k,k<i∧listed.getD k true=false
     · obtain ⟨k,hk,hku⟩:=hlow
       exact ihn k (by omega) (by omega) hku
     · intro hr
       have:i ∈ Region.ready .any ops listed:=mem_ready.2 ⟨hun,ops[i],Array.getElem?_eq_getElem hi,fun e he hb=>by
        have h1:=List.all_eq_true.1 hB'.1.2 i (List.mem_range.2 hi)
        rw [Array.getElem?_eq_getElem hi] at h1
        simp only [Bool.and_eq_true] at h1
        have h2:=Array.all_eq_true'.1 h1.1 e he
        rw [hb] at h2
        have h3:e.on<i:=by simpa [Nat.blt_eq] using h2
        have h4:listed.getD e.on true≠false:=fun h=>hlow ⟨e.on,h3,h⟩
        have h5:e.on<listed.size:=by rw [inv.hi.size];omega
        simp [h5] at h4 ⊢
        exact h4⟩
       rw [hr] at this;cases this
   obtain ⟨i,hi,hun⟩:=hex
   exact hmin (i+1) i (by omega) hi hun
  refine ⟨fun h=>absurd h hne,fun i hir=>?_⟩
  obtain ⟨hun,oi,hoi,_⟩:=mem_ready.1 hir
  have hi:=(Array.getElem?_eq_some_iff.1 hoi).1
  have hit:i ∉ ts:=fun h=>by
   have h1:=List.all_eq_true.1 hB'.2 i h
   have hz:cnt ops ts listed=0:=by
    unfold cnt
    rw [List.length_eq_zero_iff,List.filter_eq_nil_iff]
    intro k hk
    have h2:=List.all_eq_true.1 h1 k hk
    rw [Bool.or_eq_true] at h2
    rcases h2 with h2 | h2
    · simp only [h2];simp
    · have h3:=waitsP_ready inv.hi.closed hir h2
      have:listed.getD k true=true:=by
       have hk':=List.mem_range.1 hk
       simp [inv.hi.size,hk'] at h3 ⊢;exact h3
      rw [this];simp
   omega
  have hc':cnt ops ts (listed.setIfInBounds i true)=n:=by have:=cnt_set hi inv.hi.size hit hun;omega
  have hes':∀ es':List Nat,(∀ e ∈ es',listed.getD e false=true)→∀ e ∈ es',(listed.setIfInBounds i true).getD e false=true:=fun es' h e he=>getD_set_true (h e he)
  have nolist:¬ listed.getD i false=true:=fun h=>by rw [getD_both hun] at h;cases h
  have byes:es.any (fun e'=>Nat.beq e' i || waitsP .any ops f e' i)=true→False:=fun h=>by
   obtain ⟨e',he',h⟩:=List.any_eq_true.1 h
   simp only [Bool.or_eq_true,Nat.beq_eq] at h
   rcases h with rfl | h
   · exact nolist (hes _ he')
   · exact nolist (waitsP_listed inv.hi.closed f e' i (hes _ he') h)
  have hli':∀ es':List Nat,(∀ e ∈ es,e ∈ es')→(i ∈ es'∨i ∈ lks)→∀ k,(listed.setIfInBounds i true).getD k false=true→k ∈ es'∨k ∈ lks:=fun es' h0 h1 k hk=>by
   by_cases hki:k=i
   · subst hki;exact h1
   · rw [getD_set_ne false (Ne.symm hki)] at hk
     exact (hli k hk).imp (h0 k) id
  have h1:=List.all_eq_true.1 (phT_cov hph).1 i (List.mem_range.2 hi)
  simp only [Bool.or_eq_true] at h1
  rcases h1 with (((h1 | h1) | h1) | h1) | h1
  · exact absurd (by simpa using h1) hit
  · have hil:i ∈ ls:=by simpa using h1
    exact step_valT hB inv hit hir hdl' (hl i hil).2 (fun a' inv'=>ih T ls es _ A a' w hc' hM inv' hl hcan hph (hes' es hes) (hli' es (fun _ h=>h) (.inr (hl i hil).1)))
  · obtain ⟨res,nw,sub,o,hab,hps,ho,hrn⟩:=alt_of (by simpa using h1) hph hcan
    have hsel:Region.noSelect ops=true:=hB'.1.1.1.2
    simp only [altB,Bool.and_eq_true] at hab
    obtain ⟨⟨⟨-,hn1⟩,hn2⟩,hn3⟩:=hab
    refine step_turnT hB inv ho hit hir hrn (fun v w' hk=>?_)
    obtain ⟨hre,l,hml,hlk⟩:=hk
    have hM':(A.put o.dst v).tmps.size=M:=by cases hd:o.dst <;> simpa [Act.put] using hM
    obtain ⟨A2,hA1,hA2,hA3,hA4,hA5⟩:=lk_canG (c:=c) hsel nw l res (A.put o.dst v) hml hn1 hM' hre (fun i hi j hj=>by
     have h2:=List.all_eq_true.1 hn2 i hi
     rw [Bool.and_eq_true] at h2
     exact List.all_eq_true.1 h2.2 j hj) hlk
    have inv1:=inv_turnA (v:=v) hB inv ho hit hir (fun d hd=>hdl' i o d ho hd)
    have hnw:∀ j ∈ nw,j ∉ ts∧j ∈ lks∧waitsP .any ops f j i=true:=fun j hj=>by
     have h2:=List.all_eq_true.1 hn3 j hj
     simp only [Bool.and_eq_true] at h2
     exact ⟨by simpa using h2.1.1,by simpa using h2.1.2,h2.2⟩
    have hnl:∀ j ∈ nw,j ∉ ts∧(listed.setIfInBounds i true).getD j false=true→False:=fun j hj hl=>by
     have h1:=hnw j hj
     by_cases hji:j=i
     · subst hji
       have:=waitsP_ready inv.hi.closed hir h1.2.2
       exact nolist this
     · have h2:listed.getD j false=true:=by rw [← getD_set_ne false (Ne.symm hji)];exact hl.2
       exact nolist (waitsP_listed inv.hi.closed f j i h2 h1.2.2)
    have inv2:Inv ops ts A2 (listed.setIfInBounds i true) (a.put o.dst v):=by
     refine ⟨inv1.hi,by rw [inv1.size,hA1,hM'],by rw [inv1.dfr,hA2],fun j o' d' ho' hjt hd' hl=>?_,fun t ht=>?_⟩
     · rw [inv1.v1 j o' d' ho' hjt hd' hl]
       refine (hA3 d' (fun k hk ok hok hdk=>?_)).symm
       have hkt:k ∉ ts:=(hnw k hk).1
       by_cases hkj:k=j
       · subst hkj;exact hnl k hk ⟨hjt,hl⟩
       · exact (stat_opT hB ho' hjt).2.1 k ok hok hkt hkj (by rw [hd'];simp) (hdk.trans hd'.symm)
     · rw [inv1.v2 t ht]
       refine (hA3 t (fun k hk ok hok hdk=>?_)).symm
       exact ht k ok hok (hnw k hk).1 hdk
    refine ih sub (res++nw) (i :: es) _ A2 _ w' hc' hA1 inv2 (fun k hk=>⟨?_,hA4 k hk⟩) hA5 hps (fun e he=>?_) (hli' _ (fun _ h=>List.mem_cons_of_mem _ h) (.inl List.mem_cons_self))
    · rcases List.mem_append.1 hk with hk | hk
      · have h2:=List.all_eq_true.1 hn2 k hk
        rw [Bool.and_eq_true] at h2
        simpa using h2.1
      · exact (hnw k hk).2.1
    · rcases List.mem_cons.1 he with rfl | he
      · simp [inv.hi.size,hi]
      · exact getD_set_true (hes e he)
  · exact (byes h1).elim
  · obtain ⟨e,he,hw⟩:=List.any_eq_true.1 h1
    have h2:=waitsP_ready inv.hi.closed hir hw
    have h3:=(unl hph hli he).2.2
    rw [h3] at h2;cases h2
def drawR (ops:Array Oper) (N:Nat) (ks lks:List Nat) (T:TreeG) (ts:List Nat) (f:Nat):Bool:=
  statT ops ts f && orderG ops N ks && phT ops N ts lks f true [] ks T && seqT .any ops ts (doneL ops ts) && ops.all (fun o=>o.dst.all fun d=>Nat.blt d N) &&
    ks.all (fun k=>lks.contains k) && lks.all (fun k=>!(ts.contains k)) && Nat.beq (cnt ops ts (Array.replicate ops.size false)+ts.length) ops.size
theorem wDrawR (hm:c.P.follows .mixedOrders=true) {id:Nat}{l hd tl:List Oper}(ks lks:List Nat) (T:TreeG) (ts:List Nat) (f:Nat) (hB:drawR l.toArray c.N ks lks T ts f=true) (hk:ks.mapM (fun k=>l[k]?)=some hd) (htl:ts.mapM (fun k=>l[k]?)=some tl)
 (h:∀ w0,O (Md.lk c l.toArray w0 (fun a=>segT c l.toArray Q tl T a w0)) hd E D H):W c (.region id l.toArray true) Q E D H:=by
 intro a w ha hw
 refine wpIn_region_any hm ?_
 simp only [drawR,Bool.and_eq_true,decide_eq_true_eq,Nat.beq_eq] at hB
 obtain ⟨⟨⟨⟨⟨⟨⟨hst,hor⟩,hph⟩,hseq⟩,hN⟩,hkl⟩,hlt⟩,hcnt⟩:=hB
 have hst':=hst
 simp only [statT,Bool.and_eq_true] at hst'
 have hsel:Region.noSelect l.toArray=true:=hst'.1.1.1.2
 have htr:=hst'.1.1.2
 have hlt:∀ k ∈ lks,k ∉ ts:=fun k hk=>by simpa using List.all_eq_true.1 hlt k hk
 have hkl:∀ k ∈ ks,k ∈ lks:=fun k hk=>by simpa using List.all_eq_true.1 hkl k hk
 have hks:ks.mapM (fun k=>l.toArray[k]?)=some hd:=by simpa using hk
 have htl':ts.mapM (fun k=>l.toArray[k]?)=some tl:=by simpa using htl
 obtain ⟨A,hA1,hA2,hA3,hA4,hA5⟩:=lk_canG (c:=c) hsel ks hd [] a hks hor ha.size (by simp) (by simp) (h w.drew a w.drew ha hw.drew rfl)
 rw [List.nil_append] at hA4
 have hdl:∀ (i:Nat) (o:Oper) (d:Nat),l.toArray[i]?=some o→o.dst=some d→d<c.N:=fun i o d ho hd=>by
  obtain ⟨hi,he⟩:=Array.getElem?_eq_some_iff.1 ho
  have h1:=Array.all_eq_true.1 hN i hi
  rw [he,hd] at h1
  simpa [Nat.blt_eq] using h1
 have inv:Inv l.toArray ts A (Array.replicate l.toArray.size false) a:=by
  refine ⟨⟨by simp,fun j oj _ hl=>(by rw [getD_replicate_false] at hl;cases hl),fun t ht=>getD_in (by have:=List.all_eq_true.1 htr t ht;simpa [Nat.blt_eq] using this) (getD_replicate_false _ _)⟩,by rw [hA1,ha.size],hA2.symm,fun i o d ho hit hd hl=>(by rw [getD_replicate_false] at hl;cases hl),fun t ht=>(hA3 t (fun j hj o ho hd=>?_)).symm⟩
  exact ht j o ho (hlt j (hkl j hj)) hd
 have hgo:=phasesT (c:=c) (Q:=Q) hst htl' hseq hlt hdl _ T ks [] (Array.replicate l.toArray.size false) A a w.drew rfl hA1 inv (fun i hi=>⟨hkl i hi,hA4 i hi⟩) hA5 hph (by simp) (fun i hl=>(by rw [getD_replicate_false] at hl;cases hl))
 rw [hcnt] at hgo
 exact hgo
theorem oAltT {tl:List Oper}{e:Nat}{res nw:List Nat}{sub more:TreeG}{w0:World}{o:Oper}(he:ops[e]?=some o) (h:O (Me.rnC c ops (fun a' w'=>(∀ i ∈ res,lkG c.P ops a' w' i)∧∃ l,nw.mapM (fun k=>ops[k]?)=some l∧lkX c.P ops w' (fun a''=>segT c ops Q tl sub a'' w') l a')).toMd [o] E D H)
 (k:O (Md.lk c ops w0 (fun a=>segT c ops Q tl more a w0)) [] E D H):O (Md.lk c ops w0 (fun a=>segT c ops Q tl (.alt e res nw sub more) a w0)) [] E D H:=by
 rintro a w ha hw rfl
 exact ⟨⟨o,he,h a w ha hw⟩,k a w ha hw rfl⟩
theorem oStopT {tl:List Oper}{w0:World} : O (Md.lk c ops w0 (fun a=>segT c ops Q tl .stop a w0)) [] E D H:=fun _ _ _ _ _=>trivial
theorem oAgainT {tl:List Oper}{res nw:List Nat}{sub:TreeG}{l:List Oper}(hre:AgainG c ops E D H res) (hl:nw.mapM (fun k=>ops[k]?)=some l) (h:∀ w0,O (Md.lk c ops w0 (fun a''=>segT c ops Q tl sub a'' w0)) l E D H):O (Me.rnC c ops (fun a' w'=>(∀ i ∈ res,lkG c.P ops a' w' i)∧∃ l,nw.mapM (fun k=>ops[k]?)=some l∧lkX c.P ops w' (fun a''=>segT c ops Q tl sub a'' w') l a')).toMd [] E D H:=
 fun a w ha hw=>⟨hre a w ha hw,l,hl,h w a w ha hw rfl⟩
theorem oTailT {tl:List Oper}{w0:World}(h:O (Me.list c ops Q).toMd tl E D H):O (Md.lk c ops w0 (fun a=>segT c ops Q tl .tail a w0)) [] E D H:=by
 rintro a w ha hw rfl
 exact h a w ha hw
end
end Go.Proofs.YtpmdhkjbhjgoaaaGreatK
namespace Go.Proofs.YtpmdhkjbhjgoaaaGreatD
set_option maxRecDepth 100000
set_option maxHeartbeats 4000000
open Go.RowKit Go.Proofs.YtpmdhkjbhjgoaaaGreatK Go.Proofs.YtpmdhkjbhjgoaaaGreatT Go.Proofs.YtpmdhkjbhjgoaaaGreatV

def noSym:ApiSymbol:=⟨ByteArray.empty,false,0,0,0⟩
def noIns:ApiInstr:=⟨0,0,0,0,0⟩
def noDat:ApiData:=⟨0,[],[]⟩
theorem file_symbol {B:Base}{w:World}(br:Nat) (A:Option Addr) (cp:Nat) (l:List Int) (at_:Nat) (hS:St B [blk br 96 [.slice A l.length cp,.int .i64 ((at_:Nat):Int),.bool true,.bool false]] w) (hat:at_≤l.length) (hl:l.length≤900000) (hb:Byts l) (hcp:l.length≤cp) (hC:(Kd.int .u8).C B.e A l) :
 CW 26 #[.pointer (some ⟨br,0,none⟩)] w (Ret B (fun z:Int×ApiSymbol×Rs=>Got l (symX (l.drop at_)) z.1 z.2.1 z.2.2∧z.2.2.1≤l.length) (fun z=>.tuple #[.agg #[.string z.2.1.fName,.bool z.2.1.fLocal,.int .i64 z.2.1.fSort,.int .i64 z.2.1.fKind,.int .i64 z.2.1.fDef],.int .i64 z.1]) (fun z=>[blk br 96 [.slice A l.length cp,.int .i64 ((z.2.2.1:Nat):Int),.bool true,.bool z.2.2.2]])):=by
 refine ZX Tryz.func26 hS ?_
 refine Zh (Zi (oAlloc J ZP (fun b2=>?_)))
 refine Zp J (Zn (Za (Zzi ?_)))
 (refine ZC0 rfl ZK (fun w hS=>frame hS ZQ (fun B' hB hS'=>rd_Text br A cp l at_ false hS' hat hl hb hcp (Kd.C_grow hB hC) 255 (by decide))) ?_;rintro ⟨⟨a1,d1⟩,v1⟩ h1)
 have ha1:=rawT_le hb h1 hat
 refine oBuild (Parts.cons J Parts.nil) J J (Built.cons (off:=0) (s:=1) J ZP J ZP Built.nil) ?_
 refine oAlloc J ZP (fun b4=>?_)
 refine Zsa ?_
 refine Zn (Za (Zzi ?_))
 (refine ZC0 rfl ZK (fun w hS=>frame hS ZQ (fun B' hB hS'=>rd_Num br A cp l a1 d1 hS' ha1 hl hb hcp (Kd.C_grow hB hC) 1 (by decide))) ?_;rintro ⟨⟨a2,d2⟩,n2⟩ h2)
 have ha2:=rawN_le h2 ha1
 refine Zp J (Zn (Za (Zh (Zh (Zi (Zo J (Z1 J J (Zn (Za (wC (fun h12=>?_) (fun h12=>?_)))))))))))
 refine Zh (Zi (oBuild Parts.nil J J Built.nil (Zsa ?_)))
 refine Zp J (Zzp ?_)
 exact ⟨(3,noSym,(a2,d2)),⟨got_err (sym_form hb hat h1 h2 h12) (by decide:(3:Int)≠0),ha2⟩,rfl,Lh⟩
 refine Zj (Za (Zh (Zi (Zo J (Zy J J (Zz (n:=1) (m:=1) J J J (Zst ?_)))))))
 refine Zn (Za (Zzi ?_))
 (refine ZC0 rfl ZK (fun w hS=>frame hS ZQ (fun B' hB hS'=>rd_Num br A cp l a2 d2 hS' ha2 hl hb hcp (Kd.C_grow hB hC) 1 (by decide))) ?_;rintro ⟨⟨a3,d3⟩,n3⟩ h3)
 have ha3:=rawN_le h3 ha2
 refine Zz (n:=2) (m:=2) J J J (Zst ?_)
 refine Zn (Za (Zzi ?_))
 (refine ZC0 rfl ZK (fun w hS=>frame hS ZQ (fun B' hB hS'=>rd_Num br A cp l a3 d3 hS' ha3 hl hb hcp (Kd.C_grow hB hC) 1 (by decide))) ?_;rintro ⟨⟨a4,d4⟩,n4⟩ h4)
 have ha4:=rawN_le h4 ha3
 refine Zz (n:=3) (m:=3) J J J (Zst ?_)
 refine Zn (Za (Zzi ?_))
 (refine ZC0 rfl ZK (fun w hS=>frame hS ZQ (fun B' hB hS'=>rd_Signed br A cp l a4 d4 hS' ha4 hl hb hcp (Kd.C_grow hB hC) 1 (.inl rfl))) ?_;rintro ⟨⟨a5,d5⟩,n5⟩ h5)
 have ha5:=rawS_le h5 ha4
 have hlaw:=sym_law hb hat h1 h2 h3 h4 h5
 refine Zz (n:=4) (m:=4) J J J (Zst ?_)
 refine Zn (Za (Zh (Zzi ?_)))
 (refine ZC0 rfl ZK (fun w hS=>frame hS ZQ (fun B' hB hS'=>rd_Bad br A cp l a5 d5 hS')) ?_;rintro ⟨⟩ -)
 refine Zn (Za (wC (fun h27=>?_) (fun h27=>?_)))
 refine Zh (Zi (oBuild Parts.nil J J Built.nil (Zsa ?_)))
 refine Zp J (Zzp ?_)
 exact ⟨(5,noSym,(a5,d5)),⟨got_err (hlaw.2.1 h12 h27) (by decide:(5:Int)≠0),ha5⟩,rfl,Lh⟩
 refine Zj (Zzk ?_)
 refine Zsa ?_
 refine Zp J (Zn (Za (Zl (Zw (ZI2 ?_)))))
 exact ⟨(0,⟨v1,decide (n2=1),n3,n4,n5⟩,(a5,d5)),⟨got_ok (hlaw.2.2 h12 h27).1 h27 ha5,ha5⟩,rfl,Lh⟩
def insAt (l:List Int) (p:Nat):ApiInstr:=⟨l.getD p 0,l.getD (p+1) 0,l.getD (p+2) 0,l.getD (p+3) 0,sgnV ((l.drop (p+4)).take 4)⟩
theorem ins_ok {l:List Int}(hb:Byts l) {p:Nat}(h:p+8≤l.length):insX (l.drop p)=if icF (insAt l p)≠0 then .error (icF (insAt l p)) else .ok (insAt l p,l.drop (p+8)):=by
 have hn:∀ q,q+1≤l.length→∀ {β:Type}(f:Int→Pr β),bnd (numX 1) f (l.drop q)=f (l.getD q 0) (l.drop (q+1)):=fun q hq β f=>by
  rw [bnd_to (numX_ok hq),num_one hb ZO]
 unfold insX
 rw [hn p ZO,hn (p+1) ZO,hn (p+1+1) ZO,hn (p+1+1+1) ZO,bnd_to (sgnX_ok (w:=4) (at_:=p+1+1+1+1) ZO)]
 show (if icF (insAt l p)≠0 then flr (icF (insAt l p)) else pur (insAt l p)) _=_
 split <;> rfl
theorem ins_short {l:List Int}{p:Nat}(hp:p≤l.length) (h:l.length<p+8):insX (l.drop p)=.error 5:=by
 unfold insX
 have hn:∀ q,q≤l.length→∀ {β:Type}(f:Int→Pr β),(l.length<q+1∧bnd (numX 1) f (l.drop q)=.error 5)∨(q+1≤l.length∧∃ n,bnd (numX 1) f (l.drop q)=f n (l.drop (q+1))):=fun q hq β f=>by
  by_cases k:q+1≤l.length
  · exact .inr ⟨k,_,bnd_to (numX_ok k)⟩
  · exact .inl ⟨by omega,bnd_err (numX_short ZO hq)⟩
 rcases hn p hp _ with ⟨-,e⟩ | ⟨k1,n1,e⟩
 · exact e
 · rw [e]
   rcases hn (p+1) k1 _ with ⟨-,e⟩ | ⟨k2,n2,e⟩
   · exact e
   · rw [e]
     rcases hn (p+1+1) k2 _ with ⟨-,e⟩ | ⟨k3,n3,e⟩
     · exact e
     · rw [e]
       rcases hn (p+1+1+1) k3 _ with ⟨-,e⟩ | ⟨k4,n4,e⟩
       · exact e
       · rw [e]
         exact bnd_err (sgnX_short ZO k4)
theorem instr_readN {B:Base}{w:World}(br:Nat) (A:Option Addr) (cp:Nat) (l:List Int) (at_:Nat) (hS:St B [blk br 96 [.slice A l.length cp,.int .i64 ((at_:Nat):Int),.bool true,.bool false]] w) (hat:at_≤l.length) (hl:l.length≤900000) (hb:Byts l) (hcp:l.length≤cp) (hC:(Kd.int .u8).C B.e A l) :
 CW 105 #[.pointer (some ⟨br,0,none⟩),.int .i64 1,.func (.func 54) #[] #[]] w (Ret B (fun z:Rs×Int=>z=rawN l (at_,false) 1) (fun z=>.int .i64 z.2) (fun z=>[blk br 96 [.slice A l.length cp,.int .i64 ((z.1.1:Nat):Int),.bool true,.bool z.1.2]])):=by
 refine ZX Tryz.func105 hS ?_
 refine Zh (Zi (Zp J (Zn (Za (Zh (Zi (Zo J (Zo J (Zo J ?_)))))))))
 (refine oCallV rfl rfl rfl ZK (fun w hS=>frame hS ZQ (fun B' hB hS'=>rd_Num br A cp l at_ false hS' hat hl hb hcp (Kd.C_grow hB hC) 1 (by decide))) ?_;rintro ⟨s1,n1⟩ h1)
 refine Zp J (Zza ?_)
 exact ⟨(s1,n1),h1,rfl,Lh⟩
theorem instr_readS {B:Base}{w:World}(br:Nat) (A:Option Addr) (cp:Nat) (l:List Int) (at_:Nat) (hS:St B [blk br 96 [.slice A l.length cp,.int .i64 ((at_:Nat):Int),.bool true,.bool false]] w) (hat:at_≤l.length) (hl:l.length≤900000) (hb:Byts l) (hcp:l.length≤cp) (hC:(Kd.int .u8).C B.e A l) :
 CW 105 #[.pointer (some ⟨br,0,none⟩),.int .i64 4,.func (.func 60) #[] #[]] w (Ret B (fun z:Rs×Int=>z=rawS l (at_,false) 4) (fun z=>.int .i64 z.2) (fun z=>[blk br 96 [.slice A l.length cp,.int .i64 ((z.1.1:Nat):Int),.bool true,.bool z.1.2]])):=by
 refine ZX Tryz.func105 hS ?_
 refine Zh (Zi (Zp J (Zn (Za (Zh (Zi (Zo J (Zo J (Zo J ?_)))))))))
 (refine oCallV rfl rfl rfl ZK (fun w hS=>frame hS ZQ (fun B' hB hS'=>rd_Signed br A cp l at_ false hS' hat hl hb hcp (Kd.C_grow hB hC) 4 (.inr rfl))) ?_;rintro ⟨s1,n1⟩ h1)
 refine Zp J (Zza ?_)
 exact ⟨(s1,n1),h1,rfl,Lh⟩
def fourA (l:List Int) (p i:Nat):List Value:=(List.range 4).map fun j=>.int .i64 (if j<i then l.getD (p+j) 0 else 0)
theorem fourA_set (l:List Int) (p:Nat) {i:Nat}(hi:i<4):(fourA l p i).set i (.int .i64 (l.getD (p+i) 0))=fourA l p (i+1):=by
 obtain rfl | rfl | rfl | rfl:i=0∨i=1∨i=2∨i=3:=by omega
 all_goals rfl
theorem instr_Get {B:Base}{w:World}(br:Nat) (A:Option Addr) (cp:Nat) (l:List Int) (at_:Nat) (hS:St B [blk br 96 [.slice A l.length cp,.int .i64 ((at_:Nat):Int),.bool true,.bool false]] w) (hat:at_≤l.length) (hl:l.length≤900000) (hb:Byts l) (hcp:l.length≤cp) (hC:(Kd.int .u8).C B.e A l) :
 CW 68 #[.pointer (some ⟨br,0,none⟩)] w (Ret B (fun z:Int×ApiInstr×Rs=>Got l (insX (l.drop at_)) z.1 z.2.1 z.2.2∧z.2.2.1≤l.length) (fun z=>.tuple #[.agg #[.int .i64 z.2.1.fOp,.int .i64 z.2.1.fA,.int .i64 z.2.1.fB,.int .i64 z.2.1.fC,.int .i64 z.2.1.fN],.int .i64 z.1]) (fun z=>[blk br 96 [.slice A l.length cp,.int .i64 ((z.2.2.1:Nat):Int),.bool true,.bool z.2.2.2]])):=by
 have hml:l.length≤maxLen:=by have:maxLen=9223372036854775807:=rfl;omega
 refine ZX Tryz.func68 hS ?_
 refine Zh (Zi (oAlloc J ZP (fun b2=>?_)))
 refine Zp J (Zn (Za (Zh (Zzi ?_))))
 (refine ZC0 rfl ZK (fun w hS=>frame hS ZQ (fun B' hB hS'=>rd_Left br A cp l at_ false hS' hat hml)) ?_;rintro ⟨⟩ -)
 refine Zx J J (Zo J (ZS (ZT 11) (fun h11=>?_) (fun h11=>?_)))
 refine Zr J J J J (Zr J J J J (Zt J J (Zn (Za (wCondT J (Zzi ?_))))))
 (refine ZC0 rfl ZK (fun w hS=>frame hS ZQ (fun B' hB hS'=>rd_Num0 br A cp l at_ false hS' hat hl hb hcp (Kd.C_grow hB hC))) ?_;rintro - -)
 refine Zn (Za (Zh (Zi (oBuild Parts.nil J J Built.nil (Zsa ?_)))))
 refine Zp J (Zzp ?_)
 exact ⟨(5,noIns,(at_,true)),⟨got_err (ins_short hat ZO) (by decide:(5:Int)≠0),hat⟩,rfl,Lh⟩
 have hk8:at_+8≤l.length:=by omega
 refine Zq J J (Zo J (Zq J J ?_))
 (refine ZC0 rfl ZK (fun w hS=>frame hS ZQ (fun B' hB hS'=>rd_Bad br A cp l at_ false hS')) ?_;rintro ⟨⟩ -)
 refine Zu J J (Zn (Za (wCondF J (Zj (Za (Zh (Zi (oAlloc J ZP (fun b4=>?_)))))))))
 refine Zn (Za (Zh (Zh (Zi (Zo J (Zn (Za (Zk (wLoop (ι:=Nat) (fun i=>[(0,.pointer (some ⟨br,0,none⟩)),(2,.pointer (some ⟨b2,0,none⟩)),(4,.pointer (some ⟨b4,0,none⟩)),(18,.int .i64 (i:Int))]) (fun i=>[blk br 96 [.slice A l.length cp,.int .i64 ((at_+i:Nat):Int),.bool true,.bool false],blk b2 90 [.int .i64 0,.int .i64 0,.int .i64 0,.int .i64 0,.int .i64 0],blk b4 150 (fourA l at_ i)]) (fun i=>i≤4) (fun i=>4-i) 0 ?_ cv (Leads.has ZQ) ?_)))))))))
 exact Nat.zero_le _
 rintro i hi
 try dsimp only
 refine Zh (Zi (Zx J J (Zn (Za (Zh (wC (fun h19=>?_) (fun h19=>?_)))))))
 refine Zj (Za (Zh (Zk (Zh (Zi (Zo J (Zp J (Zn (Za (Zi (Zo J (Zo J ?_))))))))))))
 (refine ZC0 rfl ZK (fun w hS=>frame hS ZQ (fun B' hB hS'=>instr_readN br A cp l (at_+i) hS' ZO hl hb hcp (Kd.C_grow hB hC))) ?_;rintro ⟨s1,n1⟩ h1)
 rw [rawN_ok ZO,num_one hb ZO] at h1
 obtain ⟨rfl,rfl⟩:=Prod.mk.inj h1
 refine oIdxA (s:=1) (i:=i) (m:=i) J J J J ZO ZO ?_
 refine oSt J J J J J ZP (setAt_of (by simp [fourA];omega)) ?_
 rw [fourA_set l at_ ZO]
 refine Zn (Zze ?_)
 refine Zo J (Zn (Za ?_))
 exact ⟨rfl,i+1,by omega,by omega,cv,Lh⟩
 obtain rfl:i=4:=by omega
 refine Zm (Zb (Zb (Ze (Za (Zh (wDrawR J [0,1,2,3,4,5,6,7,8] [0,1,2,3,4,5,6,7,8,10] (.alt 9 [0,1,2,3,4,5,6,7] [10] (.alt 11 [0,1,2,3,4,5,6,7,10] [] .tail .stop) (.alt 11 [0,1,2,3,4,5,6,7,8] [] (.alt 9 [0,1,2,3,4,5,6,7] [10] .tail .stop) .stop)) [12] 24 ZK J J (fun w0=>?_)))))))
 refine oIdxA (i:=0) (m:=0) J J J J (by decide) J ?_
 refine Zld ?_
 refine oIdxA (i:=1) (m:=1) J J J J (by decide) J ?_
 refine Zld ?_
 refine oIdxA (i:=2) (m:=2) J J J J (by decide) J ?_
 refine Zld ?_
 refine oIdxA (i:=3) (m:=3) J J J J (by decide) J ?_
 refine Zld ?_
 refine Zo J (oAltT J ?_ ?_)
 (refine ZC0 rfl ZK (fun w hS=>frame hS ZQ (fun B' hB hS'=>instr_readS br A cp l (at_+4) hS' ZO hl hb hcp (Kd.C_grow hB hC))) ?_;rintro ⟨⟨a5,d5⟩,n5⟩ h5)
 rw [rawS_ok ZO] at h5
 obtain ⟨e5,rfl⟩:=Prod.mk.inj h5
 obtain ⟨rfl,rfl⟩:=Prod.mk.inj e5
 refine oAgainT ?_ J (fun w0=>?_)
 refine Z8 J J J J (fun w0=>?_) ?_
 refine oIdxA (i:=0) (m:=0) J J J J (by decide) J ?_
 exact Z9 rfl
 refine Z8 J J J J (fun w0=>?_) ?_
 refine Zld ?_
 exact Z9 rfl
 refine Z8 J J J J (fun w0=>?_) ?_
 refine oIdxA (i:=1) (m:=1) J J J J (by decide) J ?_
 exact Z9 rfl
 refine Z8 J J J J (fun w0=>?_) ?_
 refine Zld ?_
 exact Z9 rfl
 refine Z8 J J J J (fun w0=>?_) ?_
 refine oIdxA (i:=2) (m:=2) J J J J (by decide) J ?_
 exact Z9 rfl
 refine Z8 J J J J (fun w0=>?_) ?_
 refine Zld ?_
 exact Z9 rfl
 refine Z8 J J J J (fun w0=>?_) ?_
 refine oIdxA (i:=3) (m:=3) J J J J (by decide) J ?_
 exact Z9 rfl
 refine Z8 J J J J (fun w0=>?_) ?_
 refine Zld ?_
 exact Z9 rfl
 exact AgainG.nil
 refine oBuild (Parts.cons J (Parts.cons J (Parts.cons J (Parts.cons J (Parts.cons J Parts.nil))))) J J (Built.cons (off:=0) (s:=1) J ZP J ZP (Built.cons (off:=1) (s:=1) J ZP J ZP (Built.cons (off:=2) (s:=1) J ZP J ZP (Built.cons (off:=3) (s:=1) J ZP J ZP (Built.cons (off:=4) (s:=1) J ZP J ZP Built.nil))))) ?_
 refine oAltT J ?_ ?_
 refine oAlloc J ZP (fun b6=>?_)
 refine oAgainT ?_ J (fun w0=>?_)
 refine Z8 J J J J (fun w0=>?_) ?_
 refine oIdxA (i:=0) (m:=0) J J J J (by decide) J ?_
 exact Z9 rfl
 refine Z8 J J J J (fun w0=>?_) ?_
 refine Zld ?_
 exact Z9 rfl
 refine Z8 J J J J (fun w0=>?_) ?_
 refine oIdxA (i:=1) (m:=1) J J J J (by decide) J ?_
 exact Z9 rfl
 refine Z8 J J J J (fun w0=>?_) ?_
 refine Zld ?_
 exact Z9 rfl
 refine Z8 J J J J (fun w0=>?_) ?_
 refine oIdxA (i:=2) (m:=2) J J J J (by decide) J ?_
 exact Z9 rfl
 refine Z8 J J J J (fun w0=>?_) ?_
 refine Zld ?_
 exact Z9 rfl
 refine Z8 J J J J (fun w0=>?_) ?_
 refine oIdxA (i:=3) (m:=3) J J J J (by decide) J ?_
 exact Z9 rfl
 refine Z8 J J J J (fun w0=>?_) ?_
 refine Zld ?_
 exact Z9 rfl
 refine Z8 J J J J (fun w0=>?_) ?_
 refine oBuild (Parts.cons J (Parts.cons J (Parts.cons J (Parts.cons J (Parts.cons J Parts.nil))))) J J (Built.cons (off:=0) (s:=1) J ZP J ZP (Built.cons (off:=1) (s:=1) J ZP J ZP (Built.cons (off:=2) (s:=1) J ZP J ZP (Built.cons (off:=3) (s:=1) J ZP J ZP (Built.cons (off:=4) (s:=1) J ZP J ZP Built.nil))))) ?_
 exact Z9 rfl
 exact AgainG.nil
 refine oTailT (Zsa ?_)
 refine Zn (Za (Zh (Zh (Zi (Zla ?_)))))
 (refine ZC0 rfl ZK (fun w hS=>frame hS ZQ (fun B' hB hS'=>instr_Check hS' (insAt l at_) _ (kApiInstr_mk _ (insAt l at_)))) ?_;rintro ⟨⟩ -)
 refine Zp J (Zn (Za (Zh (Zi (Zo J (Z0 J J (Zn (Za (wC (fun h40=>?_) (fun h40=>?_))))))))))
 refine Zh (Zi (oBuild Parts.nil J J Built.nil (Zo J (Zsa ?_))))
 refine Zp J (Zzp ?_)
 exact ⟨(icF (insAt l at_),noIns,(at_+4+4,false)),⟨got_err (by rw [ins_ok hb hk8,if_pos h40]) h40,by show at_+4+4≤l.length;omega⟩,rfl,Lh⟩
 refine Zj (Zzk ?_)
 refine Zsa ?_
 refine Zp J (Zn (Za (Zl (Zw (ZI2 ?_)))))
 have h40:=Decidable.not_not.1 h40
 exact ⟨(0,insAt l at_,(at_+4+4,false)),⟨got_ok (by rw [ins_ok hb hk8,if_neg (by rw [h40];simp)]) rfl (by show at_+4+4≤l.length;omega),by show at_+4+4≤l.length;omega⟩,rfl,Lh⟩
 exact oStopT
 refine oAltT J ?_ ?_
 refine oAlloc J ZP (fun b6=>?_)
 refine oAgainT ?_ J (fun w0=>?_)
 refine Z8 J J J J (fun w0=>?_) ?_
 refine oIdxA (i:=0) (m:=0) J J J J (by decide) J ?_
 exact Z9 rfl
 refine Z8 J J J J (fun w0=>?_) ?_
 refine Zld ?_
 exact Z9 rfl
 refine Z8 J J J J (fun w0=>?_) ?_
 refine oIdxA (i:=1) (m:=1) J J J J (by decide) J ?_
 exact Z9 rfl
 refine Z8 J J J J (fun w0=>?_) ?_
 refine Zld ?_
 exact Z9 rfl
 refine Z8 J J J J (fun w0=>?_) ?_
 refine oIdxA (i:=2) (m:=2) J J J J (by decide) J ?_
 exact Z9 rfl
 refine Z8 J J J J (fun w0=>?_) ?_
 refine Zld ?_
 exact Z9 rfl
 refine Z8 J J J J (fun w0=>?_) ?_
 refine oIdxA (i:=3) (m:=3) J J J J (by decide) J ?_
 exact Z9 rfl
 refine Z8 J J J J (fun w0=>?_) ?_
 refine Zld ?_
 exact Z9 rfl
 refine Z8 J J J J (fun w0=>?_) ?_
 refine Zo J ?_
 exact Z9 rfl
 exact AgainG.nil
 refine oAltT J ?_ ?_
 (refine ZC0 rfl ZK (fun w hS=>frame hS ZQ (fun B' hB hS'=>instr_readS br A cp l (at_+4) hS' ZO hl hb hcp (Kd.C_grow hB hC))) ?_;rintro ⟨⟨a5,d5⟩,n5⟩ h5)
 rw [rawS_ok ZO] at h5
 obtain ⟨e5,rfl⟩:=Prod.mk.inj h5
 obtain ⟨rfl,rfl⟩:=Prod.mk.inj e5
 refine oAgainT ?_ J (fun w0=>?_)
 refine Z8 J J J J (fun w0=>?_) ?_
 refine oIdxA (i:=0) (m:=0) J J J J (by decide) J ?_
 exact Z9 rfl
 refine Z8 J J J J (fun w0=>?_) ?_
 refine Zld ?_
 exact Z9 rfl
 refine Z8 J J J J (fun w0=>?_) ?_
 refine oIdxA (i:=1) (m:=1) J J J J (by decide) J ?_
 exact Z9 rfl
 refine Z8 J J J J (fun w0=>?_) ?_
 refine Zld ?_
 exact Z9 rfl
 refine Z8 J J J J (fun w0=>?_) ?_
 refine oIdxA (i:=2) (m:=2) J J J J (by decide) J ?_
 exact Z9 rfl
 refine Z8 J J J J (fun w0=>?_) ?_
 refine Zld ?_
 exact Z9 rfl
 refine Z8 J J J J (fun w0=>?_) ?_
 refine oIdxA (i:=3) (m:=3) J J J J (by decide) J ?_
 exact Z9 rfl
 refine Z8 J J J J (fun w0=>?_) ?_
 refine Zld ?_
 exact Z9 rfl
 exact AgainG.nil
 refine oBuild (Parts.cons J (Parts.cons J (Parts.cons J (Parts.cons J (Parts.cons J Parts.nil))))) J J (Built.cons (off:=0) (s:=1) J ZP J ZP (Built.cons (off:=1) (s:=1) J ZP J ZP (Built.cons (off:=2) (s:=1) J ZP J ZP (Built.cons (off:=3) (s:=1) J ZP J ZP (Built.cons (off:=4) (s:=1) J ZP J ZP Built.nil))))) ?_
 refine oTailT (Zsa ?_)
 refine Zn (Za (Zh (Zh (Zi (Zla ?_)))))
 (refine ZC0 rfl ZK (fun w hS=>frame hS ZQ (fun B' hB hS'=>instr_Check hS' (insAt l at_) _ (kApiInstr_mk _ (insAt l at_)))) ?_;rintro ⟨⟩ -)
 refine Zp J (Zn (Za (Zh (Zi (Zo J (Z0 J J (Zn (Za (wC (fun h40=>?_) (fun h40=>?_))))))))))
 refine Zh (Zi (oBuild Parts.nil J J Built.nil (Zo J (Zsa ?_))))
 refine Zp J (Zzp ?_)
 exact ⟨(icF (insAt l at_),noIns,(at_+4+4,false)),⟨got_err (by rw [ins_ok hb hk8,if_pos h40]) h40,by show at_+4+4≤l.length;omega⟩,rfl,Lh⟩
 refine Zj (Zzk ?_)
 refine Zsa ?_
 refine Zp J (Zn (Za (Zl (Zw (ZI2 ?_)))))
 have h40:=Decidable.not_not.1 h40
 exact ⟨(0,insAt l at_,(at_+4+4,false)),⟨got_ok (by rw [ins_ok hb hk8,if_neg (by rw [h40];simp)]) rfl (by show at_+4+4≤l.length;omega),by show at_+4+4≤l.length;omega⟩,rfl,Lh⟩
 exact oStopT
 exact oStopT
theorem data_Get {B:Base}{w:World}(br:Nat) (A:Option Addr) (cp:Nat) (l:List Int) (at_:Nat) (hS:St B [blk br 96 [.slice A l.length cp,.int .i64 ((at_:Nat):Int),.bool true,.bool false]] w) (hat:at_≤l.length) (hl:l.length≤900000) (hb:Byts l) (hcp:l.length≤cp) (hC:(Kd.int .u8).C B.e A l) (W0:World) :
 CW 30 #[.pointer (some ⟨br,0,none⟩)] w (Ret B (fun z:(Int×ApiData×Rs)×(Option Addr×Nat)×Option Addr×Nat=>Got l (datX (l.drop at_)) z.1.1 z.1.2.1 z.1.2.2∧z.1.2.2.1≤l.length) (fun z=>.tuple #[.agg #[.int .i64 z.1.2.1.fKind,.slice z.2.1.1 z.1.2.1.fWords.length z.2.1.2,.slice z.2.2.1 z.1.2.1.fRelocs.length z.2.2.2],.int .i64 z.1.1]) (fun z=>[blk br 96 [.slice A l.length cp,.int .i64 ((z.1.2.2.1:Nat):Int),.bool true,.bool z.1.2.2.2],row (Kd.int .i64) W0 2 (.slice z.2.1.1 (z.1.2.1.fWords).length z.2.1.2) (z.1.2.1.fWords),row kApiReloc W0 92 (.slice z.2.2.1 (z.1.2.1.fRelocs).length z.2.2.2) (z.1.2.1.fRelocs)])):=by
 refine ZX Tryz.func30 hS ?_
 refine Zh (Zi (oAlloc J ZP (fun b2=>?_)))
 refine Zp J (Zn (Za (Zzi ?_)))
 (refine ZC0 rfl ZK (fun w hS=>frame hS ZQ (fun B' hB hS'=>rd_Num br A cp l at_ false hS' hat hl hb hcp (Kd.C_grow hB hC) 1 (by decide))) ?_;rintro ⟨⟨a1,d1⟩,k1⟩ h1)
 have ha1:=rawN_le h1 hat
 refine oBuild (Parts.cons J Parts.nil) J J (Built.cons (off:=0) (s:=1) J ZP J ZP Built.nil) ?_
 refine oAlloc J ZP (fun b4=>?_)
 refine Zsa ?_
 refine Zn (Za (Zh (Zzi ?_)))
 (refine ZC0 rfl ZK (fun w hS=>frame hS ZQ (fun B' hB hS'=>rd_Num br A cp l a1 d1 hS' ha1 hl hb hcp (Kd.C_grow hB hC) 1 (by decide))) ?_;rintro ⟨⟨a2,d2⟩,n2⟩ h2)
 have ha2:=rawN_le h2 ha1
 have hn2:=rawN_in hb h2
 have hdat:=dat_law hb hat h1 h2
 refine Zo J (Zn (Za (Zk (wLoop (ι:=Nat×Option Addr×Nat) (fun z=>[(0,.pointer (some ⟨br,0,none⟩)),(2,.pointer (some ⟨b2,0,none⟩)),(4,.pointer (some ⟨b4,0,none⟩)),(11,.int .i64 n2),(12,.int .i64 (z.1:Int))]) (fun z=>[blk br 96 [.slice A l.length cp,.int .i64 (((rawR l 8 (a2,d2) z.1).1.1:Nat):Int),.bool true,.bool (rawR l 8 (a2,d2) z.1).1.2],blk b2 55 [.int .i64 0,.slice none 0 0,.slice none 0 0],blk b4 55 [.int .i64 k1,.slice z.2.1 (rawR l 8 (a2,d2) z.1).2.length z.2.2,.slice none 0 0],row (Kd.int .i64) W0 2 (.slice z.2.1 ((rawR l 8 (a2,d2) z.1).2).length z.2.2) ((rawR l 8 (a2,d2) z.1).2)]) (fun z=>z.1≤n2.toNat) (fun z=>n2.toNat-z.1) (0,none,0) ?_ cv (Leads.trans (Leads.nilrow (kd:=Kd.int .i64) (W:=W0) (e:=2)) Lh) ?_))))
 exact Nat.zero_le _
 rintro ⟨i,Aw,cw⟩ hi
 dsimp only at hi
 have hle:=rawR_le (l:=l) (w:=8) (s:=(a2,d2)) ha2 i
 have hln:=rawR_len l 8 (a2,d2) i
 try dsimp only
 refine Zh (Zi (Zx J J (Zn (Za (Zh (wC (fun h13=>?_) (fun h13=>?_)))))))
 refine Zj (Za (Zh (Zk (wDrawG J [0,1,2] [(3,[0,1],[]),(4,[0,1],[]),(5,[],[])] [6,7] 24 ZK J J (fun w0=>?_)))))
 refine Zz (n:=1) (m:=1) J J J (Zld ?_)
 refine Zo J (Z4 (Z5 J ?_))
 (refine ZC0 rfl ZK (fun w hS=>frame hS ZQ (fun B' hB hS'=>rd_Num br A cp l (rawR l 8 (a2,d2) i).1.1 (rawR l 8 (a2,d2) i).1.2 hS' hle hl hb hcp (Kd.C_grow hB hC) 8 (by decide))) ?_;rintro ⟨⟨a17,d17⟩,n17⟩ h17)
 refine ZG ?_ J (fun w0=>?_)
 refine Z8 J J J J (fun w0=>?_) ?_
 refine Zz (n:=1) (m:=1) J J J ?_
 exact Z9 rfl
 refine Z8 J J J J (fun w0=>?_) ?_
 refine Zld ?_
 exact Z9 rfl
 exact AgainG.nil
 refine Z4 (Z5 J (oBuildSlice1 J J J J J ZP J (fun b18=>?_)))
 refine ZG ?_ J (fun w0=>?_)
 refine Z8 J J J J (fun w0=>?_) ?_
 refine Zz (n:=1) (m:=1) J J J ?_
 exact Z9 rfl
 refine Z8 J J J J (fun w0=>?_) ?_
 refine Zld ?_
 exact Z9 rfl
 exact AgainG.nil
 refine Z4 (Z5 J (oApp1 _ J J J J ZP ZP J ZO J (fun g19 cp19=>?_)))
 refine ZG ?_ J (fun w0=>?_)
 exact AgainG.nil
 refine Z6 (Zz (n:=1) (m:=1) J J J (Zst ?_))
 refine Zn (Zze ?_)
 refine Zo J (Zn (Za ?_))
 have e2:rawR l 8 (a2,d2) (i+1)=((a17,d17),(rawR l 8 (a2,d2) i).2++[n17]):=by show (_,_)=_;rw [← h17]
 exact ⟨rfl,(i+1,some ⟨g19,0,none⟩,cp19),by show i+1≤n2.toNat;omega,by show n2.toNat-(i+1)<n2.toNat-i;omega,cv,by dsimp only;rw [e2];simp only [List.length_append,List.length_cons,List.length_nil,Nat.zero_add];exact Lh⟩
 obtain rfl:i=n2.toNat:=by omega
 refine Zm (Zb (Zb (Ze (Za (Zh (Zzi ?_))))))
 (refine ZC0 rfl ZK (fun w hS=>frame hS ZQ (fun B' hB hS'=>rd_Num br A cp l (rawR l 8 (a2,d2) n2.toNat).1.1 (rawR l 8 (a2,d2) n2.toNat).1.2 hS' hle hl hb hcp (Kd.C_grow hB hC) 1 (by decide))) ?_;rintro ⟨⟨a3,d3⟩,n3⟩ h3)
 have hn3:=rawN_in hb h3
 refine Zo J (Zn (Za (Zk (wLoop (ι:=Nat×(Rs×List ApiReloc)×Option Addr×Nat) (fun z=>[(0,.pointer (some ⟨br,0,none⟩)),(2,.pointer (some ⟨b2,0,none⟩)),(4,.pointer (some ⟨b4,0,none⟩)),(23,.int .i64 n3),(24,.int .i64 (z.1:Int))]) (fun z=>[blk br 96 [.slice A l.length cp,.int .i64 ((z.2.1.1.1:Nat):Int),.bool true,.bool z.2.1.1.2],blk b2 55 [.int .i64 0,.slice none 0 0,.slice none 0 0],blk b4 55 [.int .i64 k1,.slice Aw (rawR l 8 (a2,d2) n2.toNat).2.length cw,.slice z.2.2.1 z.2.1.2.length z.2.2.2],row (Kd.int .i64) W0 2 (.slice Aw ((rawR l 8 (a2,d2) n2.toNat).2).length cw) ((rawR l 8 (a2,d2) n2.toNat).2),row kApiReloc W0 92 (.slice z.2.2.1 (z.2.1.2).length z.2.2.2) (z.2.1.2)]) (fun z=>LInv relX l (ifR l (listX relX) (rawR l 8 (a2,d2) n2.toNat).1) z.2.1.1 z.2.1.2 z.1 n3.toNat∧z.2.1.2.length=z.1) (fun z=>n3.toNat-z.1) (0,((a3,d3),[]),none,0) ?_ cv (Leads.trans (Leads.nilrow (kd:=kApiReloc) (W:=W0) (e:=92)) Lh) ?_))))
 exact ⟨linv_start relX h3 hle,rfl⟩
 rintro ⟨j,⟨⟨a,b⟩,acc⟩,A3,c3⟩ ⟨hL,hac⟩
 dsimp only at hL hac
 try dsimp only
 refine Zh (Zi (Zx J J (Zn (Za (Zh (wC (fun h25=>?_) (fun h25=>?_)))))))
 have hjn:j<n3.toNat:=by omega
 obtain ⟨hb0,-⟩:=linv_live hL hjn
 have hb0:b=false:=hb0
 subst hb0
 have hja:a≤l.length:=hL.1
 refine Zj (Za (Zh (Zk (Zzi ?_))))
 (refine ZC0 rfl ZK (fun w hS=>frame hS ZQ (fun B' hB hS'=>rd_Num br A cp l a false hS' hja hl hb hcp (Kd.C_grow hB hC) 1 (by decide))) ?_;rintro ⟨⟨a27,d27⟩,n27⟩ h27)
 have ha27:=rawN_le h27 hja
 refine Zo J ?_
 (refine ZC0 rfl ZK (fun w hS=>frame hS ZQ (fun B' hB hS'=>rd_Num br A cp l a27 d27 hS' ha27 hl hb hcp (Kd.C_grow hB hC) 1 (by decide))) ?_;rintro ⟨⟨a29,d29⟩,n29⟩ h29)
 have ha29:=rawN_le h29 ha27
 refine oBuild (Parts.cons J (Parts.cons J Parts.nil)) J J (Built.cons (off:=0) (s:=1) J ZP J ZP (Built.cons (off:=1) (s:=1) J ZP J ZP Built.nil)) ?_
 refine oAlloc J ZP (fun b5=>?_)
 refine Zsa ?_
 refine Zn (Za (Zzi ?_))
 (refine ZC0 rfl ZK (fun w hS=>frame hS ZQ (fun B' hB hS'=>rd_Num br A cp l a29 d29 hS' ha29 hl hb hcp (Kd.C_grow hB hC) 1 (by decide))) ?_;rintro ⟨⟨a32,d32⟩,n32⟩ h32)
 have hr:=rel_law hja h27 h29 h32
 have ha32:=rawN_le h32 ha29
 refine Zp J (Zn (Za (Zh (Zk (Zzi ?_)))))
 (refine ZC0 rfl ZK (fun w hS=>frame hS ZQ (fun B' hB hS'=>rd_Bad br A cp l a32 d32 hS')) ?_;rintro ⟨⟩ -)
 refine Zp J (Zn (Za (wC (fun h33=>?_) (fun h33=>?_))))
 refine Zh (Zi (oBuild Parts.nil J J Built.nil (Zsa ?_)))
 refine Zp J (Zn (Za (Zl (Zf (Zc (Zf (Zc (Zc (Zf (Zc (Zw (ZI2 ?_))))))))))))
 exact ⟨((5,noDat,(a32,d32)),(none,0),(none,0)),⟨got_err (hdat.2 _ (linv_err hL hjn (hr.1 h33))) (by decide:(5:Int)≠0),ha32⟩,rfl,Leads.trans (Leads.nilrow (kd:=Kd.int .i64) (W:=W0) (e:=2)) (Leads.trans (Leads.nilrow (kd:=kApiReloc) (W:=W0) (e:=92)) Lh)⟩
 refine Zh (Zi (Zo J (Z1 J J (Zp J (Zn (Za (wC (fun h37=>?_) (fun h37=>?_))))))))
 refine Zh (Zi (oBuild Parts.nil J J Built.nil (Zsa ?_)))
 refine Zp J (Zn (Za (Zl (Zf (Zc (Zf (Zc (Zc (Zf (Zc (Zw (ZI2 ?_))))))))))))
 exact ⟨((3,noDat,(a32,d32)),(none,0),(none,0)),⟨got_err (hdat.2 _ (linv_err hL hjn (hr.2.1 h33 h37))) (by decide:(3:Int)≠0),ha32⟩,rfl,Leads.trans (Leads.nilrow (kd:=Kd.int .i64) (W:=W0) (e:=2)) (Leads.trans (Leads.nilrow (kd:=kApiReloc) (W:=W0) (e:=92)) Lh)⟩
 refine Zj (Zd (Za (Zh (Zi (Zo J (Zy J J (Zz (n:=2) (m:=2) J J J (Zst ?_))))))))
 refine Zn (Za (Zi (Zz (n:=2) (m:=2) J J J (Zld ?_))))
 refine Zla ?_
 refine oBuildSlice1 J J J J J ZP J (fun b47=>?_)
 refine oApp1 (kd:=kApiReloc) (⟨n27,n29,decide (n32=1)⟩:ApiReloc) J J J J ZP ZP (kApiReloc_mk _ _) ZO J (fun g48 cp48=>?_)
 refine Zz (n:=2) (m:=2) J J J (Zst ?_)
 refine Zn (Zze ?_)
 refine Zo J (Zn (Za ?_))
 exact ⟨rfl,(j+1,((a32,d32),acc++[⟨n27,n29,decide (n32=1)⟩]),some ⟨g48,0,none⟩,cp48),⟨linv_step hL hjn (hr.2.2 h33 h37).1 h33 (hr.2.2 h33 h37).2.2,by rw [List.length_append,hac];rfl⟩,by show n3.toNat-(j+1)<n3.toNat-j;omega,cv,by dsimp only;rw [List.length_append];exact Lh⟩
 obtain rfl:j=n3.toNat:=by have:=hL.2.1;omega
 have hE:=linv_end hL
 refine Zm (Zb (Zb (Ze (Za (Zh (Zzi ?_))))))
 (refine ZC0 rfl ZK (fun w hS=>frame hS ZQ (fun B' hB hS'=>rd_Bad br A cp l a b hS')) ?_;rintro ⟨⟩ -)
 refine Zn (Za (wC (fun h52=>?_) (fun h52=>?_)))
 refine Zh (Zi (oBuild Parts.nil J J Built.nil (Zsa ?_)))
 refine Zp J (Zzp ?_)
 exact ⟨((5,noDat,(a,b)),(none,0),(none,0)),⟨got_err (hdat.2 _ (hE.2 h52)) (by decide:(5:Int)≠0),hL.1⟩,rfl,Leads.trans (Leads.nilrow (kd:=Kd.int .i64) (W:=W0) (e:=2)) (Leads.trans (Leads.nilrow (kd:=kApiReloc) (W:=W0) (e:=92)) Lh)⟩
 refine Zj (Zzk ?_)
 refine Zsa ?_
 refine Zp J (Zn (Za (Zl (Zw (ZI2 ?_)))))
 exact ⟨((0,⟨k1,(rawR l 8 (a2,d2) n2.toNat).2,acc⟩,(a,b)),(Aw,cw),(A3,c3)),⟨got_ok (hdat.1 _ _ (hE.1 h52)) h52 hL.1,hL.1⟩,rfl,Lh⟩
theorem fr_fail {B:Base}{w:World}(rr br:Nat) (e x:Int) (hS:St B [blk rr 103 [.pointer (some ⟨br,0,none⟩),.int .i64 (e)]] w) :
 CW 69 #[.pointer (some ⟨rr,0,none⟩),.int .i64 x] w (Ret B (fun _:Unit=>True) (fun _=>.tuple #[]) (fun _=>[blk rr 103 [.pointer (some ⟨br,0,none⟩),.int .i64 (if e=0 then x else e)]])):=by
 refine ZX Tryz.func69 hS ?_
 refine Zh (Zi (Zo J (Z3 J (Zz (n:=1) (m:=1) J J J (Zld ?_)))))
 refine Zy J J (Zn (Za (wC (fun h8=>?_) (fun h8=>?_))))
 refine Zi (Zo J (Zo J (Z3 J (Zz (n:=1) (m:=1) J J J (Zst ?_)))))
 refine Zn (fin_n ?_)
 refine ⟨rfl,_,ResL.nil,?_⟩
 exact ⟨(),trivial,rfl,by rw [if_pos h8];exact Lh⟩
 refine Zj (fin_n ?_)
 refine ⟨rfl,_,ResL.nil,?_⟩
 exact ⟨(),trivial,rfl,by rw [if_neg h8];exact Lh⟩
theorem fr_num {B:Base}{w:World}(rr br:Nat) (A:Option Addr) (cp:Nat) (l:List Int) (a:Nat) (d:Bool) (e:Int) (hS:St B [blk rr 103 [.pointer (some ⟨br,0,none⟩),.int .i64 (e)],blk br 96 [.slice A l.length cp,.int .i64 ((a:Nat):Int),.bool true,.bool d]] w) (hat:a≤l.length) (hl:l.length≤900000) (hb:Byts l) (hcp:l.length≤cp) (hC:(Kd.int .u8).C B.e A l) (k:Nat) (hk:1≤k∧k≤8) :
 CW 62 #[.pointer (some ⟨rr,0,none⟩),.int .i64 (k:Int)] w (Ret B (fun z:Rs×Int×Int=>(z.1,z.2.1)=rawN l (a,d) k∧z.2.2=if e=0∧z.1.2=true then 5 else e) (fun z=>.int .i64 z.2.1) (fun z=>[blk rr 103 [.pointer (some ⟨br,0,none⟩),.int .i64 (z.2.2)],blk br 96 [.slice A l.length cp,.int .i64 ((z.1.1:Nat):Int),.bool true,.bool z.1.2]])):=by
 refine ZX Tryz.func62 hS ?_
 refine Zh (Zi (Zp J (Zn (Za (Zh (Zi (Zo J (Z3 J (Zz (n:=0) (m:=0) J J J (Zld ?_))))))))))
 refine Zo J ?_
 (refine ZC0 rfl ZK (fun w hS=>frame hS ZQ (fun B' hB hS'=>rd_Num br A cp l a d hS' hat hl hb hcp (Kd.C_grow hB hC) k hk)) ?_;rintro ⟨⟨a1,d1⟩,n1⟩ h1)
 refine Zp J (Zn (Za (Zh (Zh (Zi (Zo J (Z3 J (Zz (n:=0) (m:=0) J J J (Zld ?_)))))))))
 (refine ZC0 rfl ZK (fun w hS=>frame hS ZQ (fun B' hB hS'=>rd_Bad br A cp l a1 d1 hS')) ?_;rintro ⟨⟩ -)
 refine Zn (Za (wC (fun h16=>?_) (fun h16=>?_)))
 refine Zi (Zo J ?_)
 (refine ZC0 rfl ZK (fun w hS=>frame hS ZQ (fun B' hB hS'=>fr_fail rr br e 5 hS')) ?_;rintro ⟨⟩ -)
 refine Zn (Zzq ?_)
 exact ⟨((a1,d1),n1,if e=0 then 5 else e),⟨h1,by dsimp only;rw [show d1=true from h16];simp⟩,rfl,Lh⟩
 refine Zj (Zzq ?_)
 exact ⟨((a1,d1),n1,e),⟨h1,by dsimp only;rw [show d1=false from h16];simp⟩,rfl,Lh⟩
def yesE (e:Int) (b:Bool) (n:Int):Int:=if 1<n∧(if e=0∧b=true then 5 else e)=0 then 3 else (if e=0∧b=true then 5 else e)
theorem fr_yes {B:Base}{w:World}(rr br:Nat) (A:Option Addr) (cp:Nat) (l:List Int) (a:Nat) (d:Bool) (e:Int) (hS:St B [blk rr 103 [.pointer (some ⟨br,0,none⟩),.int .i64 (e)],blk br 96 [.slice A l.length cp,.int .i64 ((a:Nat):Int),.bool true,.bool d]] w) (hat:a≤l.length) (hl:l.length≤900000) (hb:Byts l) (hcp:l.length≤cp) (hC:(Kd.int .u8).C B.e A l) :
 CW 65 #[.pointer (some ⟨rr,0,none⟩)] w (Ret B (fun z:Rs×Int×Int=>(z.1,z.2.1)=rawN l (a,d) 1∧z.2.2=yesE e z.1.2 z.2.1) (fun z=>.bool (decide (z.2.1=1))) (fun z=>[blk rr 103 [.pointer (some ⟨br,0,none⟩),.int .i64 (z.2.2)],blk br 96 [.slice A l.length cp,.int .i64 ((z.1.1:Nat):Int),.bool true,.bool z.1.2]])):=by
 refine ZX Tryz.func65 hS ?_
 refine Zh (Zi (Zp J (Zn (Za (Zzi ?_)))))
 (refine ZC0 rfl ZK (fun w hS=>frame hS ZQ (fun B' hB hS'=>fr_num rr br A cp l a d e hS' hat hl hb hcp (Kd.C_grow hB hC) 1 (by decide))) ?_;rintro ⟨⟨a1,d1⟩,n1,e1⟩ ⟨h1,he1⟩)
 dsimp only at h1 he1
 refine Zp J (Zn (Za (Zh (Zh (Zi (Zo J (Z1 J J (Zn (Za (wC (fun h7=>?_) (fun h7=>?_)))))))))))
 refine Zi (Zo J ?_)
 (refine ZC0 rfl ZK (fun w hS=>frame hS ZQ (fun B' hB hS'=>fr_fail rr br e1 3 hS')) ?_;rintro ⟨⟩ -)
 refine Zn (Za (Zh (Zi (Zo J (Zy J J (Zzh ?_))))))
 exact ⟨((a1,d1),n1,if e1=0 then 3 else e1),⟨h1,by dsimp only;unfold yesE;rw [← he1];by_cases k:e1=0;rw [if_pos k,if_pos ⟨h7,k⟩];rw [if_neg k,if_neg (fun h=>k h.2)]⟩,rfl,Lh⟩
 refine Zj (Za (Zh (Zi (Zo J (Zy J J (Zzh ?_))))))
 exact ⟨((a1,d1),n1,e1),⟨h1,by dsimp only;unfold yesE;rw [← he1,if_neg (fun h=>h7 h.1)]⟩,rfl,Lh⟩
theorem unp3 {B:Base}{w:World}{a b:Res}{Ψ:List Res}(h:St B [a,b,bun Ψ] w):St B (Ψ++[a,b]) w:=by
 have h2:St B (bun Ψ :: [a,b]) w:=h.perm (by
  refine List.Perm.trans (List.Perm.cons a (List.Perm.swap _ _ _)) (List.Perm.swap _ _ _))
 exact h2.unpack
theorem pk3 {B:Base}{H Ψ:List Res}{a b:Res}(h:Leads B H (Ψ++[a,b])):Leads B H [a,b,bun Ψ]:=fun w hS=>by
 have h2:St B (bun Ψ :: [a,b]) w:=(h w hS).pack
 exact h2.perm ((List.Perm.swap _ _ _).trans (List.Perm.cons a (List.Perm.swap _ _ _)))
theorem pk_of {B:Base}{Φ Φ' Ψ:List Res}(hs:Split Φ Ψ Φ'):Leads B Φ (bun Ψ :: Φ'):=fun w h=>(h.perm hs.perm).pack
theorem un_of {B:Base}{Φ Φ' Ψ:List Res}(hp:Pick Φ (bun Ψ) Φ'):Leads B Φ (Ψ++Φ'):=fun w h=>(h.perm hp.perm).unpack
def nxt {α β:Type}(σ:Except Int (α×List Int)) (p:Pr β):Except Int ((α×β)×List Int):=match σ with
  | .ok (a,r)=>(match p r with
    | .ok (b,r')=>.ok ((a,b),r')
    | .error e=>.error e)
  | .error e=>.error e
def runX {α β:Type}(σ:Except Int (α×List Int)) (f:α→Pr β):Except Int (β×List Int):=match σ with
  | .ok (a,r)=>f a r
  | .error e=>.error e
theorem run_nxt {α β γ:Type}(σ:Except Int (α×List Int)) (p:Pr β) (f:α×β→Pr γ):runX (nxt σ p) f=runX σ (fun a=>bnd p fun b=>f (a,b)):=by
 cases σ with
 | error e=>rfl
 | ok z=>
  obtain ⟨a,r⟩:=z
  unfold nxt runX bnd
  dsimp only
  cases p r with
  | error e=>rfl
  | ok y=>rfl
theorem got_nxt {α β:Type}{l:List Int}{σ:Except Int (α×List Int)}{p:Pr β}{e e':Int}{v:α}{x:β}{s s':Rs}(h:Got l σ e v s) (h0:e=0→Got l (p (l.drop s.1)) e' x s') (h1:e≠0→e'=e):Got l (nxt σ p) e' (v,x) s':=by
 obtain ⟨g0,g1⟩:=got_inv h
 by_cases k:e=0
 · obtain ⟨hσ,hs,hl⟩:=g0 k
   rw [hσ]
   obtain ⟨k0,k1⟩:=got_inv (h0 k)
   by_cases k2:e'=0
   · obtain ⟨hp,hs',hl'⟩:=k0 k2
     rw [k2]
     exact got_ok (by unfold nxt;dsimp only;rw [hp]) hs' hl'
   · exact got_err (by unfold nxt;dsimp only;rw [k1 k2]) k2
 · rw [g1 k,h1 k]
   exact got_err rfl k
theorem num_got {l:List Int}{s s':Rs}{e' n:Int}{w:Nat}(hs:s.2=false) (hl:s.1≤l.length) (hn:(s',n)=rawN l s w) (he:e'=if (0:Int)=0∧s'.2=true then 5 else 0):Got l (numX w (l.drop s.1)) e' n s':=by
 obtain ⟨p,b⟩:=s
 obtain rfl:b=false:=hs
 rcases seqN hn hl with ⟨p',rfl,hp',e1⟩ | ⟨rfl,rfl,e1⟩
 · rw [he,if_neg (by simp)]
   have:=e1 pur
   refine got_ok ?_ J hp'
   cases h2:numX w (l.drop p) with
   | error x=>rw [bnd_err h2] at this;cases this
   | ok z=>obtain ⟨y,r⟩:=z;rw [bnd_to h2] at this;exact this
 · rw [he,if_pos ⟨rfl,rfl⟩]
   have:=e1 pur
   refine got_err ?_ (by decide)
   cases h2:numX w (l.drop p) with
   | error x=>rw [bnd_err h2] at this;exact congrArg Except.error (Except.error.inj this)
   | ok z=>obtain ⟨y,r⟩:=z;rw [bnd_to h2] at this;cases this
theorem got_run {α β:Type}{l:List Int}{σ:Except Int (α×List Int)}{e:Int}{v:α}{s:Rs}(f:α→β) (h:Got l σ e v s):Got l (runX σ (fun a=>pur (f a))) e (f v) s:=by
 obtain ⟨g0,g1⟩:=got_inv h
 by_cases k:e=0
 · obtain ⟨h1,h2,h3⟩:=g0 k
   rw [h1,k]
   exact got_ok rfl h2 h3
 · rw [g1 k]
   exact got_err rfl k
theorem got_zero {l:List Int}{p:Nat}(hp:p≤l.length):Got l (.ok ((),l.drop p)) 0 () (p,false):=got_ok rfl rfl hp
theorem got_many {α β:Type}{l:List Int}{σ:Except Int (α×List Int)}{p:Pr β}{e e':Int}{v:α}{xs:List β}{s s':Rs}(h:Got l σ e v s) (h0:e=0→Got l (ifR l (listX p) s) e' xs s') (h1:e≠0→e'=e):Got l (nxt σ (listX p)) e' (v,xs) s':=by
 refine got_nxt h (fun k=>?_) h1
 have h2:=h0 k
 obtain ⟨_,hs,_⟩:=(got_inv h).1 k
 unfold ifR at h2
 rwa [if_neg (by rw [hs];simp)] at h2
theorem lin_run (r:List Int):linX r=runX (nxt (nxt (.ok ((),r)) (numX 1)) (numX 2)) (fun t=>pur ⟨t.1.2,t.2⟩):=by rw [run_nxt,run_nxt];rfl
theorem rel_run (r:List Int):relX r=runX (nxt (nxt (nxt (.ok ((),r)) (numX 1)) (numX 1)) flagX) (fun t=>pur ⟨t.1.1.2,t.1.2,t.2⟩):=by rw [run_nxt,run_nxt,run_nxt];rfl
theorem fun_run (r:List Int):funX r=runX (nxt (nxt (nxt (nxt (nxt (nxt (nxt (nxt (nxt (.ok ((),r)) (numX 1)) (listX (numX 1))) (numX 2)) flagX) (numX 1)) (numX 1)) (listX linX)) (listX insX)) (listX relX)) (fun t=>pur ⟨t.1.1.1.1.1.1.1.1.2,t.1.1.1.1.1.1.1.2,t.1.1.1.1.1.1.2,t.1.1.1.1.1.2,t.1.1.1.1.2,t.1.1.1.2,t.1.1.2,t.1.2,t.2⟩):=by
 rw [run_nxt,run_nxt,run_nxt,run_nxt,run_nxt,run_nxt,run_nxt,run_nxt,run_nxt];rfl
theorem got_num {α:Type}{l:List Int}{σ:Except Int (α×List Int)}{v:α}{s s':Rs}{e e' n:Int}{w:Nat}(h:Got l σ e v s) (hn:(s',n)=rawN l s w) (he:e'=if e=0∧s'.2=true then 5 else e):Got l (nxt σ (numX w)) e' (v,n) s':=by
 refine got_nxt h (fun k=>?_) (fun k=>by rw [he,if_neg (fun h=>k h.1)])
 obtain ⟨hσ,hs,hl⟩:=(got_inv h).1 k
 obtain ⟨p,b⟩:=s
 obtain rfl:b=false:=hs
 rcases seqN hn hl with ⟨p',rfl,hp',e1⟩ | ⟨rfl,rfl,e1⟩
 · rw [he,if_neg (by simp),k]
   have:=e1 pur
   refine got_ok ?_ J hp'
   cases h2:numX w (l.drop p) with
   | error x=>rw [bnd_err h2] at this;cases this
   | ok z=>obtain ⟨y,r⟩:=z;rw [bnd_to h2] at this;exact this
 · rw [he,if_pos ⟨k,rfl⟩]
   have:=e1 pur
   refine got_err ?_ (by decide)
   cases h2:numX w (l.drop p) with
   | error x=>rw [bnd_err h2] at this;exact congrArg Except.error (Except.error.inj this)
   | ok z=>obtain ⟨y,r⟩:=z;rw [bnd_to h2] at this;cases this
theorem got_yes {α:Type}{l:List Int}{σ:Except Int (α×List Int)}{v:α}{s s':Rs}{e e' n:Int}(h:Got l σ e v s) (hn:(s',n)=rawN l s 1) (he:e'=yesE e s'.2 n):Got l (nxt σ flagX) e' (v,decide (n=1)) s':=by
 refine got_nxt h (fun k=>?_) (fun k=>by rw [he];unfold yesE;rw [if_neg (show ¬ (e=0∧s'.2=true) from fun h=>k h.1),if_neg (fun h=>k h.2)])
 obtain ⟨hσ,hs,hl⟩:=(got_inv h).1 k
 obtain ⟨p,b⟩:=s
 obtain rfl:b=false:=hs
 have pf:∀ (r:List Int),bnd flagX pur r=flagX r:=fun r=>by
  cases h2:flagX r with
  | error x=>rw [bnd_err h2]
  | ok z=>obtain ⟨y,r'⟩:=z;rw [bnd_to h2];rfl
 rcases seqN hn hl with ⟨p',rfl,hp',e1⟩ | ⟨rfl,rfl,e1⟩
 · have hf:=bnd_flag_ok e1 pur
   rw [pf] at hf
   rw [hf,he]
   unfold yesE
   rw [if_neg (show ¬ (e=0∧(p',false).2=true) by simp)]
   by_cases k1:1<n
   · rw [if_pos k1,if_pos ⟨k1,k⟩]
     exact got_err rfl (by decide)
   · rw [if_neg k1,if_neg (fun h=>k1 h.1),k]
     exact got_ok rfl rfl hp'
 · have hf:=bnd_flag_no e1 pur
   rw [pf] at hf
   rw [hf,he]
   unfold yesE
   rw [if_pos (show e=0∧(p,true).2=true from ⟨k,rfl⟩),if_neg (by decide)]
   exact got_err rfl (by decide)
def MInv {α κ:Type}(p:Pr α) (l:List Int) (σ:Except Int (List α×List Int)) (vl:κ→List α) (k0 k:κ) (s:Rs) (e:Int) (acc:List α) (i N:Nat):Prop:=
  (e=0→LInv p l σ s acc i N∧s.2=false∧vl k=vl k0++acc∧acc.length=i)∧(e≠0→σ=.error e)
theorem many_start {α κ:Type}(p:Pr α) {l:List Int}{vl:κ→List α}{k0:κ}{a a1:Nat}{d d1:Bool}{n1 e e1:Int}(h1:((a1,d1),n1)=rawN l (a,d) 1) (hat:a≤l.length) (he:e1=if e=0∧d1=true then 5 else e):a1≤l.length∧0≤n1.toNat∧(e≠0→e1=e)∧(e=0→MInv p l (ifR l (listX p) (a,d)) vl k0 k0 (a1,d1) e1 [] 0 n1.toNat):=by
 have hL:=linv_start p h1 hat
 refine ⟨rawN_le h1 hat,Nat.zero_le _,fun h=>by rw [he,if_neg (fun k=>h k.1)],fun h=>?_⟩
 subst h
 cases d1 with
 | true=>
  obtain rfl:e1=5:=by rw [he,if_pos ⟨rfl,rfl⟩]
  refine ⟨fun h=>absurd h (by decide),fun _=>?_⟩
  obtain ⟨_,_,h3 | h3⟩:=hL
  · cases h3.1
  · exact h3.2.1
 | false=>
  obtain rfl:e1=0:=by rw [he,if_neg (by simp)]
  exact ⟨fun _=>⟨hL,rfl,by rw [List.append_nil],rfl⟩,fun h=>absurd rfl h⟩
theorem minv_step {α κ:Type}{p:Pr α}{l:List Int}{σ:Except Int (List α×List Int)}{vl:κ→List α}{k0 k k':κ}{s s':Rs}{e':Int}{acc:List α}{x:α}{i N:Nat}(h:MInv p l σ vl k0 k s 0 acc i N) (hi:i<N) (g:Got l (p (l.drop s.1)) e' x s') (u:e'=0→vl k'=vl k++[x]):MInv p l σ vl k0 k' s' e' (acc++[x]) (i+1) N:=by
 obtain ⟨hL,hs,hv,hac⟩:=h.1 rfl
 obtain ⟨g0,g1⟩:=got_inv g
 refine ⟨fun k=>?_,fun k=>linv_err hL hi (g1 k)⟩
 obtain ⟨hp,hs',hl'⟩:=g0 k
 exact ⟨linv_step hL hi hp hs' hl',hs',by rw [u k,hv,List.append_assoc],by rw [List.length_append,hac];rfl⟩
theorem minv_end {α κ:Type}{p:Pr α}{l:List Int}{σ:Except Int (List α×List Int)}{vl:κ→List α}{k0 k:κ}{s:Rs}{e:Int}{acc:List α}{N:Nat}(h:MInv p l σ vl k0 k s e acc N N) (hl:s.1≤l.length):Got l σ e acc s∧(e=0→vl k=vl k0++acc):=by
 by_cases k:e=0
 · obtain ⟨hL,hs,hv,hac⟩:=h.1 k
   subst k
   exact ⟨got_ok ((linv_end hL).1 hs) hs hl,fun _=>hv⟩
 · exact ⟨got_err (h.2 k) k,fun h=>absurd h k⟩
theorem fun_many {α κ:Type}{B:Base}{w:World}(rr br:Nat) (A:Option Addr) (cp:Nat) (l:List Int) (p:Pr α) (Q:κ→Res) (vl:κ→List α) (gf:Nat) (lb:Array Value) (hg:goodF Tryz.prog gf=true) (hl:l.length≤900000) (hb:Byts l) (hcp:l.length≤cp) (W0:World) (hW:Grow W0 B.e) (hC0:(Kd.int .u8).C W0 A l)
 (hh:∀ B' w (k:κ) (s:Rs),Grow W0 B'.e→s.1≤l.length→s.2=false→(vl k).length≤600→St B' [blk rr 103 [.pointer (some ⟨br,0,none⟩),.int .i64 (0)],blk br 96 [.slice A l.length cp,.int .i64 ((s.1:Nat):Int),.bool true,.bool s.2],Q k] w→CW gf (#[]++([]:List Value).toArray++lb) w (Ret B' (fun z:κ×Rs×Int×α=>z.2.1.1≤l.length∧Got l (p (l.drop s.1)) z.2.2.1 z.2.2.2 z.2.1∧(z.2.2.1=0→vl z.1=vl k++[z.2.2.2])) (fun _=>.tuple #[]) (fun z=>[blk rr 103 [.pointer (some ⟨br,0,none⟩),.int .i64 (z.2.2.1)],blk br 96 [.slice A l.length cp,.int .i64 ((z.2.1.1:Nat):Int),.bool true,.bool z.2.1.2],Q z.1])))
 (k0:κ) (hk0:(vl k0).length≤300) (a:Nat) (d:Bool) (e:Int) (hat:a≤l.length) (hS:St B [blk rr 103 [.pointer (some ⟨br,0,none⟩),.int .i64 (e)],blk br 96 [.slice A l.length cp,.int .i64 ((a:Nat):Int),.bool true,.bool d],Q k0] w) :
 CW 63 #[.pointer (some ⟨rr,0,none⟩),.func (.func gf) #[] lb] w (Ret B (fun z:κ×Rs×Int×List α=>z.2.1.1≤l.length∧(e≠0→z.2.2.1=e)∧(e=0→Got l (ifR l (listX p) (a,d)) z.2.2.1 z.2.2.2 z.2.1∧(z.2.2.1=0→vl z.1=vl k0++z.2.2.2))) (fun _=>.tuple #[]) (fun z=>[blk rr 103 [.pointer (some ⟨br,0,none⟩),.int .i64 (z.2.2.1)],blk br 96 [.slice A l.length cp,.int .i64 ((z.2.1.1:Nat):Int),.bool true,.bool z.2.1.2],Q z.1])):=by
 have hC:=Kd.C_grow hW hC0
 refine ZX Tryz.func63 hS ?_
 refine Zh (Zi (Zo J ?_))
 (refine ZC0 rfl ZK (fun w hS=>frame hS ZQ (fun B' hB hS'=>fr_num rr br A cp l a d e hS' hat hl hb hcp (Kd.C_grow hB hC) 1 (by decide))) ?_;rintro ⟨⟨a1,d1⟩,n1,e1⟩ ⟨h1,he1⟩)
 dsimp only at h1 he1
 have hn1:=rawN_in hb h1
 refine Zo J (Zn (Za (Zk (wLoop (ι:=Nat×κ×Rs×Int×List α) (fun z=>[(0,.pointer (some ⟨rr,0,none⟩)),(1,.func (.func gf) #[] lb),(5,.int .i64 n1),(6,.int .i64 (z.1:Int))]) (fun z=>[blk rr 103 [.pointer (some ⟨br,0,none⟩),.int .i64 (z.2.2.2.1)],blk br 96 [.slice A l.length cp,.int .i64 ((z.2.2.1.1:Nat):Int),.bool true,.bool z.2.2.1.2],Q z.2.1]) (fun z=>z.2.2.1.1≤l.length∧z.1≤n1.toNat∧(e≠0→z.2.2.2.1=e)∧(e=0→MInv p l (ifR l (listX p) (a,d)) vl k0 z.2.1 z.2.2.1 z.2.2.2.1 z.2.2.2.2 z.1 n1.toNat)) (fun z=>n1.toNat-z.1) (0,k0,(a1,d1),e1,[]) ?_ cv (Leads.has ZQ) ?_))))
 exact many_start p h1 hat he1
 rintro ⟨i,k,⟨a2,d2⟩,e2,acc⟩ ⟨hle,hin,hE1,hE0⟩
 dsimp only at hle hin hE1 hE0
 try dsimp only
 refine Zh (Zi (Zx J J (Zn (Za (Zh (wC (fun h7=>?_) (fun h7=>?_)))))))
 have hi:i<n1.toNat:=by omega
 refine Zj (Za (Zh (Zk (Zh (Zh (Zi (Zo J (Z3 J (Zz (n:=1) (m:=1) J J J (Zld ?_))))))))))
 refine Z0 J J (Zn (Za (wC (fun h12=>?_) (fun h12=>?_))))
 refine Zl (Zc (Zf (Zc (Zc (Zf (Zw ?_))))))
 refine ⟨rfl,_,ResL.nil,?_⟩
 exact ⟨(k,(a2,d2),e2,acc),⟨hle,hE1,fun h0=>⟨got_err ((hE0 h0).2 h12) h12,fun h=>absurd h h12⟩⟩,rfl,Lh⟩
 have h12:e2=0:=Decidable.not_not.1 h12
 have he0:e=0:=by by_cases k:e=0;exact k;exact absurd ((hE1 k).symm.trans h12) k
 have hM:=hE0 he0
 have hd2:d2=false:=(hM.1 h12).2.1
 have hvl:(vl k).length≤600:=by rw [(hM.1 h12).2.2.1,List.length_append,(hM.1 h12).2.2.2];omega
 subst h12
 subst hd2
 refine Zj (Za (Zi (Zo J ?_)))
 (refine oCallV rfl rfl rfl hg (fun w hS=>frame hS ZQ (fun B' hB hS'=>hh B' w k (a2,false) (hW.trans hB) hle rfl hvl hS')) ?_;rintro ⟨k',⟨a3,d3⟩,e3,x3⟩ ⟨h3,g3,u3⟩;dsimp only at h3 g3 u3)
 refine Zn (Zze ?_)
 refine Zo J (Zn (Za ?_))
 exact ⟨rfl,(i+1,k',(a3,d3),e3,acc++[x3]),⟨h3,hi,fun hne=>absurd he0 hne,fun _=>minv_step hM hi g3 u3⟩,by show n1.toNat-(i+1)<n1.toNat-i;omega,cv,Lh⟩
 obtain rfl:i=n1.toNat:=by omega
 refine Zm (Zb (Zb (Ze (fin_n ?_))))
 refine ⟨rfl,_,ResL.nil,?_⟩
 exact ⟨(k,(a2,d2),e2,acc),⟨hle,hE1,fun h0=>minv_end (hE0 h0) hle⟩,rfl,Lh⟩
def noFun:ApiFunc:=⟨0,[],0,false,0,0,[],[],[]⟩
theorem fun_clo1 {B:Base}{w:World}(rr br b5 b4:Nat) (A:Option Addr) (cp:Nat) (l:List Int) (v0 v1 v2 v3 v4 v5 v6 v7 v8:Value) (W0 W1:World) (hW:Grow W1 B.e) (hC1:(Kd.int .u8).C W1 A l) (hl:l.length≤900000) (hb:Byts l) (hcp:l.length≤cp) (k:List Int×Option Addr×Nat) (s:Rs) (hat:s.1≤l.length) (hs:s.2=false) (hk:k.1.length≤600) (hS:St B [blk rr 103 [.pointer (some ⟨br,0,none⟩),.int .i64 (0)],blk br 96 [.slice A l.length cp,.int .i64 ((s.1:Nat):Int),.bool true,.bool s.2],bun [blk b5 51 [v0,.slice k.2.1 (k.1).length k.2.2,v2,v3,v4,v5,v6,v7,v8],blk b4 101 [.pointer (some ⟨rr,0,none⟩)],row (Kd.int .i64) W0 3 (.slice k.2.1 (k.1).length k.2.2) (k.1)]] w) :
 CW 64 #[.pointer (some ⟨b5,0,none⟩),.pointer (some ⟨b4,0,none⟩)] w (Ret B (fun z:(List Int×Option Addr×Nat)×Rs×Int×Int=>z.2.1.1≤l.length∧Got l (numX 1 (l.drop s.1)) z.2.2.1 z.2.2.2 z.2.1∧(z.2.2.1=0→z.1.1=k.1++[z.2.2.2])) (fun _=>.tuple #[]) (fun z=>[blk rr 103 [.pointer (some ⟨br,0,none⟩),.int .i64 (z.2.2.1)],blk br 96 [.slice A l.length cp,.int .i64 ((z.2.1.1:Nat):Int),.bool true,.bool z.2.1.2],bun [blk b5 51 [v0,.slice z.1.2.1 (z.1.1).length z.1.2.2,v2,v3,v4,v5,v6,v7,v8],blk b4 101 [.pointer (some ⟨rr,0,none⟩)],row (Kd.int .i64) W0 3 (.slice z.1.2.1 (z.1.1).length z.1.2.2) (z.1.1)]])):=by
 obtain ⟨xs,Ak,ck⟩:=k
 obtain ⟨a,d⟩:=s
 obtain rfl:d=false:=hs
 have hC:=Kd.C_grow hW hC1
 dsimp only at hat hk
 have hS:=unp3 hS
 refine ZX Tryz.func64 hS ?_
 refine wDrawG J [0,1,2] [(3,[0,1],[]),(4,[0,1],[]),(5,[],[])] [6,7] 24 ZK J J (fun w0=>?_)
 refine Zz (n:=1) (m:=1) J J J (Zld ?_)
 refine Zld ?_
 refine Z4 (Z5 J ?_)
 (refine ZC0 rfl ZK (fun w hS=>frame hS ZQ (fun B' hB hS'=>fr_num rr br A cp l a false 0 hS' hat hl hb hcp (Kd.C_grow hB hC) 1 (by decide))) ?_;rintro ⟨⟨a1,d1⟩,n1,e1⟩ ⟨h1,he1⟩)
 dsimp only at h1 he1
 refine ZG ?_ J (fun w0=>?_)
 refine Z8 J J J J (fun w0=>?_) ?_
 refine Zz (n:=1) (m:=1) J J J ?_
 exact Z9 rfl
 refine Z8 J J J J (fun w0=>?_) ?_
 refine Zld ?_
 exact Z9 rfl
 exact AgainG.nil
 refine Z4 (Z5 J (oBuildSlice1 J J J J J ZP J (fun b6=>?_)))
 refine ZG ?_ J (fun w0=>?_)
 refine Z8 J J J J (fun w0=>?_) ?_
 refine Zz (n:=1) (m:=1) J J J ?_
 exact Z9 rfl
 refine Z8 J J J J (fun w0=>?_) ?_
 refine Zld ?_
 exact Z9 rfl
 exact AgainG.nil
 refine Z4 (Z5 J (oApp1 _ J J J J ZP ZP J ZO J (fun g7 cp7=>?_)))
 refine ZG ?_ J (fun w0=>?_)
 exact AgainG.nil
 refine Z6 (Zz (n:=1) (m:=1) J J J (Zst ?_))
 refine Zn (fin_n ?_)
 refine ⟨rfl,_,ResL.nil,?_⟩
 exact ⟨((xs++[n1],some ⟨g7,0,none⟩,cp7),(a1,d1),e1,n1),⟨rawN_le h1 hat,num_got rfl hat h1 he1,fun _=>rfl⟩,rfl,pk3 (by dsimp only;rw [List.length_append];exact Lh)⟩
theorem fun_clo2 {B:Base}{w:World}(rr br b5 b4:Nat) (A:Option Addr) (cp:Nat) (l:List Int) (v0 v1 v2 v3 v4 v5 v6 v7 v8:Value) (W0 W1:World) (hW:Grow W1 B.e) (hC1:(Kd.int .u8).C W1 A l) (hl:l.length≤900000) (hb:Byts l) (hcp:l.length≤cp) (k:List ApiLine×Option Addr×Nat) (s:Rs) (hat:s.1≤l.length) (hs:s.2=false) (hk:k.1.length≤600) (hS:St B [blk rr 103 [.pointer (some ⟨br,0,none⟩),.int .i64 (0)],blk br 96 [.slice A l.length cp,.int .i64 ((s.1:Nat):Int),.bool true,.bool s.2],bun [blk b5 51 [v0,v1,v2,v3,v4,v5,.slice k.2.1 (k.1).length k.2.2,v7,v8],blk b4 101 [.pointer (some ⟨rr,0,none⟩)],row kApiLine W0 107 (.slice k.2.1 (k.1).length k.2.2) (k.1)]] w) :
 CW 66 #[.pointer (some ⟨b5,0,none⟩),.pointer (some ⟨b4,0,none⟩)] w (Ret B (fun z:(List ApiLine×Option Addr×Nat)×Rs×Int×ApiLine=>z.2.1.1≤l.length∧Got l (linX (l.drop s.1)) z.2.2.1 z.2.2.2 z.2.1∧(z.2.2.1=0→z.1.1=k.1++[z.2.2.2])) (fun _=>.tuple #[]) (fun z=>[blk rr 103 [.pointer (some ⟨br,0,none⟩),.int .i64 (z.2.2.1)],blk br 96 [.slice A l.length cp,.int .i64 ((z.2.1.1:Nat):Int),.bool true,.bool z.2.1.2],bun [blk b5 51 [v0,v1,v2,v3,v4,v5,.slice z.1.2.1 (z.1.1).length z.1.2.2,v7,v8],blk b4 101 [.pointer (some ⟨rr,0,none⟩)],row kApiLine W0 107 (.slice z.1.2.1 (z.1.1).length z.1.2.2) (z.1.1)]])):=by
 obtain ⟨xs,Ak,ck⟩:=k
 obtain ⟨a,d⟩:=s
 obtain rfl:d=false:=hs
 have hC:=Kd.C_grow hW hC1
 dsimp only at hat hk
 have hS:=unp3 hS
 refine ZX Tryz.func66 hS ?_
 refine wDrawG J [0,1,2,4] [(3,[0,1,4],[]),(5,[0,1],[6]),(7,[0,1],[]),(8,[],[])] [9,10] 24 ZK J J (fun w0=>?_)
 refine Zz (n:=6) (m:=6) J J J (Zld ?_)
 refine Zld ?_
 refine Zld ?_
 refine Z4 (Z5 J ?_)
 (refine ZC0 rfl ZK (fun w hS=>frame hS ZQ (fun B' hB hS'=>fr_num rr br A cp l a false 0 hS' hat hl hb hcp (Kd.C_grow hB hC) 1 (by decide))) ?_;rintro ⟨⟨a1,d1⟩,n1,e1⟩ ⟨h1,he1⟩)
 dsimp only at h1 he1
 have ha1:=rawN_le h1 hat
 refine ZG ?_ J (fun w0=>?_)
 refine Z8 J J J J (fun w0=>?_) ?_
 refine Zz (n:=6) (m:=6) J J J ?_
 exact Z9 rfl
 refine Z8 J J J J (fun w0=>?_) ?_
 refine Zld ?_
 exact Z9 rfl
 refine Z8 J J J J (fun w0=>?_) ?_
 refine Zld ?_
 exact Z9 rfl
 exact AgainG.nil
 refine Z4 (Z5 J ?_)
 (refine ZC0 rfl ZK (fun w hS=>frame hS ZQ (fun B' hB hS'=>fr_num rr br A cp l a1 d1 e1 hS' ha1 hl hb hcp (Kd.C_grow hB hC) 2 (by decide))) ?_;rintro ⟨⟨a2,d2⟩,n2,e2⟩ ⟨h2,he2⟩)
 dsimp only at h2 he2
 refine ZG ?_ J (fun w0=>?_)
 refine Z8 J J J J (fun w0=>?_) ?_
 refine Zz (n:=6) (m:=6) J J J ?_
 exact Z9 rfl
 refine Z8 J J J J (fun w0=>?_) ?_
 refine Zld ?_
 exact Z9 rfl
 exact AgainG.nil
 refine oBuild (Parts.cons J (Parts.cons J Parts.nil)) J J (Built.cons (off:=0) (s:=1) J ZP J ZP (Built.cons (off:=1) (s:=1) J ZP J ZP Built.nil)) ?_
 refine Z4 (Z5 J (oBuildSlice1 J J J J J ZP J (fun b9=>?_)))
 refine ZG ?_ J (fun w0=>?_)
 refine Z8 J J J J (fun w0=>?_) ?_
 refine Zz (n:=6) (m:=6) J J J ?_
 exact Z9 rfl
 refine Z8 J J J J (fun w0=>?_) ?_
 refine Zld ?_
 exact Z9 rfl
 exact AgainG.nil
 refine Z4 (Z5 J (oApp1 (kd:=kApiLine) (⟨n1,n2⟩:ApiLine) J J J J ZP ZP (kApiLine_mk _ _) ZO J (fun g10 cp10=>?_)))
 refine ZG ?_ J (fun w0=>?_)
 exact AgainG.nil
 refine Z6 (Zz (n:=6) (m:=6) J J J (Zst ?_))
 refine Zn (fin_n ?_)
 refine ⟨rfl,_,ResL.nil,?_⟩
 exact ⟨((xs++[⟨n1,n2⟩],some ⟨g10,0,none⟩,cp10),(a2,d2),e2,⟨n1,n2⟩),⟨rawN_le h2 ha1,by dsimp only;rw [lin_run];exact got_run (fun t:((Unit×Int)×Int)=>(⟨t.1.2,t.2⟩:ApiLine)) (got_num (got_num (got_zero hat) h1 he1) h2 he2),fun _=>rfl⟩,rfl,pk3 (by dsimp only;rw [List.length_append];exact Lh)⟩
theorem fun_clo3 {B:Base}{w:World}(rr br b5 b4:Nat) (b1:Nat) (A:Option Addr) (cp:Nat) (l:List Int) (v0 v1 v2 v3 v4 v5 v6 v7 v8:Value) (W0 W1:World) (hW:Grow W1 B.e) (hC1:(Kd.int .u8).C W1 A l) (hl:l.length≤900000) (hb:Byts l) (hcp:l.length≤cp) (k:List ApiInstr×Option Addr×Nat) (s:Rs) (hat:s.1≤l.length) (hs:s.2=false) (hk:k.1.length≤600) (hS:St B [blk rr 103 [.pointer (some ⟨br,0,none⟩),.int .i64 (0)],blk br 96 [.slice A l.length cp,.int .i64 ((s.1:Nat):Int),.bool true,.bool s.2],bun [blk b5 51 [v0,v1,v2,v3,v4,v5,v6,.slice k.2.1 (k.1).length k.2.2,v8],blk b4 101 [.pointer (some ⟨rr,0,none⟩)],blk b1 59 [.pointer (some ⟨br,0,none⟩)],row kApiInstr W0 90 (.slice k.2.1 (k.1).length k.2.2) (k.1)]] w) :
 CW 67 #[.pointer (some ⟨b1,0,none⟩),.pointer (some ⟨b5,0,none⟩),.pointer (some ⟨b4,0,none⟩)] w (Ret B (fun z:(List ApiInstr×Option Addr×Nat)×Rs×Int×ApiInstr=>z.2.1.1≤l.length∧Got l (insX (l.drop s.1)) z.2.2.1 z.2.2.2 z.2.1∧(z.2.2.1=0→z.1.1=k.1++[z.2.2.2])) (fun _=>.tuple #[]) (fun z=>[blk rr 103 [.pointer (some ⟨br,0,none⟩),.int .i64 (z.2.2.1)],blk br 96 [.slice A l.length cp,.int .i64 ((z.2.1.1:Nat):Int),.bool true,.bool z.2.1.2],bun [blk b5 51 [v0,v1,v2,v3,v4,v5,v6,.slice z.1.2.1 (z.1.1).length z.1.2.2,v8],blk b4 101 [.pointer (some ⟨rr,0,none⟩)],blk b1 59 [.pointer (some ⟨br,0,none⟩)],row kApiInstr W0 90 (.slice z.1.2.1 (z.1.1).length z.1.2.2) (z.1.1)]])):=by
 obtain ⟨xs,Ak,ck⟩:=k
 obtain ⟨a,d⟩:=s
 obtain rfl:d=false:=hs
 have hC:=Kd.C_grow hW hC1
 dsimp only at hat hk
 have hS:=unp3 hS
 refine ZX Tryz.func67 hS ?_
 refine Zh (Zi (Zld ?_))
 (refine ZC0 rfl ZK (fun w hS=>frame hS ZQ (fun B' hB hS'=>instr_Get br A cp l a hS' hat hl hb hcp (Kd.C_grow hB hC))) ?_;rintro ⟨e1,x1,a1,d1⟩ ⟨g1,ha1⟩)
 dsimp only at g1 ha1
 refine Zo J (oExt J ZP ?_)
 refine oExt J ZP ?_
 refine oAlloc J ZP (fun b3=>?_)
 refine Zsa ?_
 refine Zp J (Zn (Za (Zh (Zi (Zz (n:=7) (m:=7) J J J (Zld ?_))))))
 refine Zla ?_
 refine oBuildSlice1 J J J J J ZP J (fun b13=>?_)
 refine oApp1 (kd:=kApiInstr) x1 J J J J ZP ZP (kApiInstr_mk _ x1) ZO J (fun g14 cp14=>?_)
 refine Zz (n:=7) (m:=7) J J J (Zst ?_)
 refine Zn (Za (Zh (Zi (Zo J (Z0 J J (Zn (Za (wC (fun h17=>?_) (fun h17=>?_)))))))))
 refine Zi (Zld ?_)
 refine Zo J ?_
 (refine ZC0 rfl ZK (fun w hS=>frame hS ZQ (fun B' hB hS'=>fr_fail rr br 0 e1 hS')) ?_;rintro ⟨⟩ -)
 refine Zn (fin_n ?_)
 refine ⟨rfl,_,ResL.nil,?_⟩
 exact ⟨((xs++[x1],some ⟨g14,0,none⟩,cp14),(a1,d1),e1,x1),⟨ha1,g1,fun _=>rfl⟩,rfl,pk3 (by dsimp only;rw [List.length_append];exact Lh)⟩
 refine Zj (fin_n ?_)
 refine ⟨rfl,_,ResL.nil,?_⟩
 have h17:e1=0:=Decidable.not_not.1 h17
 subst h17
 exact ⟨((xs++[x1],some ⟨g14,0,none⟩,cp14),(a1,d1),0,x1),⟨ha1,g1,fun _=>rfl⟩,rfl,pk3 (by dsimp only;rw [List.length_append];exact Lh)⟩
theorem fun_clo4 {B:Base}{w:World}(rr br b5 b4:Nat) (A:Option Addr) (cp:Nat) (l:List Int) (v0 v1 v2 v3 v4 v5 v6 v7 v8:Value) (W0 W1:World) (hW:Grow W1 B.e) (hC1:(Kd.int .u8).C W1 A l) (hl:l.length≤900000) (hb:Byts l) (hcp:l.length≤cp) (k:List ApiReloc×Option Addr×Nat) (s:Rs) (hat:s.1≤l.length) (hs:s.2=false) (hk:k.1.length≤600) (hS:St B [blk rr 103 [.pointer (some ⟨br,0,none⟩),.int .i64 (0)],blk br 96 [.slice A l.length cp,.int .i64 ((s.1:Nat):Int),.bool true,.bool s.2],bun [blk b5 51 [v0,v1,v2,v3,v4,v5,v6,v7,.slice k.2.1 (k.1).length k.2.2],blk b4 101 [.pointer (some ⟨rr,0,none⟩)],row kApiReloc W0 92 (.slice k.2.1 (k.1).length k.2.2) (k.1)]] w) :
 CW 70 #[.pointer (some ⟨b5,0,none⟩),.pointer (some ⟨b4,0,none⟩)] w (Ret B (fun z:(List ApiReloc×Option Addr×Nat)×Rs×Int×ApiReloc=>z.2.1.1≤l.length∧Got l (relX (l.drop s.1)) z.2.2.1 z.2.2.2 z.2.1∧(z.2.2.1=0→z.1.1=k.1++[z.2.2.2])) (fun _=>.tuple #[]) (fun z=>[blk rr 103 [.pointer (some ⟨br,0,none⟩),.int .i64 (z.2.2.1)],blk br 96 [.slice A l.length cp,.int .i64 ((z.2.1.1:Nat):Int),.bool true,.bool z.2.1.2],bun [blk b5 51 [v0,v1,v2,v3,v4,v5,v6,v7,.slice z.1.2.1 (z.1.1).length z.1.2.2],blk b4 101 [.pointer (some ⟨rr,0,none⟩)],row kApiReloc W0 92 (.slice z.1.2.1 (z.1.1).length z.1.2.2) (z.1.1)]])):=by
 obtain ⟨xs,Ak,ck⟩:=k
 obtain ⟨a,d⟩:=s
 obtain rfl:d=false:=hs
 have hC:=Kd.C_grow hW hC1
 dsimp only at hat hk
 have hS:=unp3 hS
 refine ZX Tryz.func70 hS ?_
 refine wDrawG J [0,1,2,4,6] [(3,[0,1,4,6],[]),(5,[0,1,6],[]),(7,[0,1],[8]),(9,[0,1],[]),(10,[],[])] [11,12] 24 ZK J J (fun w0=>?_)
 refine Zz (n:=8) (m:=8) J J J (Zld ?_)
 refine Zld ?_
 refine Zld ?_
 refine Zld ?_
 refine Z4 (Z5 J ?_)
 (refine ZC0 rfl ZK (fun w hS=>frame hS ZQ (fun B' hB hS'=>fr_num rr br A cp l a false 0 hS' hat hl hb hcp (Kd.C_grow hB hC) 1 (by decide))) ?_;rintro ⟨⟨a1,d1⟩,n1,e1⟩ ⟨h1,he1⟩)
 dsimp only at h1 he1
 have ha1:=rawN_le h1 hat
 refine ZG ?_ J (fun w0=>?_)
 refine Z8 J J J J (fun w0=>?_) ?_
 refine Zz (n:=8) (m:=8) J J J ?_
 exact Z9 rfl
 refine Z8 J J J J (fun w0=>?_) ?_
 refine Zld ?_
 exact Z9 rfl
 refine Z8 J J J J (fun w0=>?_) ?_
 refine Zld ?_
 exact Z9 rfl
 refine Z8 J J J J (fun w0=>?_) ?_
 refine Zld ?_
 exact Z9 rfl
 exact AgainG.nil
 refine Z4 (Z5 J ?_)
 (refine ZC0 rfl ZK (fun w hS=>frame hS ZQ (fun B' hB hS'=>fr_num rr br A cp l a1 d1 e1 hS' ha1 hl hb hcp (Kd.C_grow hB hC) 1 (by decide))) ?_;rintro ⟨⟨a2,d2⟩,n2,e2⟩ ⟨h2,he2⟩)
 dsimp only at h2 he2
 have ha2:=rawN_le h2 ha1
 refine ZG ?_ J (fun w0=>?_)
 refine Z8 J J J J (fun w0=>?_) ?_
 refine Zz (n:=8) (m:=8) J J J ?_
 exact Z9 rfl
 refine Z8 J J J J (fun w0=>?_) ?_
 refine Zld ?_
 exact Z9 rfl
 refine Z8 J J J J (fun w0=>?_) ?_
 refine Zld ?_
 exact Z9 rfl
 exact AgainG.nil
 refine Z4 (Z5 J ?_)
 (refine ZC0 rfl ZK (fun w hS=>frame hS ZQ (fun B' hB hS'=>fr_yes rr br A cp l a2 d2 e2 hS' ha2 hl hb hcp (Kd.C_grow hB hC))) ?_;rintro ⟨⟨a3,d3⟩,n3,e3⟩ ⟨h3,he3⟩)
 dsimp only at h3 he3
 refine ZG ?_ J (fun w0=>?_)
 refine Z8 J J J J (fun w0=>?_) ?_
 refine Zz (n:=8) (m:=8) J J J ?_
 exact Z9 rfl
 refine Z8 J J J J (fun w0=>?_) ?_
 refine Zld ?_
 exact Z9 rfl
 exact AgainG.nil
 refine oBuild (Parts.cons J (Parts.cons J (Parts.cons J Parts.nil))) J J (Built.cons (off:=0) (s:=1) J ZP J ZP (Built.cons (off:=1) (s:=1) J ZP J ZP (Built.cons (off:=2) (s:=1) J ZP J ZP Built.nil))) ?_
 refine Z4 (Z5 J (oBuildSlice1 J J J J J ZP J (fun b11=>?_)))
 refine ZG ?_ J (fun w0=>?_)
 refine Z8 J J J J (fun w0=>?_) ?_
 refine Zz (n:=8) (m:=8) J J J ?_
 exact Z9 rfl
 refine Z8 J J J J (fun w0=>?_) ?_
 refine Zld ?_
 exact Z9 rfl
 exact AgainG.nil
 refine Z4 (Z5 J (oApp1 (kd:=kApiReloc) (⟨n1,n2,decide (n3=1)⟩:ApiReloc) J J J J ZP ZP (kApiReloc_mk _ _) ZO J (fun g12 cp12=>?_)))
 refine ZG ?_ J (fun w0=>?_)
 exact AgainG.nil
 refine Z6 (Zz (n:=8) (m:=8) J J J (Zst ?_))
 refine Zn (fin_n ?_)
 refine ⟨rfl,_,ResL.nil,?_⟩
 exact ⟨((xs++[⟨n1,n2,decide (n3=1)⟩],some ⟨g12,0,none⟩,cp12),(a3,d3),e3,⟨n1,n2,decide (n3=1)⟩),⟨rawN_le h3 ha2,by dsimp only;rw [rel_run];exact got_run (fun t:(((Unit×Int)×Int)×Bool)=>(⟨t.1.1.2,t.1.2,t.2⟩:ApiReloc)) (got_yes (got_num (got_num (got_zero hat) h1 he1) h2 he2) h3 he3),fun _=>rfl⟩,rfl,pk3 (by dsimp only;rw [List.length_append];exact Lh)⟩
theorem fun_err {α β:Type}{σ:Except Int (α×List Int)}{f:α→Pr β}{e:Int}(h:e≠0→σ=.error e) (k:e≠0):runX σ f=.error e:=by rw [h k];rfl
theorem many_val {α:Type}{e e':Int}{x y:List α}{G:Prop}(hn:e≠0→e'=e) (hz:e=0→G∧(e'=0→x=[]++y)) (h:e'=0):x=y:=by
 have h0:e=0:=by
  by_cases k:e=0
  · exact k
  · exact absurd ((hn k).symm.trans h) k
 exact (hz h0).2 h
theorem yesE_ne {e:Int}{b:Bool}{n:Int}(k:e≠0):yesE e b n=e:=by unfold yesE;rw [if_neg (show ¬ (e=0∧b=true) from fun h=>k h.1),if_neg (fun h=>k h.2)]
theorem fun_Get {B:Base}{w:World}(br:Nat) (A:Option Addr) (cp:Nat) (l:List Int) (at_:Nat) (hS:St B [blk br 96 [.slice A l.length cp,.int .i64 ((at_:Nat):Int),.bool true,.bool false]] w) (hat:at_≤l.length) (hl:l.length≤900000) (hb:Byts l) (hcp:l.length≤cp) (hC:(Kd.int .u8).C B.e A l) (W0:World) :
 CW 28 #[.pointer (some ⟨br,0,none⟩)] w (Ret B (fun z:(Int×ApiFunc×Rs)×(Option Addr×Nat)×(Option Addr×Nat)×(Option Addr×Nat)×Option Addr×Nat=>Got l (funX (l.drop at_)) z.1.1 z.1.2.1 z.1.2.2∧z.1.2.2.1≤l.length) (fun z=>.tuple #[.agg #[.int .i64 z.1.2.1.fClass,.slice z.2.1.1 z.1.2.1.fKinds.length z.2.1.2,.int .i64 z.1.2.1.fPad,.bool z.1.2.1.fNosplit,.int .i64 z.1.2.1.fFrom,.int .i64 z.1.2.1.fTo,.slice z.2.2.1.1 z.1.2.1.fLines.length z.2.2.1.2,.slice z.2.2.2.1.1 z.1.2.1.fCode.length z.2.2.2.1.2,.slice z.2.2.2.2.1 z.1.2.1.fRelocs.length z.2.2.2.2.2],.int .i64 z.1.1]) (fun z=>[blk br 96 [.slice A l.length cp,.int .i64 ((z.1.2.2.1:Nat):Int),.bool true,.bool z.1.2.2.2],row (Kd.int .i64) W0 3 (.slice z.2.1.1 (z.1.2.1.fKinds).length z.2.1.2) (z.1.2.1.fKinds),row kApiLine W0 107 (.slice z.2.2.1.1 (z.1.2.1.fLines).length z.2.2.1.2) (z.1.2.1.fLines),row kApiInstr W0 90 (.slice z.2.2.2.1.1 (z.1.2.1.fCode).length z.2.2.2.1.2) (z.1.2.1.fCode),row kApiReloc W0 92 (.slice z.2.2.2.2.1 (z.1.2.1.fRelocs).length z.2.2.2.2.2) (z.1.2.1.fRelocs)])):=by
 refine ZX Tryz.func28 hS ?_
 refine Zh (Zi (oBox J ZP (fun b1=>?_)))
 refine oAlloc J ZP (fun b2=>?_)
 refine Zp J (Zn (Za (Zh (Zi (Zld ?_)))))
 have g0:=got_zero hat
 refine oBuild (Parts.cons J Parts.nil) J J (Built.cons (off:=0) (s:=1) J ZP J ZP Built.nil) ?_
 refine oBox J ZP (fun b8=>?_)
 refine oAlloc J ZP (fun b4=>?_)
 refine Zst ?_
 refine Zn (Za (Zh (Zi (Zld ?_))))
 (refine ZC0 rfl ZK (fun w hS=>frame hS ZQ (fun B' hB hS'=>fr_num b8 br A cp l at_ false 0 hS' hat hl hb hcp (Kd.C_grow hB hC) 1 (by decide))) ?_;rintro ⟨⟨a1,d1⟩,n1,e1⟩ ⟨h1,he1⟩)
 dsimp only at h1 he1
 have g1:=got_num g0 h1 he1
 have ha1:=rawN_le h1 hat
 refine oBuild (Parts.cons J Parts.nil) J J (Built.cons (off:=0) (s:=1) J ZP J ZP Built.nil) ?_
 refine oAlloc J ZP (fun b5=>?_)
 refine Zsa ?_
 refine Zn (Za (Zh (Zi (Zld ?_))))
 refine oMakeFunc J (oConv (Leads.trans (Leads.nilrow (kd:=(Kd.int .i64)) (W:=W0) (e:=3)) (pk_of (Ψ:=[blk b5 51 [.int .i64 n1,.slice none 0 0,.int .i64 0,.bool false,.int .i64 0,.int .i64 0,.slice none 0 0,.slice none 0 0,.slice none 0 0],blk b4 101 [.pointer (some ⟨b8,0,none⟩)],row (Kd.int .i64) W0 3 (.slice none 0 0) ([])]) ZQ)) ?_)
 (refine ZC0 rfl ZK (fun w hS=>frame hS ZQ (fun B' hB hS'=>fun_many b8 br A cp l (numX 1) (fun k:List Int×Option Addr×Nat=>bun [blk b5 51 [.int .i64 n1,.slice k.2.1 (k.1).length k.2.2,.int .i64 0,.bool false,.int .i64 0,.int .i64 0,.slice none 0 0,.slice none 0 0,.slice none 0 0],blk b4 101 [.pointer (some ⟨b8,0,none⟩)],row (Kd.int .i64) W0 3 (.slice k.2.1 (k.1).length k.2.2) (k.1)]) (fun k=>k.1) 64 #[.pointer (some ⟨b5,0,none⟩),.pointer (some ⟨b4,0,none⟩)] ZK hl hb hcp B.e hB hC (fun B' w k s hW hs hs2 hk hS=>fun_clo1 b8 br b5 b4 A cp l (.int .i64 n1) (.slice none 0 0) (.int .i64 0) (.bool false) (.int .i64 0) (.int .i64 0) (.slice none 0 0) (.slice none 0 0) (.slice none 0 0) W0 B.e hW hC hl hb hcp k s hs hs2 hk hS) ([],none,0) (by decide) a1 d1 e1 ha1 hS')) ?_;rintro ⟨⟨x2,Ax2,cx2⟩,⟨a2,d2⟩,e2,yx2⟩ ⟨ha2,hnx2,hzx2⟩)
 dsimp only at ha2 hnx2 hzx2
 have g2:=got_many g1 (fun h=>(hzx2 h).1) hnx2
 have hxx2:e2=0→x2=yx2:=many_val hnx2 hzx2
 refine oConv (un_of ZP) ?_
 refine Zn (Za (Zh (Zi (Zld ?_))))
 (refine ZC0 rfl ZK (fun w hS=>frame hS ZQ (fun B' hB hS'=>fr_num b8 br A cp l a2 d2 e2 hS' ha2 hl hb hcp (Kd.C_grow hB hC) 2 (by decide))) ?_;rintro ⟨⟨a3,d3⟩,n3,e3⟩ ⟨h3,he3⟩)
 dsimp only at h3 he3
 have g3:=got_num g2 h3 he3
 have ha3:=rawN_le h3 ha2
 refine Zz (n:=2) (m:=2) J J J (Zst ?_)
 refine Zn (Za (Zh (Zi (Zld ?_))))
 (refine ZC0 rfl ZK (fun w hS=>frame hS ZQ (fun B' hB hS'=>fr_yes b8 br A cp l a3 d3 e3 hS' ha3 hl hb hcp (Kd.C_grow hB hC))) ?_;rintro ⟨⟨a4,d4⟩,n4,e4⟩ ⟨h4,he4⟩)
 dsimp only at h4 he4
 have g4:=got_yes g3 h4 he4
 have ha4:=rawN_le h4 ha3
 refine Zz (n:=3) (m:=3) J J J (Zst ?_)
 refine Zn (Za (Zh (Zi (Zld ?_))))
 (refine ZC0 rfl ZK (fun w hS=>frame hS ZQ (fun B' hB hS'=>fr_num b8 br A cp l a4 d4 e4 hS' ha4 hl hb hcp (Kd.C_grow hB hC) 1 (by decide))) ?_;rintro ⟨⟨a5,d5⟩,n5,e5⟩ ⟨h5,he5⟩)
 dsimp only at h5 he5
 have g5:=got_num g4 h5 he5
 have ha5:=rawN_le h5 ha4
 refine Zz (n:=4) (m:=4) J J J (Zst ?_)
 refine Zn (Za (Zh (Zi (Zld ?_))))
 (refine ZC0 rfl ZK (fun w hS=>frame hS ZQ (fun B' hB hS'=>fr_num b8 br A cp l a5 d5 e5 hS' ha5 hl hb hcp (Kd.C_grow hB hC) 1 (by decide))) ?_;rintro ⟨⟨a6,d6⟩,n6,e6⟩ ⟨h6,he6⟩)
 dsimp only at h6 he6
 have g6:=got_num g5 h6 he6
 have ha6:=rawN_le h6 ha5
 refine Zz (n:=5) (m:=5) J J J (Zst ?_)
 refine Zn (Za (Zh (Zi (Zld ?_))))
 refine oMakeFunc J (oConv (Leads.trans (Leads.nilrow (kd:=kApiLine) (W:=W0) (e:=107)) (pk_of (Ψ:=[blk b5 51 [.int .i64 n1,.slice Ax2 x2.length cx2,.int .i64 n3,.bool (decide (n4=1)),.int .i64 n5,.int .i64 n6,.slice none 0 0,.slice none 0 0,.slice none 0 0],blk b4 101 [.pointer (some ⟨b8,0,none⟩)],row kApiLine W0 107 (.slice none 0 0) ([])]) ZQ)) ?_)
 (refine ZC0 rfl ZK (fun w hS=>frame hS ZQ (fun B' hB hS'=>fun_many b8 br A cp l (linX) (fun k:List ApiLine×Option Addr×Nat=>bun [blk b5 51 [.int .i64 n1,.slice Ax2 x2.length cx2,.int .i64 n3,.bool (decide (n4=1)),.int .i64 n5,.int .i64 n6,.slice k.2.1 (k.1).length k.2.2,.slice none 0 0,.slice none 0 0],blk b4 101 [.pointer (some ⟨b8,0,none⟩)],row kApiLine W0 107 (.slice k.2.1 (k.1).length k.2.2) (k.1)]) (fun k=>k.1) 66 #[.pointer (some ⟨b5,0,none⟩),.pointer (some ⟨b4,0,none⟩)] ZK hl hb hcp B.e hB hC (fun B' w k s hW hs hs2 hk hS=>fun_clo2 b8 br b5 b4 A cp l (.int .i64 n1) (.slice Ax2 x2.length cx2) (.int .i64 n3) (.bool (decide (n4=1))) (.int .i64 n5) (.int .i64 n6) (.slice none 0 0) (.slice none 0 0) (.slice none 0 0) W0 B.e hW hC hl hb hcp k s hs hs2 hk hS) ([],none,0) (by decide) a6 d6 e6 ha6 hS')) ?_;rintro ⟨⟨x7,Ax7,cx7⟩,⟨a7,d7⟩,e7,yx7⟩ ⟨ha7,hnx7,hzx7⟩)
 dsimp only at ha7 hnx7 hzx7
 have g7:=got_many g6 (fun h=>(hzx7 h).1) hnx7
 have hxx7:e7=0→x7=yx7:=many_val hnx7 hzx7
 refine oConv (un_of ZP) ?_
 refine Zn (Za (Zh (Zi (Zld ?_))))
 refine oMakeFunc J (oConv (Leads.trans (Leads.nilrow (kd:=kApiInstr) (W:=W0) (e:=90)) (pk_of (Ψ:=[blk b5 51 [.int .i64 n1,.slice Ax2 x2.length cx2,.int .i64 n3,.bool (decide (n4=1)),.int .i64 n5,.int .i64 n6,.slice Ax7 x7.length cx7,.slice none 0 0,.slice none 0 0],blk b4 101 [.pointer (some ⟨b8,0,none⟩)],blk b1 59 [.pointer (some ⟨br,0,none⟩)],row kApiInstr W0 90 (.slice none 0 0) ([])]) ZQ)) ?_)
 (refine ZC0 rfl ZK (fun w hS=>frame hS ZQ (fun B' hB hS'=>fun_many b8 br A cp l (insX) (fun k:List ApiInstr×Option Addr×Nat=>bun [blk b5 51 [.int .i64 n1,.slice Ax2 x2.length cx2,.int .i64 n3,.bool (decide (n4=1)),.int .i64 n5,.int .i64 n6,.slice Ax7 x7.length cx7,.slice k.2.1 (k.1).length k.2.2,.slice none 0 0],blk b4 101 [.pointer (some ⟨b8,0,none⟩)],blk b1 59 [.pointer (some ⟨br,0,none⟩)],row kApiInstr W0 90 (.slice k.2.1 (k.1).length k.2.2) (k.1)]) (fun k=>k.1) 67 #[.pointer (some ⟨b1,0,none⟩),.pointer (some ⟨b5,0,none⟩),.pointer (some ⟨b4,0,none⟩)] ZK hl hb hcp B.e hB hC (fun B' w k s hW hs hs2 hk hS=>fun_clo3 b8 br b5 b4 b1 A cp l (.int .i64 n1) (.slice Ax2 x2.length cx2) (.int .i64 n3) (.bool (decide (n4=1))) (.int .i64 n5) (.int .i64 n6) (.slice Ax7 x7.length cx7) (.slice none 0 0) (.slice none 0 0) W0 B.e hW hC hl hb hcp k s hs hs2 hk hS) ([],none,0) (by decide) a7 d7 e7 ha7 hS')) ?_;rintro ⟨⟨x8,Ax8,cx8⟩,⟨a8,d8⟩,e8,yx8⟩ ⟨ha8,hnx8,hzx8⟩)
 dsimp only at ha8 hnx8 hzx8
 have g8:=got_many g7 (fun h=>(hzx8 h).1) hnx8
 have hxx8:e8=0→x8=yx8:=many_val hnx8 hzx8
 refine oConv (un_of ZP) ?_
 refine Zn (Za (Zh (Zi (Zld ?_))))
 refine oMakeFunc J (oConv (Leads.trans (Leads.nilrow (kd:=kApiReloc) (W:=W0) (e:=92)) (pk_of (Ψ:=[blk b5 51 [.int .i64 n1,.slice Ax2 x2.length cx2,.int .i64 n3,.bool (decide (n4=1)),.int .i64 n5,.int .i64 n6,.slice Ax7 x7.length cx7,.slice Ax8 x8.length cx8,.slice none 0 0],blk b4 101 [.pointer (some ⟨b8,0,none⟩)],row kApiReloc W0 92 (.slice none 0 0) ([])]) ZQ)) ?_)
 (refine ZC0 rfl ZK (fun w hS=>frame hS ZQ (fun B' hB hS'=>fun_many b8 br A cp l (relX) (fun k:List ApiReloc×Option Addr×Nat=>bun [blk b5 51 [.int .i64 n1,.slice Ax2 x2.length cx2,.int .i64 n3,.bool (decide (n4=1)),.int .i64 n5,.int .i64 n6,.slice Ax7 x7.length cx7,.slice Ax8 x8.length cx8,.slice k.2.1 (k.1).length k.2.2],blk b4 101 [.pointer (some ⟨b8,0,none⟩)],row kApiReloc W0 92 (.slice k.2.1 (k.1).length k.2.2) (k.1)]) (fun k=>k.1) 70 #[.pointer (some ⟨b5,0,none⟩),.pointer (some ⟨b4,0,none⟩)] ZK hl hb hcp B.e hB hC (fun B' w k s hW hs hs2 hk hS=>fun_clo4 b8 br b5 b4 A cp l (.int .i64 n1) (.slice Ax2 x2.length cx2) (.int .i64 n3) (.bool (decide (n4=1))) (.int .i64 n5) (.int .i64 n6) (.slice Ax7 x7.length cx7) (.slice Ax8 x8.length cx8) (.slice none 0 0) W0 B.e hW hC hl hb hcp k s hs hs2 hk hS) ([],none,0) (by decide) a8 d8 e8 ha8 hS')) ?_;rintro ⟨⟨x9,Ax9,cx9⟩,⟨a9,d9⟩,e9,yx9⟩ ⟨ha9,hnx9,hzx9⟩)
 dsimp only at ha9 hnx9 hzx9
 have g9:=got_many g8 (fun h=>(hzx9 h).1) hnx9
 have hxx9:e9=0→x9=yx9:=many_val hnx9 hzx9
 refine oConv (un_of ZP) ?_
 refine Zn (Za (Zh (Zh (Zi (Zld ?_)))))
 refine Z3 J (Zz (n:=1) (m:=1) J J J (Zld ?_))
 refine Z0 J J (Zn (Za (wC (fun h40=>?_) (fun h40=>?_))))
 refine Zh (wDrawR J [0,1,2,3,4] [0,1,2,3,4] (.alt 5 [1,2,3,4] [] .tail .stop) [6] 24 ZK J J (fun w0=>?_))
 refine oBuild Parts.nil J J Built.nil (Zld ?_)
 refine Z3 J (Zz (n:=1) (m:=1) J J J (Zld ?_))
 refine oAltT J ?_ ?_
 refine Zsa ?_
 refine oAgainT ?_ J (fun w0=>?_)
 refine Z8 J J J J (fun w0=>?_) ?_
 refine Zld ?_
 exact Z9 rfl
 refine Z8 J J J J (fun w0=>?_) ?_
 refine Z3 J ?_
 exact Z9 rfl
 refine Z8 J J J J (fun w0=>?_) ?_
 refine Zz (n:=1) (m:=1) J J J ?_
 exact Z9 rfl
 refine Z8 J J J J (fun w0=>?_) ?_
 refine Zld ?_
 exact Z9 rfl
 exact AgainG.nil
 refine oTailT (Zp J (Zzp ?_))
 exact ⟨((e9,noFun,(a9,d9)),(none,0),(none,0),(none,0),(none,0)),⟨by dsimp only;rw [fun_run];have:=got_run (fun _:(((((((((Unit×Int)×List Int)×Int)×Bool)×Int)×Int)×List ApiLine)×List ApiInstr)×List ApiReloc)=>noFun) g9;exact got_err (by rw [fun_err (got_inv g9).2 h40]) h40,ha9⟩,rfl,Leads.trans (Leads.nilrow (kd:=Kd.int .i64) (W:=W0) (e:=3)) (Leads.trans (Leads.nilrow (kd:=kApiLine) (W:=W0) (e:=107)) (Leads.trans (Leads.nilrow (kd:=kApiInstr) (W:=W0) (e:=90)) (Leads.trans (Leads.nilrow (kd:=kApiReloc) (W:=W0) (e:=92)) Lh)))⟩
 exact oStopT
 refine Zj (Zzk ?_)
 refine Zsa ?_
 refine Zp J (Zn (Za (Zl (Zw (ZI2 ?_)))))
 have z9:e9=0:=Decidable.not_not.1 h40
 have z8:e8=0:=by by_cases k:e8=0;exact k;exact absurd ((hnx9 k).symm.trans z9) k
 have z7:e7=0:=by by_cases k:e7=0;exact k;exact absurd ((hnx8 k).symm.trans z8) k
 have z6:e6=0:=by by_cases k:e6=0;exact k;exact absurd ((hnx7 k).symm.trans z7) k
 have z5:e5=0:=by by_cases k:e5=0;exact k;exact absurd (((if_neg (fun h=>k h.1)).symm.trans he6.symm).trans z6) k
 have z4:e4=0:=by by_cases k:e4=0;exact k;exact absurd (((if_neg (fun h=>k h.1)).symm.trans he5.symm).trans z5) k
 have z3:e3=0:=by by_cases k:e3=0;exact k;exact absurd ((yesE_ne k).symm.trans (he4.symm.trans z4)) k
 have z2:e2=0:=by by_cases k:e2=0;exact k;exact absurd (((if_neg (fun h=>k h.1)).symm.trans he3.symm).trans z3) k
 have q2:=hxx2 z2
 have q7:=hxx7 z7
 have q8:=hxx8 z8
 have q9:=hxx9 z9
 subst q2 q7 q8 q9 z9
 exact ⟨((0,⟨n1,x2,n3,decide (n4=1),n5,n6,x7,x8,x9⟩,(a9,d9)),(Ax2,cx2),(Ax7,cx7),(Ax8,cx8),(Ax9,cx9)),⟨by dsimp only;rw [fun_run];exact got_run (fun t:(((((((((Unit×Int)×List Int)×Int)×Bool)×Int)×Int)×List ApiLine)×List ApiInstr)×List ApiReloc)=>(⟨t.1.1.1.1.1.1.1.1.2,t.1.1.1.1.1.1.1.2,t.1.1.1.1.1.1.2,t.1.1.1.1.1.2,t.1.1.1.1.2,t.1.1.1.2,t.1.1.2,t.1.2,t.2⟩:ApiFunc)) g9,ha9⟩,rfl,Lh⟩
theorem nxt_err {α β:Type}{σ:Except Int (α×List Int)}{p:Pr β}{e:Int}(h:σ=.error e):nxt σ p=.error e:=by rw [h];rfl
theorem list_of {α:Type}{p:Pr α}{r r':List Int}{n:Int}(h:numX 1 r=.ok (n,r')):listX p r=repX p n.toNat r':=by unfold listX;exact bnd_to h
theorem num_err5 {w:Nat}{r:List Int}{e:Int}(h:numX w r=.error e):e=5:=by
 unfold numX at h
 split at h
 · exact (Except.error.inj h).symm
 · cases h
end Go.Proofs.YtpmdhkjbhjgoaaaGreatD
namespace Go.Proofs.YtpmdhkjbhjgoaaaGreatO
set_option maxRecDepth 100000
set_option maxHeartbeats 4000000
open Go.RowKit Go.Proofs.YtpmdhkjbhjgoaaaGreatK Go.Proofs.YtpmdhkjbhjgoaaaGreatT Go.Proofs.YtpmdhkjbhjgoaaaGreatL Go.Proofs.YtpmdhkjbhjgoaaaGreatV Go.Proofs.YtpmdhkjbhjgoaaaGreatG Go.Proofs.YtpmdhkjbhjgoaaaGreatW

def ruleP (d:ApiData) (l:List ApiSymbol) (cls:Int) (i:Nat) (x:ApiReloc):Nat→Bool
  | 0=>decide (d.fKind=0)
  | 1=>decide (x.fAt<0) || decide ((d.fWords.length:Int)≤x.fAt)
  | 2=>decide (0<i) && decide (x.fAt≤(d.fRelocs.getD (i-1) default).fAt)
  | 3=>decide (x.fSym<0) || decide ((l.length:Int)≤x.fSym)
  | _=>decide ((l.getD x.fSym.toNat default).fSort≠1) || decide ((l.getD x.fSym.toNat default).fKind≠cls)
def ruleE (j:Nat):Int:=if j=4 then 8 else 11
abbrev Fn:=Nat×List Nat
def fnV (x:Fn):Value:=.func (.func x.1) #[] (x.2.map fun b=>Value.pointer (some ⟨b,0,none⟩)).toArray
def kFn:Kd Fn:=Kd.scalar fnV (fun _=>rfl)
def kRule:Kd (Fn×Int):=Kd.pair kFn (Kd.int .i64)
def rulesL (b2 b3 b5:Nat):List (Fn×Int):=[((148,[b2]),11),((149,[b2]),11),((150,[b2]),11),((151,[b3]),11),((152,[b3,b5]),8)]
theorem rule1 {B:Base}{w:World}(d:ApiData) (A0:Option Addr) (c0:Nat) (A1:Option Addr) (c1:Nat) (l:List ApiSymbol) (Al:Option Addr) (cl:Nat) (cls:Int) (b2 b3 b5:Nat) (hS:St B [blk b2 55 [.int .i64 d.fKind,.slice A0 d.fWords.length c0,.slice A1 d.fRelocs.length c1]] w) (g1:kApiReloc.C B.e A1 d.fRelocs) (hC:kApiSymbol.C B.e Al l) (hlw:d.fWords.length≤100000) (i:Nat) (x:ApiReloc) (hx:d.fRelocs[i]?=some x) :
 CW 148 #[.int .i64 (i:Int),.agg #[.int .i64 x.fAt,.int .i64 x.fSym,.bool x.fWide],.pointer (some ⟨b2,0,none⟩)] w (Ret B (fun _:Unit=>True) (fun _=>.bool (ruleP d l cls i x 0)) (fun _=>[blk b2 55 [.int .i64 d.fKind,.slice A0 d.fWords.length c0,.slice A1 d.fRelocs.length c1]])):=by
 have hll:=hC.1
 have hlr:=g1.1
 have hil:=(List.getElem?_eq_some_iff.1 hx).1
 refine ZX Tryz.func148 hS ?_
 refine Zh (Zi (oBox J ZP (fun b4=>?_)))
 refine Zp J (Zn (Za (Zh (Zi (Zz (n:=0) (m:=0) J J J (Zld ?_))))))
 refine Zy J J (Zzh ?_)
 exact ⟨(),trivial,rfl,Lh⟩
theorem rule2 {B:Base}{w:World}(d:ApiData) (A0:Option Addr) (c0:Nat) (A1:Option Addr) (c1:Nat) (l:List ApiSymbol) (Al:Option Addr) (cl:Nat) (cls:Int) (b2 b3 b5:Nat) (hS:St B [blk b2 55 [.int .i64 d.fKind,.slice A0 d.fWords.length c0,.slice A1 d.fRelocs.length c1]] w) (g1:kApiReloc.C B.e A1 d.fRelocs) (hC:kApiSymbol.C B.e Al l) (hlw:d.fWords.length≤100000) (i:Nat) (x:ApiReloc) (hx:d.fRelocs[i]?=some x) :
 CW 149 #[.int .i64 (i:Int),.agg #[.int .i64 x.fAt,.int .i64 x.fSym,.bool x.fWide],.pointer (some ⟨b2,0,none⟩)] w (Ret B (fun _:Unit=>True) (fun _=>.bool (ruleP d l cls i x 1)) (fun _=>[blk b2 55 [.int .i64 d.fKind,.slice A0 d.fWords.length c0,.slice A1 d.fRelocs.length c1]])):=by
 have hll:=hC.1
 have hlr:=g1.1
 have hil:=(List.getElem?_eq_some_iff.1 hx).1
 refine ZX Tryz.func149 hS ?_
 refine Zh (Zi (oBox J ZP (fun b4=>?_)))
 refine Zp J (Zn (Za (Zh (Zi (Zz (n:=0) (m:=0) J J J (Zld ?_))))))
 refine Zx J J (Zo J (ZS (ZT 9) (fun h9=>?_) (fun h9=>?_)))
 refine Zr J J J J (Zr J J J J (Zr J J J J (Zr J J J J (Zr J J J J (Zr J J J J (Zt J J (Zzh ?_)))))))
 exact ⟨(),trivial,by show Value.bool true=Value.bool (decide (x.fAt<0) || decide ((d.fWords.length:Int)≤x.fAt));rw [decide_eq_true (show x.fAt<0 from h9)];rfl,Lh⟩
 refine Zq J J (Zz (n:=0) (m:=0) J J J (Zzg ?_))
 refine Zq J J (Zz (n:=1) (m:=1) J J J (Zzg ?_))
 refine Zq J J (Zv J J (Zq J J (Z2 J J (Zu J J (Zzh ?_)))))
 exact ⟨(),trivial,by show _=Value.bool (decide (x.fAt<0) || decide ((d.fWords.length:Int)≤x.fAt));rw [decide_eq_false (show ¬ x.fAt<0 from h9)];rfl,Lh⟩
theorem rule3 {B:Base}{w:World}(d:ApiData) (A0:Option Addr) (c0:Nat) (A1:Option Addr) (c1:Nat) (l:List ApiSymbol) (Al:Option Addr) (cl:Nat) (cls:Int) (b2 b3 b5:Nat) (hS:St B [blk b2 55 [.int .i64 d.fKind,.slice A0 d.fWords.length c0,.slice A1 d.fRelocs.length c1]] w) (g1:kApiReloc.C B.e A1 d.fRelocs) (hC:kApiSymbol.C B.e Al l) (hlw:d.fWords.length≤100000) (i:Nat) (x:ApiReloc) (hx:d.fRelocs[i]?=some x) :
 CW 150 #[.int .i64 (i:Int),.agg #[.int .i64 x.fAt,.int .i64 x.fSym,.bool x.fWide],.pointer (some ⟨b2,0,none⟩)] w (Ret B (fun _:Unit=>True) (fun _=>.bool (ruleP d l cls i x 2)) (fun _=>[blk b2 55 [.int .i64 d.fKind,.slice A0 d.fWords.length c0,.slice A1 d.fRelocs.length c1]])):=by
 have hll:=hC.1
 have hlr:=g1.1
 have hil:=(List.getElem?_eq_some_iff.1 hx).1
 refine ZX Tryz.func150 hS ?_
 refine Zh (Zi (oBox J ZP (fun b4=>?_)))
 refine Zp J (Zn (Za (Zh (wDrawG J [0,1,2,3,4,5,6,7,8,9,10,11,12,13] [] [14] 24 ZK J J (fun w0=>?_)))))
 refine Zo J (Z1 J J (Zo J (ZS (ZT 8) (fun h8=>?_) (fun h8=>?_))))
 obtain ⟨y,hy⟩:∃ y,d.fRelocs[i-1]?=some y:=⟨_,List.getElem?_eq_getElem ZO⟩
 obtain ⟨e3,cs3,hE3⟩:=g1.elm hy
 obtain rfl:=kApiReloc_open hE3.K
 have hi0:0<i:=by omega
 refine Zq J J (Zz (n:=0) (m:=0) J J J (Zzg ?_))
 refine Zq J J (Zz (n:=2) (m:=2) J J J (Zzg ?_))
 refine Zq J J (Zo J (Zq J J ?_))
 first | refine oSub rfl rfl ZO ?_ | refine oSubW rfl rfl ?_
 refine ZS0 (t:=14) (v':=.int .i64 ((i-1:Nat):Int)) J (by congr 1;omega) ?_
 refine Zq J J (oIdxE J J (hE3) ZO J J ?_)
 have hc15:=(hE3).cell
 refine Zq J J (ZF (ZT 0) (ZT 0) ?_)
 refine Zq J J (Zlx hc15 ?_)
 refine Zq J J (oLeq J J (Zt J J (Z6 (Zzh ?_))))
 exact ⟨(),trivial,by show _=Value.bool (decide (0<i) && decide (x.fAt≤(d.fRelocs.getD (i-1) default).fAt));rw [decide_eq_true hi0,show d.fRelocs.getD (i-1) default=y by rw [List.getD_eq_getElem?_getD,hy];rfl];rfl,Lh⟩
 refine Zr J J J J (Zr J J J J (Zr J J J J (Zr J J J J (Zr J J J J (Zr J J J J (Zr J J J J (Zr J J J J (Zr J J J J (Zr J J J J (Zu J J (Z6 (Zzh ?_))))))))))))
 exact ⟨(),trivial,by show _=Value.bool (decide (0<i) && decide (x.fAt≤(d.fRelocs.getD (i-1) default).fAt));rw [decide_eq_false (show ¬ 0<i by omega)];rfl,Lh⟩
theorem rule4 {B:Base}{w:World}(d:ApiData) (A0:Option Addr) (c0:Nat) (A1:Option Addr) (c1:Nat) (l:List ApiSymbol) (Al:Option Addr) (cl:Nat) (cls:Int) (b2 b3 b5:Nat) (hS:St B [blk b3 22 [.slice Al l.length cl]] w) (g1:kApiReloc.C B.e A1 d.fRelocs) (hC:kApiSymbol.C B.e Al l) (hlw:d.fWords.length≤100000) (i:Nat) (x:ApiReloc) (hx:d.fRelocs[i]?=some x) :
 CW 151 #[.int .i64 (i:Int),.agg #[.int .i64 x.fAt,.int .i64 x.fSym,.bool x.fWide],.pointer (some ⟨b3,0,none⟩)] w (Ret B (fun _:Unit=>True) (fun _=>.bool (ruleP d l cls i x 3)) (fun _=>[blk b3 22 [.slice Al l.length cl]])):=by
 have hll:=hC.1
 have hlr:=g1.1
 have hil:=(List.getElem?_eq_some_iff.1 hx).1
 refine ZX Tryz.func151 hS ?_
 refine Zh (Zi (oBox J ZP (fun b4=>?_)))
 refine Zp J (Zn (Za (Zh (Zi (Zz (n:=1) (m:=1) J J J (Zld ?_))))))
 refine Zx J J (Zo J (ZS (ZT 9) (fun h9=>?_) (fun h9=>?_)))
 refine Zr J J J J (Zr J J J J (Zr J J J J (Zr J J J J (Zr J J J J (Zt J J (Zzh ?_))))))
 exact ⟨(),trivial,by show Value.bool true=Value.bool (decide (x.fSym<0) || decide ((l.length:Int)≤x.fSym));rw [decide_eq_true (show x.fSym<0 from h9)];rfl,Lh⟩
 refine Zq J J (Zz (n:=1) (m:=1) J J J (Zzg ?_))
 refine Zq J J (Zld ?_)
 refine Zq J J (Zv J J (Zq J J (Z2 J J (Zu J J (Zzh ?_)))))
 exact ⟨(),trivial,by show _=Value.bool (decide (x.fSym<0) || decide ((l.length:Int)≤x.fSym));rw [decide_eq_false (show ¬ x.fSym<0 from h9)];rfl,Lh⟩
theorem rule5 {B:Base}{w:World}(d:ApiData) (A0:Option Addr) (c0:Nat) (A1:Option Addr) (c1:Nat) (l:List ApiSymbol) (Al:Option Addr) (cl:Nat) (cls:Int) (b2 b3 b5:Nat) (hS:St B [blk b3 22 [.slice Al l.length cl],blk b5 3 [.int .i64 cls]] w) (g1:kApiReloc.C B.e A1 d.fRelocs) (hC:kApiSymbol.C B.e Al l) (hlw:d.fWords.length≤100000) (i:Nat) (x:ApiReloc) (hx:d.fRelocs[i]?=some x) (h3:ruleP d l cls i x 3=false) :
 CW 152 #[.int .i64 (i:Int),.agg #[.int .i64 x.fAt,.int .i64 x.fSym,.bool x.fWide],.pointer (some ⟨b3,0,none⟩),.pointer (some ⟨b5,0,none⟩)] w (Ret B (fun _:Unit=>True) (fun _=>.bool (ruleP d l cls i x 4)) (fun _=>[blk b3 22 [.slice Al l.length cl],blk b5 3 [.int .i64 cls]])):=by
 have hll:=hC.1
 have hlr:=g1.1
 have hil:=(List.getElem?_eq_some_iff.1 hx).1
 refine ZX Tryz.func152 hS ?_
 refine Zh (Zi (oBox J ZP (fun b5=>?_)))
 refine Zp J (Zn (Za (Zh (wDrawG J [0,1,2,3,4,5,6,7,8,9,10,11,12,13,14,15,16] [] [17] 24 ZK J J (fun w0=>?_)))))
 refine Zld ?_
 refine Zz (n:=1) (m:=1) J J J (Zld ?_)
 have hs3:¬ x.fSym<0∧¬ (l.length:Int)≤x.fSym:=by
  have h:(decide (x.fSym<0) || decide ((l.length:Int)≤x.fSym))=false:=h3
  rw [Bool.or_eq_false_iff,decide_eq_false_iff_not,decide_eq_false_iff_not] at h
  exact h
 obtain ⟨k,hk⟩:=Int.eq_ofNat_of_zero_le (show 0≤x.fSym by omega)
 obtain ⟨y,hy⟩:∃ y,l[k]?=some y:=⟨_,List.getElem?_eq_getElem ZO⟩
 obtain ⟨e3,cs3,hE3⟩:=hC.elm hy
 obtain rfl:=kApiSymbol_open hE3.K
 have hly:l.getD x.fSym.toNat default=y:=by rw [hk,Int.toNat_natCast,List.getD_eq_getElem?_getD,hy];rfl
 refine ZS0 (t:=9) (v':=.int .i64 (k:Int)) rfl (by rw [hk]) ?_
 refine oIdxE J J (hE3) ZO J J ?_
 have hc10:=(hE3).cell
 refine ZF (ZT 2) (ZT 2) ?_
 refine Zlx hc10 ?_
 refine Z0 J J (Zo J (ZS (ZT 14) (fun h14=>?_) (fun h14=>?_)))
 refine Zr J J J J (Zr J J J J (Zr J J J J (Zr J J J J (Zr J J J J (Zr J J J J (Zr J J J J (Zr J J J J (Zt J J (Z6 (Zzh ?_))))))))))
 exact ⟨(),trivial,by show Value.bool true=Value.bool (decide ((l.getD x.fSym.toNat default).fSort≠1) || decide ((l.getD x.fSym.toNat default).fKind≠cls));rw [hly,decide_eq_true (show y.fSort≠1 from h14)];rfl,Lh⟩
 refine Zq J J (Zld ?_)
 refine Zq J J (Zz (n:=1) (m:=1) J J J (Zzg ?_))
 refine ZS0 (t:=17) (v':=.int .i64 (k:Int)) rfl (by rw [hk]) ?_
 refine Zq J J (oIdxE J J (hE3) ZO J J ?_)
 have hc18:=(hE3).cell
 refine Zq J J (ZF (ZT 3) (ZT 3) ?_)
 refine Zq J J (Zlx hc18 ?_)
 refine Zq J J (Zld ?_)
 refine Zq J J (Z0 J J (Zu J J (Z6 (Zzh ?_))))
 exact ⟨(),trivial,by show _=Value.bool (decide ((l.getD x.fSym.toNat default).fSort≠1) || decide ((l.getD x.fSym.toNat default).fKind≠cls));rw [hly,decide_eq_false (show ¬ y.fSort≠1 from h14)];rfl,Lh⟩

theorem rules_good {b2 b3 b5 j:Nat}{r:Fn×Int}(h:(rulesL b2 b3 b5)[j]?=some r):goodF Tryz.prog r.1.1=true:=by
  have hj:=(List.getElem?_eq_some_iff.1 h).1
  match j,hj,h with
  | 0,_,h=>obtain rfl:=Option.some.inj h;show goodF Tryz.prog 148=true;kernel_rfl
  | 1,_,h=>obtain rfl:=Option.some.inj h;show goodF Tryz.prog 149=true;kernel_rfl
  | 2,_,h=>obtain rfl:=Option.some.inj h;show goodF Tryz.prog 150=true;kernel_rfl
  | 3,_,h=>obtain rfl:=Option.some.inj h;show goodF Tryz.prog 151=true;kernel_rfl
  | 4,_,h=>obtain rfl:=Option.some.inj h;show goodF Tryz.prog 152=true;kernel_rfl
theorem rules_e {b2 b3 b5 j:Nat}{r:Fn×Int}(h:(rulesL b2 b3 b5)[j]?=some r):r.2=ruleE j∧j<5:=by
  have hj:=(List.getElem?_eq_some_iff.1 h).1
  match j,hj,h with
  | 0,_,h=>obtain rfl:=Option.some.inj h;exact ⟨rfl,by decide⟩
  | 1,_,h=>obtain rfl:=Option.some.inj h;exact ⟨rfl,by decide⟩
  | 2,_,h=>obtain rfl:=Option.some.inj h;exact ⟨rfl,by decide⟩
  | 3,_,h=>obtain rfl:=Option.some.inj h;exact ⟨rfl,by decide⟩
  | 4,_,h=>obtain rfl:=Option.some.inj h;exact ⟨rfl,by decide⟩
theorem rules_call {B:Base}{w:World}(d:ApiData) (A0:Option Addr) (c0:Nat) (A1:Option Addr) (c1:Nat) (l:List ApiSymbol) (Al:Option Addr) (cl:Nat) (cls:Int) (b2 b3 b5:Nat) (hS:St B [blk b2 55 [.int .i64 d.fKind,.slice A0 d.fWords.length c0,.slice A1 d.fRelocs.length c1],blk b3 22 [.slice Al l.length cl],blk b5 3 [.int .i64 cls]] w) (g1:kApiReloc.C B.e A1 d.fRelocs) (hC:kApiSymbol.C B.e Al l) (hlw:d.fWords.length≤100000) (i:Nat) (x:ApiReloc) (hx:d.fRelocs[i]?=some x) {j:Nat}{r:Fn×Int}(h:(rulesL b2 b3 b5)[j]?=some r) (hs:∀ k,k<j→ruleP d l cls i x k=false) :
    CW r.1.1 (#[]++[Value.int .i64 (i:Int),Value.agg #[.int .i64 x.fAt,.int .i64 x.fSym,.bool x.fWide]].toArray++(r.1.2.map fun b=>Value.pointer (some ⟨b,0,none⟩)).toArray) w (Ret B (fun _:Unit=>True) (fun _=>.bool (ruleP d l cls i x j)) (fun _=>[blk b2 55 [.int .i64 d.fKind,.slice A0 d.fWords.length c0,.slice A1 d.fRelocs.length c1],blk b3 22 [.slice Al l.length cl],blk b5 3 [.int .i64 cls]])):=by
  have hj:=(List.getElem?_eq_some_iff.1 h).1
  match j,hj,h,hs with
  | 0,_,h,_=>obtain rfl:=Option.some.inj h;refine (frame hS ZQ (fun B' hB hS'=>rule1 d A0 c0 A1 c1 l Al cl cls b2 b3 b5 hS' (Kd.C_grow hB g1) (Kd.C_grow hB hC) hlw i x hx)).mono ?_;rintro e w' ⟨u,a,b,c⟩;exact ⟨u,a,b,(Leads.has ZQ) _ c⟩
  | 1,_,h,_=>obtain rfl:=Option.some.inj h;refine (frame hS ZQ (fun B' hB hS'=>rule2 d A0 c0 A1 c1 l Al cl cls b2 b3 b5 hS' (Kd.C_grow hB g1) (Kd.C_grow hB hC) hlw i x hx)).mono ?_;rintro e w' ⟨u,a,b,c⟩;exact ⟨u,a,b,(Leads.has ZQ) _ c⟩
  | 2,_,h,_=>obtain rfl:=Option.some.inj h;refine (frame hS ZQ (fun B' hB hS'=>rule3 d A0 c0 A1 c1 l Al cl cls b2 b3 b5 hS' (Kd.C_grow hB g1) (Kd.C_grow hB hC) hlw i x hx)).mono ?_;rintro e w' ⟨u,a,b,c⟩;exact ⟨u,a,b,(Leads.has ZQ) _ c⟩
  | 3,_,h,_=>obtain rfl:=Option.some.inj h;refine (frame hS ZQ (fun B' hB hS'=>rule4 d A0 c0 A1 c1 l Al cl cls b2 b3 b5 hS' (Kd.C_grow hB g1) (Kd.C_grow hB hC) hlw i x hx)).mono ?_;rintro e w' ⟨u,a,b,c⟩;exact ⟨u,a,b,(Leads.has ZQ) _ c⟩
  | 4,_,h,hs=>obtain rfl:=Option.some.inj h;refine (frame hS ZQ (fun B' hB hS'=>rule5 d A0 c0 A1 c1 l Al cl cls b2 b3 b5 hS' (Kd.C_grow hB g1) (Kd.C_grow hB hC) hlw i x hx (hs 3 ZO))).mono ?_;rintro e w' ⟨u,a,b,c⟩;exact ⟨u,a,b,(Leads.has ZQ) _ c⟩
theorem data_nz {B:Base}{w:World}(hS:St B [] w) (x:Int) :
 CW 126 #[.int .i64 x] w (Ret B (fun _:Unit=>True) (fun _=>.bool (decide (x≠0))) (fun _=>[])):=by
 refine ZX Tryz.func126 hS ?_
 refine Zh (Zi (Zp J (Zn (Za (Zh (Zi (Zo J (Z0 J J (Zzh ?_)))))))))
 exact ⟨(),trivial,rfl,Lh⟩
theorem indexFunc_w {B:Base}{w:World}(hS:St B [] w) (l:List Int) (A:Option Addr) (cp:Nat) (hC:(Kd.int .i64).C B.e A l) :
 CW 146 #[.slice A l.length cp,.func (.func 126) #[] #[]] w (Ret B (fun _:Unit=>True) (fun _=>.int .i64 (idxI (fun x=>decide (x≠0)) l)) (fun _=>[])):=by
 have hl:=hC.1
 refine ZX Tryz.func146 hS ?_
 refine Zh (Zi (Zp J (Zn (Za (Zh (Zh (Zi (Zo J (Zv J J (Zo J (Zn (Za (Zk (wLoop (ι:=Nat) (fun i=>[(0,.slice A l.length cp),(1,.func (.func 126) #[] #[]),(7,.int .i64 (l.length:Int)),(8,.int .i64 (i:Int))]) (fun i=>[]) (fun i=>i≤l.length∧∀ y ∈ l.take i,decide (y≠0)=false) (fun i=>l.length-i) 0 ?_ cv (Leads.has ZQ) ?_))))))))))))))
 exact ⟨Nat.zero_le _,by simp⟩
 rintro i ⟨hi,hs⟩
 try dsimp only
 refine Zh (Zi (Zx J J (Zn (Za (Zh (wC (fun h9=>?_) (fun h9=>?_)))))))
 obtain ⟨x,hx⟩:∃ x,l[i]?=some x:=⟨_,List.getElem?_eq_getElem ZO⟩
 obtain ⟨e1,cs1,hE⟩:=hC.elm hx
 obtain rfl:=(show cs1=[Value.int .i64 x] from hE.K)
 refine Zj (Za (Zh (Zk (Zh (Zi (Zo J (Zp J (Zn (Za (Zh (Zi (Zo J (Zo J (Zo J (oIdxE J J (hE) ZO J J ?_)))))))))))))))
 have hc14:=(hE).cell
 refine Zlx hc14 ?_
 (refine oCallV rfl rfl rfl ZK (fun w hS=>frame hS ZQ (fun B' hB hS'=>data_nz hS' x)) ?_;rintro ⟨⟩ -)
 refine Zn (Za (wC (fun h16=>?_) (fun h16=>?_)))
 refine Zh (Zi (Zo J (Zzc ?_)))
 exact ⟨(),trivial,by rw [idxI_stop (p:=fun y=>decide (y≠0)) hs hx (by simpa using h16)];rfl,Lh⟩
 refine Zj (Zze ?_)
 refine Zo J (Zn (Za ?_))
 exact ⟨rfl,i+1,⟨by omega,take_not (p:=fun y=>decide (y≠0)) hs hx (by simpa using h16)⟩,by omega,cv,Lh⟩
 refine Zm (Zzf ?_)
 obtain rfl:i=l.length:=by omega
 rw [List.take_length] at hs
 exact ⟨(),trivial,by rw [idxI_none (p:=fun y=>decide (y≠0)) hs];rfl,Lh⟩
theorem containsFunc_w {B:Base}{w:World}(hS:St B [] w) (l:List Int) (A:Option Addr) (cp:Nat) (hC:(Kd.int .i64).C B.e A l) :
 CW 125 #[.slice A l.length cp,.func (.func 126) #[] #[]] w (Ret B (fun _:Unit=>True) (fun _=>.bool (l.any fun x=>decide (x≠0))) (fun _=>[])):=by
 refine ZX Tryz.func125 hS ?_
 refine Zh (Zi (Zp J (Zn (Zzn ?_))))
 (refine ZC0 rfl ZK (fun w hS=>frame hS ZQ (fun B' hB hS'=>indexFunc_w hS' l A cp (Kd.C_grow hB hC))) ?_;rintro ⟨⟩ -)
 refine Z2 J J (Zzh ?_)
 exact ⟨(),trivial,by show Value.bool (decide (0≤idxI (fun x=>decide (x≠0)) l))=_;congr 1;rw [Bool.eq_iff_iff,decide_eq_true_eq];exact idxI_iff,Lh⟩
theorem data_rules {B:Base}{w:World}(hS:St B [] w) (d:ApiData) (A0:Option Addr) (c0:Nat) (A1:Option Addr) (c1:Nat) (l:List ApiSymbol) (Al:Option Addr) (cl:Nat) :
 CW 127 #[.agg #[.int .i64 d.fKind,.slice A0 d.fWords.length c0,.slice A1 d.fRelocs.length c1],.slice Al l.length cl] w (Ret B (fun _:Nat×Nat×Nat×Nat=>True) (fun z=>.slice (some ⟨z.2.2.2,0,none⟩) 5 5) (fun z=>[blk z.2.2.2 174 [.func (.func 148) #[] #[.pointer (some ⟨z.1,0,none⟩)],.int .i64 11,.func (.func 149) #[] #[.pointer (some ⟨z.1,0,none⟩)],.int .i64 11,.func (.func 150) #[] #[.pointer (some ⟨z.1,0,none⟩)],.int .i64 11,.func (.func 151) #[] #[.pointer (some ⟨z.2.1,0,none⟩)],.int .i64 11,.func (.func 152) #[] #[.pointer (some ⟨z.2.1,0,none⟩),.pointer (some ⟨z.2.2.1,0,none⟩)],.int .i64 8],blk z.1 55 [.int .i64 d.fKind,.slice A0 d.fWords.length c0,.slice A1 d.fRelocs.length c1],blk z.2.1 22 [.slice Al l.length cl],blk z.2.2.1 3 [.int .i64 (if isC (IntKind.i64.wrap (d.fKind-1)) then IntKind.i64.wrap (d.fKind-1) else 0)]])):=by
 refine ZX Tryz.func127 hS ?_
 refine Zh (Zi (oBox J ZP (fun b2=>?_)))
 refine oBox J ZP (fun b3=>?_)
 refine Zp J (Zn (Za (Zh (Zi (Zz (n:=0) (m:=0) J J J (Zld ?_))))))
 (refine ZC0 rfl ZK (fun w hS=>frame hS ZQ (fun B' hB hS'=>sig_Class hS' d.fKind)) ?_;rintro ⟨⟩ -)
 refine Zo J (oExt J ZP ?_)
 refine oExt J ZP ?_
 refine oAlloc J ZP (fun b5=>?_)
 refine Zst ?_
 refine Zp J (Zn (Za (Zh (Zi (oMakeFunc J (oBuild (Parts.cons J (Parts.cons J Parts.nil)) J J (Built.cons (off:=0) (s:=1) J ZP J ZP (Built.cons (off:=1) (s:=1) J ZP J ZP Built.nil)) ?_))))))
 refine oMakeFunc J (oBuild (Parts.cons J (Parts.cons J Parts.nil)) J J (Built.cons (off:=0) (s:=1) J ZP J ZP (Built.cons (off:=1) (s:=1) J ZP J ZP Built.nil)) ?_)
 refine oMakeFunc J (oBuild (Parts.cons J (Parts.cons J Parts.nil)) J J (Built.cons (off:=0) (s:=1) J ZP J ZP (Built.cons (off:=1) (s:=1) J ZP J ZP Built.nil)) ?_)
 refine oMakeFunc J (oBuild (Parts.cons J (Parts.cons J Parts.nil)) J J (Built.cons (off:=0) (s:=1) J ZP J ZP (Built.cons (off:=1) (s:=1) J ZP J ZP Built.nil)) ?_)
 refine oMakeFunc J (oBuild (Parts.cons J (Parts.cons J Parts.nil)) J J (Built.cons (off:=0) (s:=1) J ZP J ZP (Built.cons (off:=1) (s:=1) J ZP J ZP Built.nil)) ?_)
 refine oBuildSliceF (Parts.cons J (Parts.cons J (Parts.cons J (Parts.cons J (Parts.cons J Parts.nil))))) J J J J J (Fulls.cons ZP J (Fulls.cons ZP J (Fulls.cons ZP J (Fulls.cons ZP J (Fulls.cons ZP J Fulls.nil ap) ap) ap) ap) ap) (fun b23=>?_)
 refine Zp J (Zza ?_)
 exact ⟨(b2,b3,b5,b23),trivial,rfl,Lh⟩
theorem rule_all {d:ApiData}{l:List ApiSymbol}{i:Nat}{x:ApiReloc}{cls:Int}(hc:d.fKind≠0→cls=d.fKind-1) (h:∀ k,k<5→ruleP d l cls i x k=false):dRelE d l i x=0:=by
 have h0:d.fKind≠0:=by simpa [ruleP] using h 0 ZO
 have h1:=h 1 ZO
 have h2:=h 2 ZO
 have h3:=h 3 ZO
 have h4:=h 4 ZO
 have e:=hc h0
 unfold dRelE
 simp only [ruleP,Bool.or_eq_false_iff,Bool.and_eq_false_iff,decide_eq_false_iff_not] at h1 h2 h3 h4
 rw [if_neg (by rintro (a | a | a | ⟨a,b⟩ | a | a);exact h0 a;exact h1.1 a;exact h1.2 a;exact h2.elim (fun f=>f a) (fun f=>f b);exact h3.1 a;exact h3.2 a),if_neg (by rintro (a | a);exact h4.1 a;exact h4.2 (by rw [e];exact a))]
theorem rule_hit {d:ApiData}{l:List ApiSymbol}{i:Nat}{x:ApiReloc}{cls:Int}{j:Nat}(hj:j<5) (hc:d.fKind≠0→cls=d.fKind-1) (h:∀ k,k<j→ruleP d l cls i x k=false) (hh:ruleP d l cls i x j=true):dRelE d l i x=ruleE j:=by
  unfold dRelE
  match j,hj,hh,h with
  | 0,_,hh,_=>rw [if_pos (Or.inl (by simpa [ruleP] using hh))];rfl
  | 1,_,hh,_=>rw [if_pos (by simp only [ruleP,Bool.or_eq_true,decide_eq_true_eq] at hh;exact hh.elim (fun a=>.inr (.inl a)) (fun a=>.inr (.inr (.inl a))))];rfl
  | 2,_,hh,_=>rw [if_pos (by simp only [ruleP,Bool.and_eq_true,decide_eq_true_eq] at hh;exact .inr (.inr (.inr (.inl hh))))];rfl
  | 3,_,hh,_=>rw [if_pos (by simp only [ruleP,Bool.or_eq_true,decide_eq_true_eq] at hh;exact hh.elim (fun a=>.inr (.inr (.inr (.inr (.inl a))))) (fun a=>.inr (.inr (.inr (.inr (.inr a))))))];rfl
  | 4,_,hh,h=>
    have h0:d.fKind≠0:=by simpa [ruleP] using h 0 ZO
    have h1:=h 1 ZO
    have h2:=h 2 ZO
    have h3:=h 3 ZO
    have e:=hc h0
    simp only [ruleP,Bool.or_eq_false_iff,Bool.and_eq_false_iff,decide_eq_false_iff_not] at h1 h2 h3
    simp only [ruleP,Bool.or_eq_true,decide_eq_true_eq] at hh
    rw [if_neg (by rintro (a | a | a | ⟨a,b⟩ | a | a);exact h0 a;exact h1.1 a;exact h1.2 a;exact h2.elim (fun f=>f a) (fun f=>f b);exact h3.1 a;exact h3.2 a),if_pos (by rw [← e];exact hh)];rfl
theorem cat_rules (w:World) (b2 b3 b5:Nat):Cat kRule w (rulesL b2 b3 b5) [.func (.func 148) #[] #[.pointer (some ⟨b2,0,none⟩)],.int .i64 11,.func (.func 149) #[] #[.pointer (some ⟨b2,0,none⟩)],.int .i64 11,.func (.func 150) #[] #[.pointer (some ⟨b2,0,none⟩)],.int .i64 11,.func (.func 151) #[] #[.pointer (some ⟨b3,0,none⟩)],.int .i64 11,.func (.func 152) #[] #[.pointer (some ⟨b3,0,none⟩),.pointer (some ⟨b5,0,none⟩)],.int .i64 8]:=
 ⟨[_,_],_,rfl,⟨_,_,rfl,rfl,rfl⟩,[_,_],_,rfl,⟨_,_,rfl,rfl,rfl⟩,[_,_],_,rfl,⟨_,_,rfl,rfl,rfl⟩,[_,_],_,rfl,⟨_,_,rfl,rfl,rfl⟩,[_,_],_,rfl,⟨_,_,rfl,rfl,rfl⟩,rfl⟩
theorem cls_eq {k:Int}(h:textF k≠ByteArray.empty) (h0:k≠0):(if isC (IntKind.i64.wrap (k-1)) then IntKind.i64.wrap (k-1) else 0)=k-1:=by
 have hk:0≤k∧k<9:=Classical.not_not.1 (fun hn=>h (textF_no.2 hn))
 have hw:IntKind.i64.wrap (k-1)=k-1:=wrap_in (by unfold in64;omega)
 rw [hw,if_pos (by unfold isC;rw [decide_eq_true (show 0≤k-1 by omega),decide_eq_true (show k-1<8 by omega)];rfl)]
theorem data_Check {B:Base}{w:World}(hS:St B [] w) (d:ApiData) (dc:List Value) (hd:kApiData.K B.e d dc) (hk:in64 d.fKind) (hl2:d.fRelocs.length≤100000) (Al:Option Addr) (cl:Nat) (l:List ApiSymbol) (hC:kApiSymbol.C B.e Al l) :
 CW 95 #[.agg dc.toArray,.slice Al l.length cl] w (Ret B (fun _:Unit=>True) (fun _=>.int .i64 (dataF d l)) (fun _=>[])):=by
 obtain ⟨A0,c0,A1,c1,rfl,l0,g0,l1,g1⟩:=kApiData_open hd
 have hw1:=g0.1
 refine ZX Tryz.func95 hS ?_
 refine Zh (Zi (oBox J ZP (fun b2=>?_)))
 refine Zp J (Zn (Za (Zh (Zk (Zh (Zi (Zz (n:=0) (m:=0) J J J (Zld ?_))))))))
 (refine ZC0 rfl ZK (fun w hS=>frame hS ZQ (fun B' hB hS'=>sig_Text hS' d.fKind)) ?_;rintro ⟨⟩ -)
 refine oSEq J J (Zp J (Zn (Za (wC (fun h10=>?_) (fun h10=>?_)))))
 have h10:textF d.fKind=ByteArray.empty:=h10
 refine Zh (Zi (Zzd ?_))
 exact ⟨(),trivial,by unfold dataF;rw [if_pos h10];rfl,Lh⟩
 have h10:¬ textF d.fKind=ByteArray.empty:=h10
 have hcls:d.fKind≠0→(if isC (IntKind.i64.wrap (d.fKind-1)) then IntKind.i64.wrap (d.fKind-1) else 0)=d.fKind-1:=fun h0=>cls_eq h10 h0
 refine Zh (Zi (Zz (n:=1) (m:=1) J J J (Zld ?_)))
 refine Zv J J (Z1 J J (Zp J (Zn (Za (wC (fun h15=>?_) (fun h15=>?_))))))
 refine Zh (Zi (Zzd ?_))
 exact ⟨(),trivial,by unfold dataF;rw [if_neg h10,if_pos ZO];rfl,Lh⟩
 have hn32:¬ 32<d.fWords.length:=by omega
 refine Zh (Zi (Zz (n:=0) (m:=0) J J J (Zld ?_)))
 refine Z0 J J (Zo J (ZS (ZT 24) (fun h24=>?_) (fun h24=>?_)))
 have hfn:(fun w:Int=>decide (d.fKind≠0∧w≠0))=fun w=>decide (w≠0):=by funext w;simp [show d.fKind≠0 from h24]
 refine Zq J J (Zz (n:=1) (m:=1) J J J (Zzg ?_))
 refine Zq J J ?_
 (refine ZC0 rfl ZK (fun w hS=>frame hS ZQ (fun B' hB hS'=>containsFunc_w hS' d.fWords A0 c0 (Kd.C_grow hB g0))) ?_;rintro ⟨⟩ -)
 refine Zt J J (Zp J (Zn (Za (wC (fun h20=>?_) (fun h20=>?_)))))
 refine Zh (Zi (Zzd ?_))
 exact ⟨(),trivial,by unfold dataF;rw [if_neg h10,if_neg hn32,if_pos (by rw [hfn];simpa using h20)];rfl,Lh⟩
 have hdF:dataF d l=fstE ((List.range d.fRelocs.length).map (relE d l)):=by unfold dataF;rw [if_neg h10,if_neg hn32,if_neg (by rw [hfn];simpa using h20)]
 refine Zj (Zd (Zzk ?_))
 refine Zo J ?_
 (refine ZC0 rfl ZK (fun w hS=>frame hS ZQ (fun B' hB hS'=>data_rules hS' d A0 c0 A1 c1 l Al cl)) ?_;rintro z -)
 refine Zp J (Zn (Za (wFreeze [blk z.2.2.2 174 [.func (.func 148) #[] #[.pointer (some ⟨z.1,0,none⟩)],.int .i64 11,.func (.func 149) #[] #[.pointer (some ⟨z.1,0,none⟩)],.int .i64 11,.func (.func 150) #[] #[.pointer (some ⟨z.1,0,none⟩)],.int .i64 11,.func (.func 151) #[] #[.pointer (some ⟨z.2.1,0,none⟩)],.int .i64 11,.func (.func 152) #[] #[.pointer (some ⟨z.2.1,0,none⟩),.pointer (some ⟨z.2.2.1,0,none⟩)],.int .i64 8]] ZQ (fun B1 hB1 hq1=>?_))))
 have hR:kRule.C B1.e (some ⟨z.2.2.2,0,none⟩) (rulesL z.1 z.2.1 z.2.2.1):=C_blk (hq1 _ _ ZP) (by show 5≤9223372036854775807;omega) (cat_rules _ _ _ _)
 have g0:=Kd.C_grow hB1 g0
 have g1:=Kd.C_grow hB1 g1
 have hC:=Kd.C_grow hB1 hC
 refine Zh (Zh (Zi (Zz (n:=2) (m:=2) J J J (Zld ?_))))
 refine Zv J J (Zo J (Zn (Za (Zk (wLoop (ι:=Nat) (fun i=>[(2,.pointer (some ⟨b2,0,none⟩)),(5,.slice (some ⟨z.2.2.2,0,none⟩) 5 5),(33,.slice A1 d.fRelocs.length c1),(34,.int .i64 (d.fRelocs.length:Int)),(35,.int .i64 (i:Int))]) (fun i=>[blk b2 55 [.int .i64 d.fKind,.slice A0 d.fWords.length c0,.slice A1 d.fRelocs.length c1],blk z.1 55 [.int .i64 d.fKind,.slice A0 d.fWords.length c0,.slice A1 d.fRelocs.length c1],blk z.2.1 22 [.slice Al l.length cl],blk z.2.2.1 3 [.int .i64 (if isC (IntKind.i64.wrap (d.fKind-1)) then IntKind.i64.wrap (d.fKind-1) else 0)]]) (fun i=>i≤d.fRelocs.length∧fstE (((List.range d.fRelocs.length).map (relE d l)).take i)=0) (fun i=>d.fRelocs.length-i) 0 ?_ cv (Leads.has ZQ) ?_)))))
 exact ⟨Nat.zero_le _,rfl⟩
 rintro i ⟨hi,hs⟩
 try dsimp only
 refine Zh (Zi (Zx J J (Zn (Za (Zh (wC (fun h36=>?_) (fun h36=>?_)))))))
 obtain ⟨x,hx⟩:∃ x,d.fRelocs[i]?=some x:=⟨_,List.getElem?_eq_getElem ZO⟩
 obtain ⟨e1,cs1,hE⟩:=g1.elm hx
 obtain rfl:=kApiReloc_open hE.K
 have hre:((List.range d.fRelocs.length).map (relE d l))[i]?=some (relE d l i):=rmap_at ZO
 have hrx:=relE_at (l:=l) hx
 refine Zj (Za (Zh (Zk (Zh (Zi (Zo J (oIdxE J J (hE) ZO J J ?_)))))))
 have hc38:=(hE).cell
 refine Zlx hc38 ?_
 refine oAlloc J ZP (fun b7=>?_)
 refine Zp J (Zsa ?_)
 refine Zn (Za (Zh (Zi (Zo J (Zv J J (Zo J (Zn (Za (Zk (wLoop (ι:=Nat) (fun j=>[(2,.pointer (some ⟨b2,0,none⟩)),(5,.slice (some ⟨z.2.2.2,0,none⟩) 5 5),(33,.slice A1 d.fRelocs.length c1),(34,.int .i64 (d.fRelocs.length:Int)),(35,.int .i64 (i:Int)),(6,.int .i64 (i:Int)),(7,.pointer (some ⟨b7,0,none⟩)),(40,.slice (some ⟨z.2.2.2,0,none⟩) 5 5),(41,.int .i64 5),(42,.int .i64 (j:Int))]) (fun j=>[blk b7 92 [.int .i64 x.fAt,.int .i64 x.fSym,.bool x.fWide],blk b2 55 [.int .i64 d.fKind,.slice A0 d.fWords.length c0,.slice A1 d.fRelocs.length c1],blk z.1 55 [.int .i64 d.fKind,.slice A0 d.fWords.length c0,.slice A1 d.fRelocs.length c1],blk z.2.1 22 [.slice Al l.length cl],blk z.2.2.1 3 [.int .i64 (if isC (IntKind.i64.wrap (d.fKind-1)) then IntKind.i64.wrap (d.fKind-1) else 0)]]) (fun j=>j≤5∧∀ k,k<j→ruleP d l (if isC (IntKind.i64.wrap (d.fKind-1)) then IntKind.i64.wrap (d.fKind-1) else 0) i x k=false) (fun j=>5-j) 0 ?_ cv (Leads.has ZQ) ?_))))))))))
 exact ⟨Nat.zero_le _,fun k hk=>by omega⟩
 rintro j ⟨hj,hsj⟩
 try dsimp only
 refine Zh (Zi (Zx J J (Zn (Za (Zh (wC (fun h43=>?_) (fun h43=>?_)))))))
 obtain ⟨r,hr⟩:∃ r,(rulesL z.1 z.2.1 z.2.2.1)[j]?=some r:=⟨_,List.getElem?_eq_getElem (by show j<5;omega)⟩
 obtain ⟨e2,cs2,hE2⟩:=hR.elm hr
 obtain ⟨_,_,rfl,rfl,rfl⟩:=(hE2.K:kRule.K _ _ _)
 refine Zj (Za (Zh (Zk (Zh (Zi (oIdxE J J (hE2) ZO J J ?_))))))
 have hc44:=(hE2).cell
 refine Zlx hc44 ?_
 refine oAlloc J ZP (fun b9=>?_)
 refine Zsa ?_
 refine Zn (Za (Zh (Zi (Zz (n:=0) (m:=0) J J J (Zld ?_)))))
 refine Zo J (Zla ?_)
 (refine oCallV rfl rfl rfl (rules_good hr) (fun w hS=>frame hS ZQ (fun B' hB hS'=>rules_call d A0 c0 A1 c1 l Al cl _ z.1 z.2.1 z.2.2.1 hS' (Kd.C_grow hB g1) (Kd.C_grow hB hC) ZO i x hx hr hsj)) ?_;rintro ⟨⟩ -)
 refine Zn (Za (wC (fun h50=>?_) (fun h50=>?_)))
 refine Zh (Zi (Zz (n:=1) (m:=1) J J J (Zld ?_)))
 refine Zp J (Zn (Za (Zl (Zf (Zc (Zc (Zf (Zf (Zc (Zc (Zf (Zc (Zw (fi1 J ?_))))))))))))))
 exact ⟨(),trivial,by rw [hdF,fstE_stop hs hre (by rw [hrx,rule_hit (rules_e hr).2 hcls hsj (by simpa using h50)];unfold ruleE;split <;> decide),hrx,rule_hit (rules_e hr).2 hcls hsj (by simpa using h50),(rules_e hr).1];rfl,Lh⟩
 refine Zj (Zze ?_)
 refine Zo J (Zn (Za ?_))
 exact ⟨rfl,j+1,⟨by omega,fun k hk=>if e:k=j then (by rw [e];simpa using h50) else hsj k ZO⟩,by omega,cv,Lh⟩
 obtain rfl:j=5:=by omega
 refine Zm (Zb (Zb (Ze (Zze ?_))))
 refine Zo J (Zn (Za ?_))
 exact ⟨rfl,i+1,⟨by omega,fstE_next hs hre (by rw [hrx];exact rule_all hcls (fun k hk=>hsj k hk))⟩,by omega,cv,Lh⟩
 obtain rfl:i=d.fRelocs.length:=by omega
 rw [List.take_of_length_le (by simp)] at hs
 refine Zm (Zzf ?_)
 exact ⟨(),trivial,by rw [hdF,hs];rfl,Lh⟩
 have hdF:dataF d l=fstE ((List.range d.fRelocs.length).map (relE d l)):=by unfold dataF;rw [if_neg h10,if_neg hn32,if_neg (by simp [show d.fKind=0 from Classical.not_not.1 h24])]
 refine Zr J J J J (Zr J J J J (Zr J J J J (Zu J J (Zp J (Zn (Za (wCondF J (Zj (Zd (Zzk ?_))))))))))
 refine Zo J ?_
 (refine ZC0 rfl ZK (fun w hS=>frame hS ZQ (fun B' hB hS'=>data_rules hS' d A0 c0 A1 c1 l Al cl)) ?_;rintro z -)
 refine Zp J (Zn (Za (wFreeze [blk z.2.2.2 174 [.func (.func 148) #[] #[.pointer (some ⟨z.1,0,none⟩)],.int .i64 11,.func (.func 149) #[] #[.pointer (some ⟨z.1,0,none⟩)],.int .i64 11,.func (.func 150) #[] #[.pointer (some ⟨z.1,0,none⟩)],.int .i64 11,.func (.func 151) #[] #[.pointer (some ⟨z.2.1,0,none⟩)],.int .i64 11,.func (.func 152) #[] #[.pointer (some ⟨z.2.1,0,none⟩),.pointer (some ⟨z.2.2.1,0,none⟩)],.int .i64 8]] ZQ (fun B1 hB1 hq1=>?_))))
 have hR:kRule.C B1.e (some ⟨z.2.2.2,0,none⟩) (rulesL z.1 z.2.1 z.2.2.1):=C_blk (hq1 _ _ ZP) (by show 5≤9223372036854775807;omega) (cat_rules _ _ _ _)
 have g0:=Kd.C_grow hB1 g0
 have g1:=Kd.C_grow hB1 g1
 have hC:=Kd.C_grow hB1 hC
 refine Zh (Zh (Zi (Zz (n:=2) (m:=2) J J J (Zld ?_))))
 refine Zv J J (Zo J (Zn (Za (Zk (wLoop (ι:=Nat) (fun i=>[(2,.pointer (some ⟨b2,0,none⟩)),(5,.slice (some ⟨z.2.2.2,0,none⟩) 5 5),(33,.slice A1 d.fRelocs.length c1),(34,.int .i64 (d.fRelocs.length:Int)),(35,.int .i64 (i:Int))]) (fun i=>[blk b2 55 [.int .i64 d.fKind,.slice A0 d.fWords.length c0,.slice A1 d.fRelocs.length c1],blk z.1 55 [.int .i64 d.fKind,.slice A0 d.fWords.length c0,.slice A1 d.fRelocs.length c1],blk z.2.1 22 [.slice Al l.length cl],blk z.2.2.1 3 [.int .i64 (if isC (IntKind.i64.wrap (d.fKind-1)) then IntKind.i64.wrap (d.fKind-1) else 0)]]) (fun i=>i≤d.fRelocs.length∧fstE (((List.range d.fRelocs.length).map (relE d l)).take i)=0) (fun i=>d.fRelocs.length-i) 0 ?_ cv (Leads.has ZQ) ?_)))))
 exact ⟨Nat.zero_le _,rfl⟩
 rintro i ⟨hi,hs⟩
 try dsimp only
 refine Zh (Zi (Zx J J (Zn (Za (Zh (wC (fun h36=>?_) (fun h36=>?_)))))))
 obtain ⟨x,hx⟩:∃ x,d.fRelocs[i]?=some x:=⟨_,List.getElem?_eq_getElem ZO⟩
 obtain ⟨e1,cs1,hE⟩:=g1.elm hx
 obtain rfl:=kApiReloc_open hE.K
 have hre:((List.range d.fRelocs.length).map (relE d l))[i]?=some (relE d l i):=rmap_at ZO
 have hrx:=relE_at (l:=l) hx
 refine Zj (Za (Zh (Zk (Zh (Zi (Zo J (oIdxE J J (hE) ZO J J ?_)))))))
 have hc38:=(hE).cell
 refine Zlx hc38 ?_
 refine oAlloc J ZP (fun b7=>?_)
 refine Zp J (Zsa ?_)
 refine Zn (Za (Zh (Zi (Zo J (Zv J J (Zo J (Zn (Za (Zk (wLoop (ι:=Nat) (fun j=>[(2,.pointer (some ⟨b2,0,none⟩)),(5,.slice (some ⟨z.2.2.2,0,none⟩) 5 5),(33,.slice A1 d.fRelocs.length c1),(34,.int .i64 (d.fRelocs.length:Int)),(35,.int .i64 (i:Int)),(6,.int .i64 (i:Int)),(7,.pointer (some ⟨b7,0,none⟩)),(40,.slice (some ⟨z.2.2.2,0,none⟩) 5 5),(41,.int .i64 5),(42,.int .i64 (j:Int))]) (fun j=>[blk b7 92 [.int .i64 x.fAt,.int .i64 x.fSym,.bool x.fWide],blk b2 55 [.int .i64 d.fKind,.slice A0 d.fWords.length c0,.slice A1 d.fRelocs.length c1],blk z.1 55 [.int .i64 d.fKind,.slice A0 d.fWords.length c0,.slice A1 d.fRelocs.length c1],blk z.2.1 22 [.slice Al l.length cl],blk z.2.2.1 3 [.int .i64 (if isC (IntKind.i64.wrap (d.fKind-1)) then IntKind.i64.wrap (d.fKind-1) else 0)]]) (fun j=>j≤5∧∀ k,k<j→ruleP d l (if isC (IntKind.i64.wrap (d.fKind-1)) then IntKind.i64.wrap (d.fKind-1) else 0) i x k=false) (fun j=>5-j) 0 ?_ cv (Leads.has ZQ) ?_))))))))))
 exact ⟨Nat.zero_le _,fun k hk=>by omega⟩
 rintro j ⟨hj,hsj⟩
 try dsimp only
 refine Zh (Zi (Zx J J (Zn (Za (Zh (wC (fun h43=>?_) (fun h43=>?_)))))))
 obtain ⟨r,hr⟩:∃ r,(rulesL z.1 z.2.1 z.2.2.1)[j]?=some r:=⟨_,List.getElem?_eq_getElem (by show j<5;omega)⟩
 obtain ⟨e2,cs2,hE2⟩:=hR.elm hr
 obtain ⟨_,_,rfl,rfl,rfl⟩:=(hE2.K:kRule.K _ _ _)
 refine Zj (Za (Zh (Zk (Zh (Zi (oIdxE J J (hE2) ZO J J ?_))))))
 have hc44:=(hE2).cell
 refine Zlx hc44 ?_
 refine oAlloc J ZP (fun b9=>?_)
 refine Zsa ?_
 refine Zn (Za (Zh (Zi (Zz (n:=0) (m:=0) J J J (Zld ?_)))))
 refine Zo J (Zla ?_)
 (refine oCallV rfl rfl rfl (rules_good hr) (fun w hS=>frame hS ZQ (fun B' hB hS'=>rules_call d A0 c0 A1 c1 l Al cl _ z.1 z.2.1 z.2.2.1 hS' (Kd.C_grow hB g1) (Kd.C_grow hB hC) ZO i x hx hr hsj)) ?_;rintro ⟨⟩ -)
 refine Zn (Za (wC (fun h50=>?_) (fun h50=>?_)))
 refine Zh (Zi (Zz (n:=1) (m:=1) J J J (Zld ?_)))
 refine Zp J (Zn (Za (Zl (Zf (Zc (Zc (Zf (Zf (Zc (Zc (Zf (Zc (Zw (fi1 J ?_))))))))))))))
 exact ⟨(),trivial,by rw [hdF,fstE_stop hs hre (by rw [hrx,rule_hit (rules_e hr).2 hcls hsj (by simpa using h50)];unfold ruleE;split <;> decide),hrx,rule_hit (rules_e hr).2 hcls hsj (by simpa using h50),(rules_e hr).1];rfl,Lh⟩
 refine Zj (Zze ?_)
 refine Zo J (Zn (Za ?_))
 exact ⟨rfl,j+1,⟨by omega,fun k hk=>if e:k=j then (by rw [e];simpa using h50) else hsj k ZO⟩,by omega,cv,Lh⟩
 obtain rfl:j=5:=by omega
 refine Zm (Zb (Zb (Ze (Zze ?_))))
 refine Zo J (Zn (Za ?_))
 exact ⟨rfl,i+1,⟨by omega,fstE_next hs hre (by rw [hrx];exact rule_all hcls (fun k hk=>hsj k hk))⟩,by omega,cv,Lh⟩
 obtain rfl:i=d.fRelocs.length:=by omega
 rw [List.take_of_length_le (by simp)] at hs
 refine Zm (Zzf ?_)
 exact ⟨(),trivial,by rw [hdF,hs];rfl,Lh⟩
end Go.Proofs.YtpmdhkjbhjgoaaaGreatO
/-
  Heaps in arrays, plainly: exchanges, and what sifting up and down keeps.
-/
namespace Go.Proofs.YtpmdhkjbhjgoaaaGreatQ
set_option maxRecDepth 100000
set_option maxHeartbeats 4000000

section
variable (lt : Nat → Nat → Prop)
variable {lt} (asy : ∀ a b, lt a b → ¬ lt b a) (tr : ∀ a b c, ¬ lt b a → ¬ lt c b → ¬ lt c a)
include asy tr
omit asy tr in
omit tr in
omit asy tr in
end
def at_ (l:List Nat) (k:Nat):Nat:=l.getD k 0
end Go.Proofs.YtpmdhkjbhjgoaaaGreatQ


/-
  Package queue: what a pile is, and its methods Len and Less.
-/
namespace Go.Proofs.YtpmdhkjbhjgoaaaGreatQ
set_option maxRecDepth 100000
set_option maxHeartbeats 4000000
open Go.RowKit Go.Proofs.YtpmdhkjbhjgoaaaGreatK

structure It where
  id:Int
  key:Int
  pl:Int
def ltI (a b:It):Prop:=a.key<b.key∨a.key=b.key∧a.id<b.id
instance (a b:It):Decidable (ltI a b):=by unfold ltI;infer_instance

section
variable {c : Cx} {N : Md c} {M : Me c} {d : Nat} {ty : TypeId} {pos : String} {af : Array Edge} {rest : List Oper} {E : Env} {D : List Deferred} {H H' : List Res} {v : Value} {x y : Operand} {t : TypeId} {S : Nat → Prop} {f : Nat → It}
end

end Go.Proofs.YtpmdhkjbhjgoaaaGreatQ


/-
  Package queue: a pile's exchange.
-/
namespace Go.Proofs.YtpmdhkjbhjgoaaaGreatQ
set_option maxRecDepth 100000
set_option maxHeartbeats 4000000
open Go.RowKit Go.Proofs.YtpmdhkjbhjgoaaaGreatK

def Same (f f':Nat→It):Prop:=∀ b,(f' b).id=(f b).id∧(f' b).key=(f b).key
section
variable {c : Cx} {N : Md c} {M : Me c} {d : Nat} {ty : TypeId} {pos : String} {af : Array Edge} {rest : List Oper} {E : Env} {D : List Deferred} {H H' : List Res} {v : Value} {x y : Operand} {t : TypeId} {S : Nat → Prop} {f : Nat → It}
end
end Go.Proofs.YtpmdhkjbhjgoaaaGreatQ


/-
  Package queue: a pile's Push and Pop.
-/
namespace Go.Proofs.YtpmdhkjbhjgoaaaGreatQ
set_option maxRecDepth 100000
set_option maxHeartbeats 4000000
open Go.RowKit Go.Proofs.YtpmdhkjbhjgoaaaGreatK

section
variable {B : Base} {w : World} {Φ Φ' Φ'' : List Res} {S S' : Nat → Prop} {f f' : Nat → It} {b : Nat}
theorem St.apart {r s:Res}(h:St B Φ w) (hp:Pick Φ r Φ') (hq:Pick Φ' s Φ'') {k:Nat}(hr:r.fp k):¬ s.fp k:=by
 have:=(h.perm (hp.perm.trans (hq.perm.cons _))).sep
 exact this.2.2.1 s List.mem_cons_self k hr
end

end Go.Proofs.YtpmdhkjbhjgoaaaGreatQ


/-
  Package queue: a pile's Pop; container/heap's up and down.
-/


/-
  container/heap over a pile: up and down.
-/
namespace Go.Proofs.YtpmdhkjbhjgoaaaGreatQ
set_option maxRecDepth 100000
set_option maxHeartbeats 4000000
open Go.RowKit Go.Proofs.YtpmdhkjbhjgoaaaGreatK

def ltB (f:Nat→It) (a b:Nat):Prop:=ltI (f a) (f b)
theorem Same.refl (f:Nat→It):Same f f:=fun _=>⟨rfl,rfl⟩
theorem Same.trans {f g h:Nat→It}(a:Same f g) (b:Same g h):Same f h:=fun k=>⟨(b k).1.trans (a k).1,(b k).2.trans (a k).2⟩
theorem Same.lt {f g:Nat→It}(h:Same f g):ltB g=ltB f:=by
 funext a b;unfold ltB ltI;rw [(h a).1,(h a).2,(h b).1,(h b).2]
end Go.Proofs.YtpmdhkjbhjgoaaaGreatQ


/-
  container/heap over a pile: Push, Pop, Remove.
-/


/-
  Package queue: queues, as sorted lists of ids and keys.
-/
namespace Go.Proofs.YtpmdhkjbhjgoaaaGreatQ
set_option maxRecDepth 100000
set_option maxHeartbeats 4000000
open Go.RowKit Go.Proofs.YtpmdhkjbhjgoaaaGreatK

def lt2 (a b:Int×Int):Prop:=a.2<b.2∨a.2=b.2∧a.1<b.1
instance (a b:Int×Int):Decidable (lt2 a b):=by unfold lt2;infer_instance
def Sorted (W:List (Int×Int)):Prop:=W.Pairwise lt2
def hd2:List (Int×Int)→Int
  | []=>0
  | x :: _=>x.2
theorem Sorted.filter {W:List (Int×Int)}(h:Sorted W) (p:Int×Int→Bool):Sorted (W.filter p):=List.Pairwise.sublist List.filter_sublist h
end Go.Proofs.YtpmdhkjbhjgoaaaGreatQ


/-
  Package queue: New and the methods, over sorted lists.
-/
/-
  Package cycle: members, On; the reference's On.
-/
namespace Go.Proofs.YtpmdhkjbhjgoaaaGreatG
set_option maxRecDepth 100000
set_option maxHeartbeats 4000000
open Go.RowKit Go.Proofs.YtpmdhkjbhjgoaaaGreatK Go.Proofs.YtpmdhkjbhjgoaaaGreatT Go.Proofs.YtpmdhkjbhjgoaaaGreatL

theorem RP_congr {g g':Graph}{f f':List Int}(hl:g.length=g'.length) (he:∀ a b,b ∈ endsOf g a→b ∈ endsOf g' a) (hf:∀ x,inG g x=true→x ∈ f→x ∈ f') {x:Int}(h:RP g f x):RP g' f' x:=by
 induction h with
 | start h1 h2=>exact .start (hf _ h2 h1) (by unfold inG at *;rw [← hl];exact h2)
 | step h1 h2 ih=>exact .step ih (he _ _ h2)
end Go.Proofs.YtpmdhkjbhjgoaaaGreatG


/-
  The reference's On; graphs turned: Turn, and the reference's Clean.
-/


/-
  Package digraph: Turn.
-/


/-
  Orders, plainly: the least that is free, time and again.
-/
namespace Go.Proofs.YtpmdhkjbhjgoaaaGreatG
set_option maxRecDepth 100000
set_option maxHeartbeats 4000000
open Go.RowKit Go.Proofs.YtpmdhkjbhjgoaaaGreatK Go.Proofs.YtpmdhkjbhjgoaaaGreatT Go.Proofs.YtpmdhkjbhjgoaaaGreatL

def fre (ed:Nat→Nat→Bool) (left:List Bool) (a:Nat):Bool:=left.getD a false && (List.range left.length).all fun b=>!(left.getD b false) || !(ed b a)
def nxt (ed:Nat→Nat→Bool) (left:List Bool):Option Nat:=(List.range left.length).find? (fre ed left)
def trues (left:List Bool):Nat:=(left.filter id).length
def gr (ed:Nat→Nat→Bool):Nat→List Bool→List Nat
  | 0,_=>[]
  | f+1,left=>match nxt ed left with
    | none=>[]
    | some a=>a :: gr ed f (left.set a false)
theorem trues_set {left:List Bool}{a:Nat}(h:left[a]?=some true):trues (left.set a false)+1=trues left:=by
 unfold trues
 induction left generalizing a with
 | nil=>simp at h
 | cons b left ih=>
  cases a with
  | zero=>simp at h;subst h;simp
  | succ a=>
   have:=ih (a:=a) (by simpa using h)
   cases b <;> simp_all
theorem getD_true {left:List Bool}{a:Nat}(h:left.getD a false=true):left[a]?=some true:=by
 rw [List.getD_eq_getElem?_getD] at h
 cases hv:left[a]? with
 | none=>rw [hv] at h;cases h
 | some v=>rw [hv] at h;simp at h;rw [h]
theorem fre_left {ed:Nat→Nat→Bool}{left:List Bool}{a:Nat}(h:fre ed left a=true):left[a]?=some true:=by
 unfold fre at h
 simp only [Bool.and_eq_true] at h
 exact getD_true h.1
theorem fre_iff {ed:Nat→Nat→Bool}{left:List Bool}{a:Nat} : fre ed left a=true↔left[a]?=some true∧∀ b,left[b]?=some true→ed b a=false:=by
 unfold fre
 simp only [Bool.and_eq_true,List.all_eq_true,List.mem_range,Bool.or_eq_true,Bool.not_eq_true']
 constructor
 · rintro ⟨h1,h2⟩
   refine ⟨getD_true h1,fun b hb=>?_⟩
   rcases h2 b (List.getElem?_eq_some_iff.1 hb).1 with h | h
   · rw [getD_at hb] at h;cases h
   · exact h
 · rintro ⟨h1,h2⟩
   refine ⟨by rw [getD_at h1],fun b hb=>?_⟩
   cases hv:left[b]? with
   | none=>rw [List.getElem?_eq_none_iff] at hv;omega
   | some v=>
    rw [getD_at hv]
    cases v with
    | false=>exact .inl rfl
    | true=>exact .inr (h2 b hv)
inductive Run (ed:Nat→Nat→Bool) (left0:List Bool):List Nat→List Bool→Prop
  | nil:Run ed left0 [] left0
  | snoc {out:List Nat}{left:List Bool}{a:Nat} : Run ed left0 out left→nxt ed left=some a→Run ed left0 (out++[a]) (left.set a false)
theorem nxt_left {ed:Nat→Nat→Bool}{left:List Bool}{a:Nat}(h:nxt ed left=some a):left[a]?=some true:=fre_left (List.find?_some h)
theorem gr_none {ed:Nat→Nat→Bool}{left:List Bool}(h:nxt ed left=none):∀ f,gr ed f left=[]
 | 0=>rfl
 | f+1=>by unfold gr;rw [h]
theorem Run.len {ed:Nat→Nat→Bool}{left0 left:List Bool}{out:List Nat}(h:Run ed left0 out left):left.length=left0.length∧out.length+trues left=trues left0:=by
 induction h with
 | nil=>simp
 | snoc h hn ih=>rw [List.length_set,List.length_append];have:=trues_set (nxt_left hn);simp;omega
theorem Run.gr {ed:Nat→Nat→Bool}{left0 left:List Bool}{out:List Nat}(h:Run ed left0 out left):gr ed (trues left0) left0=out++gr ed (trues left) left:=by
 induction h with
 | nil=>rfl
 | @snoc out left a h hn ih=>
  have h1:=trues_set (nxt_left hn)
  rw [ih,List.append_assoc,← h1]
  congr 1
  simp only [Go.Proofs.YtpmdhkjbhjgoaaaGreatG.gr,hn]
  rfl
theorem Run.done {ed:Nat→Nat→Bool}{left0 left:List Bool}{out:List Nat}(h:Run ed left0 out left) (hn:nxt ed left=none):out=Go.Proofs.YtpmdhkjbhjgoaaaGreatG.gr ed (trues left0) left0:=by
 rw [h.gr,gr_none hn,List.append_nil]
def edR (g:Graph) (ib:List Bool) (b a:Nat):Bool:=edgeF (withinR g ib) (b:Int) (a:Int)
def seqN (g:Graph) (ib:List Bool):List Nat:=gr (edR g ib) (trues (memL g ib)) (memL g ib)
end Go.Proofs.YtpmdhkjbhjgoaaaGreatG


/-
  The reference's Order and Back.
-/


/-
  Kahn's order, plainly: how many are ahead of each; who waits.
-/
namespace Go.Proofs.YtpmdhkjbhjgoaaaGreatG
set_option maxRecDepth 100000
set_option maxHeartbeats 4000000
open Go.RowKit Go.Proofs.YtpmdhkjbhjgoaaaGreatK Go.Proofs.YtpmdhkjbhjgoaaaGreatT Go.Proofs.YtpmdhkjbhjgoaaaGreatL
open Go.Proofs.YtpmdhkjbhjgoaaaGreatQ (lt2)

def edW (w:Graph) (b a:Nat):Bool:=decide ((a:Int) ∈ w.getD b [])
def cnt (w:Graph) (left:List Bool) (c:Nat):Nat:=((List.range w.length).filter fun b=>left.getD b false && edW w b c).length
theorem filt_upd {p:Nat→Bool}{a:Nat} : ∀ {n:Nat},a<n→((List.range n).filter p).length=((List.range n).filter fun b=>p b && b != a).length+if p a then 1 else 0
 | 0,h=>by omega
 | n+1,h=>by
  rw [List.range_succ,List.filter_append,List.filter_append,List.length_append,List.length_append]
  by_cases e:a=n
  · subst e
    have:(List.range a).filter (fun b=>p b && b != a)=(List.range a).filter p:=List.filter_congr (fun b hb=>by have:=List.mem_range.1 hb;simp;intro _;omega)
    rw [this]
    cases hp:p a <;> simp [hp]
  · rw [filt_upd (p:=p) (a:=a) (n:=n) ZO]
    have:(fun b=>p b && b != a) n=p n:=by
     show (p n && n != a)=p n
     rw [show (n != a)=true by simp;omega,Bool.and_true]
    have e2 : [n].filter (fun b=>p b && b != a)=[n].filter p:=by
     rw [List.filter_cons,List.filter_cons]
     rw [show (p n && n != a)=p n from this];rfl
    rw [e2];omega
theorem set_getD {left:List Bool}{a b:Nat} : (left.set a false).getD b false=(left.getD b false && b != a):=by
 rw [List.getD_eq_getElem?_getD,List.getD_eq_getElem?_getD,List.getElem?_set]
 by_cases e:a=b
 · subst e;rw [if_pos rfl];split <;> simp
 · rw [if_neg e,show (b != a)=true by simp;omega,Bool.and_true]
theorem cnt_set {w:Graph}{left:List Bool}(hl:left.length=w.length) {a:Nat}(h:left[a]?=some true) (c:Nat):cnt w left c=cnt w (left.set a false) c+if edW w a c then 1 else 0:=by
 have ha:=(List.getElem?_eq_some_iff.1 h).1
 unfold cnt
 rw [filt_upd (a:=a) ZO]
 rw [getD_at h,Bool.true_and]
 congr 2
 exact List.filter_congr (fun b hb=>by rw [set_getD];cases left.getD b false <;> cases edW w b c <;> simp)
theorem Run.clear {ed:Nat→Nat→Bool}{left0 left:List Bool}{out:List Nat}(h:Run ed left0 out left):∀ c:Nat,left0[c]?=some true→left[c]?=some true∨∀ b:Nat,left[b]?=some true→ed b c=false:=by
 induction h with
 | nil=>exact fun c hc=>.inl hc
 | @snoc out left a h hn ih=>
  have hfa:=fre_iff.1 (List.find?_some hn)
  have hsub:∀ b:Nat,(left.set a false)[b]?=some true→left[b]?=some true:=by
   intro b hb
   rw [List.getElem?_set] at hb
   split at hb
   · split at hb <;> cases hb
   · exact hb
  intro c hc
  by_cases e:c=a
  · subst e;exact .inr (fun b hb=>hfa.2 b (hsub b hb))
  · rcases ih c hc with h1 | h1
    · left;rw [List.getElem?_set,if_neg (fun x=>e x.symm)];exact h1
    · exact .inr (fun b hb=>h1 b (hsub b hb))
end Go.Proofs.YtpmdhkjbhjgoaaaGreatG


/-
  Package cycle: order's closures, drain.
-/


/-
  Package cycle: drain, order.
-/


/-
  Package cycle: order.
-/


/-
  Package cycle: Order, Back; the reference's Back.
-/
