/-
  Part 4 of the proof of BindTells: contracts of functions, and what follows from them; without conditions.
-/
import Derived.Test.YtafiabekcekdbaaGreatBindTells3
import Derived.Test.YtafiabekcekdbaaGreatProg
import Derived.Laws.StructEq
set_option linter.unusedVariables false
set_option linter.unusedSimpArgs false
set_option linter.defProp false
namespace Go.Proofs.YtafiabekcekdbaaGreatO
set_option maxRecDepth 100000
set_option maxHeartbeats 4000000
open Go.RowKit Go.Proofs.YtafiabekcekdbaaGreatK Go.Proofs.YtafiabekcekdbaaGreatT Go.Proofs.YtafiabekcekdbaaGreatL Go.Proofs.YtafiabekcekdbaaGreatV Go.Proofs.YtafiabekcekdbaaGreatG Go.Proofs.YtafiabekcekdbaaGreatW

section
variable {c : Cx} {M : Md c} {d : Nat} {ty : TypeId} {pos : String} {af : Array Edge} {rest : List Oper} {E : Env} {D : List Deferred} {H : List Res} {x y : Operand} {t : TypeId}
theorem oSliceU {k:IntKind}{A:Option Addr}{n cp m s:Nat}{e':TypeId}(hx:E.op x=some (.slice A n cp)) (hy:E.op y=some (.int k (m:Int))) (hm:m≤cp) (ht:elemT c.P t=some (e',s))
 (h:O M rest ((d,.slice A m cp) :: E) D H) (hN:Nat.blt d c.N=true:=by rfl):O M (⟨some d,.slice t x none (some y) none,ty,pos,af,none⟩ :: rest) E D H:=
 oC _ rfl hN (fun a w ha hw=>by
  obtain ⟨h1,inf,h2,h3⟩:=run_elemT ht
  cases A <;> simp [execOp,ha.op hx,ha.op hy,Instr.sliceAt,Instr.slice,run_underlying h1,Instr.sliceBounds,Instr.sliceBound,asIntOf,hm,sizeOf,typeInfo,h2,h3,Addr.add]) h
end
theorem C_take {α:Type}{d:Kd α}{w:World}{A:Option Addr}{xs:List α}(h:d.C w A xs) (i:Nat):d.C w A (xs.take i):=by
 refine ⟨by have:=h.1;rw [List.length_take];omega,fun hn=>?_⟩
 obtain ⟨ad,e,hc⟩:=h.2 (by rw [List.length_take] at hn;omega)
 exact ⟨ad,e,fun j x hx=>hc j x (by rw [List.getElem?_take] at hx;split at hx;exact hx;cases hx)⟩
def rn (s:ByteArray) (p:Nat):Int:=((Utf8.decode s p).1:Int)
theorem nextV_rn {s:ByteArray}{p:Nat}(h:p<s.size):nextV s p=.tuple #[.bool true,.int .i64 (p:Int),.int .i32 (rn s p)]:=by unfold nextV rn;rw [if_pos h]
theorem rn_lo {s:ByteArray}{p:Nat}(h:p<s.size) (ha:byteAt s p<128):rn s p=byteAt s p:=by
 have h1:=nextV_T h ha
 rw [nextV_rn h] at h1
 simpa using h1
theorem rn_hi {s:ByteArray}{p:Nat}(h:p<s.size) (ha:¬ byteAt s p<128):128≤rn s p:=by
 rw [byteAt_eq h] at ha
 have hg:(s.get! (p+0)).toNat=(s[p]'h).toNat:=by
  show (s.data[p]!).toNat=_
  rw [getElem!_pos s.data p h];rfl
 have h0:128≤(s[p]'h).toNat:=by omega
 have key:128≤(Utf8.decode s p).1:=by
  unfold Utf8.decode Utf8.runeError
  simp only [hg]
  rw [if_neg ZO]
  repeat' split
  all_goals first | (dsimp only;omega) | (rename_i hc;simp only [Bool.and_eq_true,decide_eq_true_eq] at hc;dsimp only;omega)
 unfold rn;omega
def mayR (c:Int) (i:Int):Bool:=(decide (97≤c) && decide (c≤122)) || decide (c=95) || decide (c=46) || ((decide (48≤c) && decide (c≤57)) && decide (0<i))
theorem bad_rn {s:ByteArray}{i:Nat}(h:i<s.size):badC s i=!mayR (rn s i) (i:Int):=by
 unfold badC mayF mayR
 by_cases ha:byteAt s i<128
 · rw [rn_lo h ha]
   congr 1
   by_cases h0:i=0
   · subst h0;simp
   · simp [h0,show 0<i by omega]
 · have:=rn_hi h ha
   rw [decide_eq_false (show ¬ byteAt s i≤122 by omega),decide_eq_false (show ¬ byteAt s i=95 by omega),decide_eq_false (show ¬ byteAt s i=46 by omega),decide_eq_false (show ¬ byteAt s i≤57 by omega),decide_eq_false (show ¬ rn s i≤122 by omega),decide_eq_false (show ¬ rn s i=95 by omega),decide_eq_false (show ¬ rn s i=46 by omega),decide_eq_false (show ¬ rn s i≤57 by omega)]
   simp
theorem ok_lo {s:ByteArray}{i:Nat}(h:badC s i=false):byteAt s i<128:=by
 unfold badC mayF at h
 simp at h
 omega
theorem name_Check {B:Base}{w:World}(hS:St B [] w) (s:ByteArray) :
 CW 63 #[.string s] w (Ret B (fun _:Unit=>True) (fun _=>.int .i64 (nameF4 s)) (fun _=>[])):=by
 refine ZX Tryz.func63 hS ?_
 refine Zh (Zi (Zp J (Zn (Za (Zh (Zk (Zh (Zi (Zo J (oLenStr J J (Z1 J J (Zp J (Zn (Za (wC (fun h5=>?_) (fun h5=>?_))))))))))))))))
 refine Zh (Zi (Zzh ?_))
 exact ⟨(),trivial,by unfold nameF4;rw [if_pos ZO];rfl,Lh⟩
 have hs24:¬ 24<s.size:=by omega
 refine Zh (Zi (Zo J (oSEq J J (Zp J (Zn (Za (wC (fun h9=>?_) (fun h9=>?_))))))))
 refine Zh (Zi (Zzh ?_))
 exact ⟨(),trivial,by unfold nameF4;rw [if_neg hs24,if_pos (size_zero.1 h9)];rfl,Lh⟩
 have hz:¬ s.size=0:=fun h=>h9 (size_zero.2 h)
 refine Zj (Zd (Za (Zh (Zh (Zi (Zo J (oRangeStr J J (fun b13=>?_))))))))
 refine Zn (Za (Zk (wLoop (ι:=Nat) (fun i=>[(0,.string s),(13,.pointer (some ⟨b13,0,none⟩))]) (fun i=>[ob b13 (.stringIter s i)]) (fun i=>i≤s.size∧∀ j,j<i→badC s j=false) (fun i=>s.size-i) 0 ?_ cv (Leads.has ZQ) ?_)))
 exact ⟨Nat.zero_le _,fun j hj=>by omega⟩
 rintro i ⟨hi,hs⟩
 try dsimp only
 refine Zh (Zi (oNextStr J ZP ?_))
 refine oExtN J (Zn (Za (Zh (wC (fun h15=>?_) (fun h15=>?_)))))
 have hil:i<s.size:=h15
 rw [nextV_rn hil]
 refine Zj (Za (Zk (Zh (Zi (oExt J ZP ?_)))))
 refine oExt J ZP ?_
 refine Zp J (Zp J (Zn (Za (Zk (Zh (Zh (Zi (Zo J (Z2 J J (Zo J (ZS (ZT 21) (fun h21=>?_) (fun h21=>?_))))))))))))
 refine Zq J J (Zo J (Zq J J (oLeq J J (Zt J J (Zp J (Zn (Za (wC (fun h18=>?_) (fun h18=>?_)))))))))
 refine Zj (Za (ZY h18 ?_))
 refine Zj (Zd (Zd (Za ?_)))
 have hno:badC s i=false:=by rw [bad_rn hil];unfold mayR;simp_all <;> omega
 rw [nextP_T hil (ok_lo hno)]
 exact ⟨rfl,i+1,⟨by omega,fun j hj=>by
 by_cases e:j=i
 · subst e;exact hno
 · exact hs j ZO⟩,by omega,cv,Lh⟩
 refine Zh (Zi (Zo J (Zy J J (Zp J (Zn (Za (wC (fun h18=>?_) (fun h18=>?_))))))))
 refine Zj (Za (ZY h18 ?_))
 refine Zj (Zd (Zd (Za ?_)))
 have hno:badC s i=false:=by rw [bad_rn hil];unfold mayR;simp_all <;> omega
 rw [nextP_T hil (ok_lo hno)]
 exact ⟨rfl,i+1,⟨by omega,fun j hj=>by
 by_cases e:j=i
 · subst e;exact hno
 · exact hs j ZO⟩,by omega,cv,Lh⟩
 refine Zh (Zi (Zo J (Zy J J (Zp J (Zn (Za (wC (fun h18=>?_) (fun h18=>?_))))))))
 refine Zj (Za (ZY h18 ?_))
 refine Zj (Zd (Zd (Za ?_)))
 have hno:badC s i=false:=by rw [bad_rn hil];unfold mayR;simp_all <;> omega
 rw [nextP_T hil (ok_lo hno)]
 exact ⟨rfl,i+1,⟨by omega,fun j hj=>by
 by_cases e:j=i
 · subst e;exact hno
 · exact hs j ZO⟩,by omega,cv,Lh⟩
 refine Zi (Zo J (Z2 J J (Zo J (ZS (ZT 31) (fun h31=>?_) (fun h31=>?_)))))
 refine Zq J J (Zo J (Zq J J (oLeq J J (Zt J J (Zo J (ZS (ZT 35) (fun h35=>?_) (fun h35=>?_)))))))
 refine Zq J J (Zo J (Zq J J (Z1 J J (Zt J J (Zp J (Zn (Za (wC (fun h18=>?_) (fun h18=>?_)))))))))
 refine Zj (Zd (Zd (Za ?_)))
 have hno:badC s i=false:=by rw [bad_rn hil];unfold mayR;simp_all <;> omega
 rw [nextP_T hil (ok_lo hno)]
 exact ⟨rfl,i+1,⟨by omega,fun j hj=>by
 by_cases e:j=i
 · subst e;exact hno
 · exact hs j ZO⟩,by omega,cv,Lh⟩
 refine Zh (Zzx ?_)
 have hyes:badC s i=true:=by rw [bad_rn hil];unfold mayR;simp_all <;> omega
 exact ⟨(),trivial,by unfold nameF4;rw [if_neg hs24,if_neg hz,if_pos (any_T hil hyes)];rfl,Lh⟩
 refine Zr J J J J (Zr J J J J (Zu J J (Zp J (Zn (Za (ZY h18 ?_))))))
 refine Zh (Zzx ?_)
 have hyes:badC s i=true:=by rw [bad_rn hil];unfold mayR;simp_all <;> omega
 exact ⟨(),trivial,by unfold nameF4;rw [if_neg hs24,if_neg hz,if_pos (any_T hil hyes)];rfl,Lh⟩
 refine Zr J J J J (Zr J J J J (Zu J J (Zo J (Zr J J J J (Zr J J J J (Zu J J (Zp J (Zn (Za (ZY h18 ?_))))))))))
 refine Zh (Zzx ?_)
 have hyes:badC s i=true:=by rw [bad_rn hil];unfold mayR;simp_all <;> omega
 exact ⟨(),trivial,by unfold nameF4;rw [if_neg hs24,if_neg hz,if_pos (any_T hil hyes)];rfl,Lh⟩
 refine Zr J J J J (Zr J J J J (Zu J J (Zp J (Zn (Za (wCondF J (Zh (Zi (Zo J (Zy J J (Zp J (Zn (Za (wC (fun h18=>?_) (fun h18=>?_)))))))))))))))
 refine Zj (Za (ZY h18 ?_))
 refine Zj (Zd (Zd (Za ?_)))
 have hno:badC s i=false:=by rw [bad_rn hil];unfold mayR;simp_all <;> omega
 rw [nextP_T hil (ok_lo hno)]
 exact ⟨rfl,i+1,⟨by omega,fun j hj=>by
 by_cases e:j=i
 · subst e;exact hno
 · exact hs j ZO⟩,by omega,cv,Lh⟩
 refine Zh (Zi (Zo J (Zy J J (Zp J (Zn (Za (wC (fun h18=>?_) (fun h18=>?_))))))))
 refine Zj (Za (ZY h18 ?_))
 refine Zj (Zd (Zd (Za ?_)))
 have hno:badC s i=false:=by rw [bad_rn hil];unfold mayR;simp_all <;> omega
 rw [nextP_T hil (ok_lo hno)]
 exact ⟨rfl,i+1,⟨by omega,fun j hj=>by
 by_cases e:j=i
 · subst e;exact hno
 · exact hs j ZO⟩,by omega,cv,Lh⟩
 refine Zi (Zo J (Z2 J J (Zo J (ZS (ZT 31) (fun h31=>?_) (fun h31=>?_)))))
 refine Zq J J (Zo J (Zq J J (oLeq J J (Zt J J (Zo J (ZS (ZT 35) (fun h35=>?_) (fun h35=>?_)))))))
 refine Zq J J (Zo J (Zq J J (Z1 J J (Zt J J (Zp J (Zn (Za (wC (fun h18=>?_) (fun h18=>?_)))))))))
 refine Zj (Zd (Zd (Za ?_)))
 have hno:badC s i=false:=by rw [bad_rn hil];unfold mayR;simp_all <;> omega
 rw [nextP_T hil (ok_lo hno)]
 exact ⟨rfl,i+1,⟨by omega,fun j hj=>by
 by_cases e:j=i
 · subst e;exact hno
 · exact hs j ZO⟩,by omega,cv,Lh⟩
 refine Zh (Zzx ?_)
 have hyes:badC s i=true:=by rw [bad_rn hil];unfold mayR;simp_all <;> omega
 exact ⟨(),trivial,by unfold nameF4;rw [if_neg hs24,if_neg hz,if_pos (any_T hil hyes)];rfl,Lh⟩
 refine Zr J J J J (Zr J J J J (Zu J J (Zp J (Zn (Za (ZY h18 ?_))))))
 refine Zh (Zzx ?_)
 have hyes:badC s i=true:=by rw [bad_rn hil];unfold mayR;simp_all <;> omega
 exact ⟨(),trivial,by unfold nameF4;rw [if_neg hs24,if_neg hz,if_pos (any_T hil hyes)];rfl,Lh⟩
 refine Zr J J J J (Zr J J J J (Zu J J (Zo J (Zr J J J J (Zr J J J J (Zu J J (Zp J (Zn (Za (ZY h18 ?_))))))))))
 refine Zh (Zzx ?_)
 have hyes:badC s i=true:=by rw [bad_rn hil];unfold mayR;simp_all <;> omega
 exact ⟨(),trivial,by unfold nameF4;rw [if_neg hs24,if_neg hz,if_pos (any_T hil hyes)];rfl,Lh⟩
 refine Zm (Zzg ?_)
 obtain rfl:i=s.size:=by omega
 exact ⟨(),trivial,by unfold nameF4;rw [if_neg hs24,if_neg hz,if_neg (by rw [any_F hs];simp)];rfl,Lh⟩
theorem indexFunc_sym1 {B:Base}{w:World}{R1:Res}(hS:St B [R1] w) (l:List ApiSymbol) (A:Option Addr) (n cp:Nat) (hn:n=l.length) (hC:kApiSymbol.C B.e A l) (gf:Nat) (lb:Array Value) (p:ApiSymbol→Bool) (hg:goodF Tryz.prog gf=true)
 (hh:∀ B' w (x:ApiSymbol),Grow B.e B'.e→x ∈ l→St B' [R1] w→CW gf (#[]++[Value.agg #[.string x.fName,.bool x.fLocal,.int .i64 x.fSort,.int .i64 x.fKind,.int .i64 x.fDef]].toArray++lb) w (Ret B' (fun _:Unit=>True) (fun _=>.bool (p x)) (fun _=>[R1]))) :
 CW 35 #[.slice A n cp,.func (.func gf) #[] lb] w (Ret B (fun _:Unit=>True) (fun _=>.int .i64 (idxI p l)) (fun _=>[R1])):=by
 subst hn
 have hl:=hC.1
 refine ZX Tryz.func35 hS ?_
 refine Zh (Zi (Zp J (Zn (Za (Zh (Zh (Zi (Zo J (Zv J J (Zo J (Zn (Za (Zk (wLoop (ι:=Nat) (fun i=>[(0,.slice A l.length cp),(1,.func (.func gf) #[] lb),(7,.int .i64 (l.length:Int)),(8,.int .i64 (i:Int))]) (fun i=>[R1]) (fun i=>i≤l.length∧∀ y ∈ l.take i,p y=false) (fun i=>l.length-i) 0 ?_ cv (Leads.has ZQ) ?_))))))))))))))
 exact ⟨Nat.zero_le _,by simp⟩
 rintro i ⟨hi,hs⟩
 try dsimp only
 refine Zh (Zi (Zx J J (Zn (Za (Zh (wC (fun h9=>?_) (fun h9=>?_)))))))
 obtain ⟨x,hx⟩:∃ x,l[i]?=some x:=⟨_,List.getElem?_eq_getElem ZO⟩
 obtain ⟨e1,cs1,hE⟩:=hC.elm hx
 obtain rfl:=kApiSymbol_open hE.K
 refine Zj (Za (Zh (Zk (Zh (Zi (Zo J (Zp J (Zn (Za (Zh (Zi (Zo J (Zo J (Zo J (oIdxE J J (hE) ZO J J ?_)))))))))))))))
 have hc14:=(hE).cell
 refine Zlx hc14 ?_
 (refine oCallV rfl rfl rfl hg (fun w hS=>frame hS ZQ (fun B' hB hS'=>hh B' w x hB (List.mem_of_getElem? hx) hS')) ?_;rintro ⟨⟩ -)
 refine Zn (Za (wC (fun h16=>?_) (fun h16=>?_)))
 refine Zh (Zzz ?_)
 exact ⟨(),trivial,by rw [idxI_stop hs hx (by simpa using h16)];rfl,Lh⟩
 refine Zj (Zzi ?_)
 refine Zo J (Zn (Za ?_))
 exact ⟨rfl,i+1,⟨by omega,take_not hs hx (by simpa using h16)⟩,by omega,cv,Lh⟩
 refine Zm (Zzg ?_)
 obtain rfl:i=l.length:=by omega
 rw [List.take_length] at hs
 exact ⟨(),trivial,by rw [idxI_none hs];rfl,Lh⟩
theorem indexFunc_sym2 {B:Base}{w:World}{R1 R2:Res}(hS:St B [R1,R2] w) (l:List ApiSymbol) (A:Option Addr) (n cp:Nat) (hn:n=l.length) (hC:kApiSymbol.C B.e A l) (gf:Nat) (lb:Array Value) (p:ApiSymbol→Bool) (hg:goodF Tryz.prog gf=true)
 (hh:∀ B' w (x:ApiSymbol),Grow B.e B'.e→x ∈ l→St B' [R1,R2] w→CW gf (#[]++[Value.agg #[.string x.fName,.bool x.fLocal,.int .i64 x.fSort,.int .i64 x.fKind,.int .i64 x.fDef]].toArray++lb) w (Ret B' (fun _:Unit=>True) (fun _=>.bool (p x)) (fun _=>[R1,R2]))) :
 CW 35 #[.slice A n cp,.func (.func gf) #[] lb] w (Ret B (fun _:Unit=>True) (fun _=>.int .i64 (idxI p l)) (fun _=>[R1,R2])):=by
 subst hn
 have hl:=hC.1
 refine ZX Tryz.func35 hS ?_
 refine Zh (Zi (Zp J (Zn (Za (Zh (Zh (Zi (Zo J (Zv J J (Zo J (Zn (Za (Zk (wLoop (ι:=Nat) (fun i=>[(0,.slice A l.length cp),(1,.func (.func gf) #[] lb),(7,.int .i64 (l.length:Int)),(8,.int .i64 (i:Int))]) (fun i=>[R1,R2]) (fun i=>i≤l.length∧∀ y ∈ l.take i,p y=false) (fun i=>l.length-i) 0 ?_ cv (Leads.has ZQ) ?_))))))))))))))
 exact ⟨Nat.zero_le _,by simp⟩
 rintro i ⟨hi,hs⟩
 try dsimp only
 refine Zh (Zi (Zx J J (Zn (Za (Zh (wC (fun h9=>?_) (fun h9=>?_)))))))
 obtain ⟨x,hx⟩:∃ x,l[i]?=some x:=⟨_,List.getElem?_eq_getElem ZO⟩
 obtain ⟨e1,cs1,hE⟩:=hC.elm hx
 obtain rfl:=kApiSymbol_open hE.K
 refine Zj (Za (Zh (Zk (Zh (Zi (Zo J (Zp J (Zn (Za (Zh (Zi (Zo J (Zo J (Zo J (oIdxE J J (hE) ZO J J ?_)))))))))))))))
 have hc14:=(hE).cell
 refine Zlx hc14 ?_
 (refine oCallV rfl rfl rfl hg (fun w hS=>frame hS ZQ (fun B' hB hS'=>hh B' w x hB (List.mem_of_getElem? hx) hS')) ?_;rintro ⟨⟩ -)
 refine Zn (Za (wC (fun h16=>?_) (fun h16=>?_)))
 refine Zh (Zzz ?_)
 exact ⟨(),trivial,by rw [idxI_stop hs hx (by simpa using h16)];rfl,Lh⟩
 refine Zj (Zzi ?_)
 refine Zo J (Zn (Za ?_))
 exact ⟨rfl,i+1,⟨by omega,take_not hs hx (by simpa using h16)⟩,by omega,cv,Lh⟩
 refine Zm (Zzg ?_)
 obtain rfl:i=l.length:=by omega
 rw [List.take_length] at hs
 exact ⟨(),trivial,by rw [idxI_none hs];rfl,Lh⟩
theorem containsFunc_sym {B:Base}{w:World}{R1:Res}(hS:St B [R1] w) (l:List ApiSymbol) (A:Option Addr) (n cp:Nat) (hn:n=l.length) (hC:kApiSymbol.C B.e A l) (gf:Nat) (lb:Array Value) (p:ApiSymbol→Bool) (hg:goodF Tryz.prog gf=true)
 (hh:∀ B' w (x:ApiSymbol),Grow B.e B'.e→x ∈ l→St B' [R1] w→CW gf (#[]++[Value.agg #[.string x.fName,.bool x.fLocal,.int .i64 x.fSort,.int .i64 x.fKind,.int .i64 x.fDef]].toArray++lb) w (Ret B' (fun _:Unit=>True) (fun _=>.bool (p x)) (fun _=>[R1]))) :
 CW 66 #[.slice A n cp,.func (.func gf) #[] lb] w (Ret B (fun _:Unit=>True) (fun _=>.bool (l.any p)) (fun _=>[R1])):=by
 refine ZX Tryz.func66 hS ?_
 refine Zh (Zi (Zp J (Zn (Zzv ?_))))
 (refine ZC0 rfl ZK (fun w hS=>frame hS ZQ (fun B' hB hS'=>indexFunc_sym1 hS' l A n cp hn (Kd.C_grow hB hC) gf lb p hg (fun B2 w2 x hB2 hx hS2=>hh B2 w2 x (hB.trans hB2) hx hS2))) ?_;rintro ⟨⟩ -)
 refine Z2 J J (Zza ?_)
 exact ⟨(),trivial,by show Value.bool (decide (0≤idxI p l))=_;congr 1;rw [Bool.eq_iff_iff,decide_eq_true_eq];exact idxI_iff,Lh⟩
theorem obj_Items {B:Base}{w:World}(hS:St B [] w) (o:ApiObject) (oc:List Value) (ho:kApiObject.K B.e o oc) (hg:GoodO o) :
 CW 12 #[.agg oc.toArray] w (Ret B (fun _:Unit=>True) (fun _=>.int .i64 (itemsF o)) (fun _=>[])):=by
 obtain ⟨A0,c0,A1,c1,A2,c2,rfl,m0,q0,m1,q1,m2,q2⟩:=kApiObject_open ho
 have hn1:=hg.funcs
 have hn2:=hg.datas
 refine ZX Tryz.func12 hS ?_
 refine Zh (Zi (oBox J ZP (fun b1=>?_)))
 refine Zp J (Zn (Za (Zh (Zi (Zz (n:=1) (m:=1) J J J (Zld ?_))))))
 refine Zv J J (Zz (n:=2) (m:=2) J J J (Zld ?_))
 refine Zv J J ?_
 first | refine oAdd rfl rfl ZO ?_ | refine oAddW rfl rfl ?_
 refine Zp J (Zzk ?_)
 exact ⟨(),trivial,rfl,Lh⟩
theorem obj_defines {B:Base}{w:World}(hS:St B [] w) (o:ApiObject) (oc:List Value) (ho:kApiObject.K B.e o oc) (hg:GoodO o) (x:ApiSymbol) (xc:List Value) (hx:kApiSymbol.K B.e x xc) (item:Int) :
 CW 37 #[.agg oc.toArray,.agg xc.toArray,.int .i64 item] w (Ret B (fun _:Unit=>True) (fun _=>.bool (definesF o item x)) (fun _=>[])):=by
 obtain ⟨A0,c0,A1,c1,A2,c2,rfl,m0,q0,m1,q1,m2,q2⟩:=kApiObject_open ho
 obtain rfl:=kApiSymbol_open hx
 have hn1:=hg.funcs
 have hn2:=hg.datas
 have hit:itemsF o=(o.fFuncs.length:Int)+(o.fDatas.length:Int):=rfl
 refine ZX Tryz.func37 hS ?_
 refine Zh (Zi (oBox J ZP (fun b3=>?_)))
 refine oBox J ZP (fun b4=>?_)
 refine Zp J (Zn (Za (Zh (Zk (Zh (Zh (Zi (Zo J (Zx J J (Zp J (Zn (Za (wC (fun h7=>?_) (fun h7=>?_))))))))))))))
 refine Zj (Za (ZY h7 ?_))
 refine Zh (Zi (Zzh ?_))
 exact ⟨(),trivial,by unfold definesF;rw [if_pos (by first | omega | (rcases Int.lt_or_le item 0 with h | h;exact .inl h;right;first | omega | simp_all))];rfl,Lh⟩
 refine Zi (Zo J (Zla ?_))
 (refine ZC0 rfl ZK (fun w hS=>frame hS ZQ (fun B' hB hS'=>obj_Items hS' o _ (kApiObject.K_grow hB ho) hg)) ?_;rintro ⟨⟩ -)
 refine Z2 J J (Zp J (Zn (Za (wC (fun h7=>?_) (fun h7=>?_)))))
 refine Zh (Zi (Zzh ?_))
 exact ⟨(),trivial,by unfold definesF;rw [if_pos (by first | omega | (rcases Int.lt_or_le item 0 with h | h;exact .inl h;right;first | omega | simp_all))];rfl,Lh⟩
 refine Zh (Zi (Zo J (Zz (n:=1) (m:=1) J J J (Zld ?_))))
 refine Zv J J (Zx J J (Zp J (Zn (Za (wC (fun h14=>?_) (fun h14=>?_))))))
 refine Zh (Zi (Zz (n:=2) (m:=2) J J J (Zld ?_)))
 refine Zy J J (Zo J (ZS (ZT 23) (fun h23=>?_) (fun h23=>?_)))
 refine Zq J J (Zz (n:=4) (m:=4) J J J (Zzf ?_))
 refine Zq J J (Zo J (Zq J J (Zy J J (Zt J J (Zzh ?_)))))
 exact ⟨(),trivial,by unfold definesF;rw [if_neg ZO,if_pos ZO];simp [resVal,h23],Lh⟩
 refine Zr J J J J (Zr J J J J (Zr J J J J (Zr J J J J (Zu J J (Zzh ?_)))))
 exact ⟨(),trivial,by unfold definesF;rw [if_neg ZO,if_pos ZO];simp [resVal,h23],Lh⟩
 refine Zj (Zd (Za (Zh (Zi (Zz (n:=2) (m:=2) J J J (Zld ?_))))))
 refine Zy J J (Zo J (ZS (ZT 32) (fun h32=>?_) (fun h32=>?_)))
 refine Zq J J (Zz (n:=4) (m:=4) J J J (Zzf ?_))
 refine Zq J J (Zo J (Zq J J (Zz (n:=1) (m:=1) J J J (Zzf ?_))))
 refine Zq J J (Zv J J (Zq J J (oSub J J ZO ?_)))
 refine Zq J J (Zy J J (Zt J J (Zza ?_)))
 exact ⟨(),trivial,by unfold definesF;rw [if_neg ZO,if_neg ZO];simp [resVal,h32],Lh⟩
 refine Zr J J J J (Zr J J J J (Zr J J J J (Zr J J J J (Zr J J J J (Zr J J J J (Zzp ?_))))))
 exact ⟨(),trivial,by unfold definesF;rw [if_neg ZO,if_neg ZO];simp [resVal,h32],Lh⟩
theorem obj_Definer1 {B:Base}{w:World}(o:ApiObject) (A0:Option Addr) (c0:Nat) (A1:Option Addr) (c1:Nat) (A2:Option Addr) (c2 b2 b3:Nat) (item:Int) (hS:St B [blk b2 26 [.slice A0 o.fSymbols.length c0,.slice A1 o.fFuncs.length c1,.slice A2 o.fDatas.length c2],blk b3 3 [.int .i64 item]] w) (ho:kApiObject.K B.e o [.slice A0 o.fSymbols.length c0,.slice A1 o.fFuncs.length c1,.slice A2 o.fDatas.length c2]) (hg:GoodO o) (x:ApiSymbol) (hx:kApiSymbol.K B.e x [.string x.fName,.bool x.fLocal,.int .i64 x.fSort,.int .i64 x.fKind,.int .i64 x.fDef]) :
 CW 36 #[.agg #[.string x.fName,.bool x.fLocal,.int .i64 x.fSort,.int .i64 x.fKind,.int .i64 x.fDef],.pointer (some ⟨b2,0,none⟩),.pointer (some ⟨b3,0,none⟩)] w (Ret B (fun _:Unit=>True) (fun _=>.bool (definesF o item x)) (fun _=>[blk b2 26 [.slice A0 o.fSymbols.length c0,.slice A1 o.fFuncs.length c1,.slice A2 o.fDatas.length c2],blk b3 3 [.int .i64 item]])):=by
 refine ZX Tryz.func36 hS ?_
 refine Zh (Zi (oBox J ZP (fun b3=>?_)))
 refine Zp J (Zn (Za (Zzs ?_)))
 refine Zla ?_
 refine Zld ?_
 (refine ZC0 rfl ZK (fun w hS=>frame hS ZQ (fun B' hB hS'=>obj_defines hS' o _ (kApiObject.K_grow hB ho) hg x _ (kApiSymbol.K_grow hB hx) item)) ?_;rintro ⟨⟩ -)
 refine Zp J (Zzk ?_)
 exact ⟨(),trivial,rfl,Lh⟩
theorem obj_Definer {B:Base}{w:World}(hS:St B [] w) (o:ApiObject) (oc:List Value) (ho:kApiObject.K B.e o oc) (hg:GoodO o) (item:Int) :
 CW 14 #[.agg oc.toArray,.int .i64 item] w (Ret B (fun _:Unit=>True) (fun _=>.int .i64 (definerF o item)) (fun _=>[])):=by
 obtain ⟨A0,c0,A1,c1,A2,c2,rfl,m0,q0,m1,q1,m2,q2⟩:=kApiObject_open ho
 refine ZX Tryz.func14 hS ?_
 refine Zh (Zi (oBox J ZP (fun b2=>?_)))
 refine oBox J ZP (fun b3=>?_)
 refine Zp J (Zn (Za (Zh (Zi (Zz (n:=0) (m:=0) J J J (Zld ?_))))))
 refine oMakeFunc J ?_
 (refine ZC0 rfl ZK (fun w hS=>frame hS ZQ (fun B' hB hS'=>indexFunc_sym2 hS' o.fSymbols A0 o.fSymbols.length c0 rfl (Kd.C_grow hB q0) 36 #[.pointer (some ⟨b2,0,none⟩),.pointer (some ⟨b3,0,none⟩)] (definesF o item) ZK (fun B2 w2 x hB2 hx2 hS2=>obj_Definer1 o A0 c0 A1 c1 A2 c2 b2 b3 item hS2 (kApiObject.K_grow (hB.trans hB2) ho) hg x (kApiSymbol_mk _ x)))) ?_;rintro ⟨⟩ -)
 refine Zp J (Zzk ?_)
 exact ⟨(),trivial,rfl,Lh⟩
theorem obj_kind {B:Base}{w:World}(hS:St B [] w) (x:ApiSymbol) (xc:List Value) (hx:kApiSymbol.K B.e x xc) :
 CW 65 #[.agg xc.toArray] w (Ret B (fun _:Unit=>True) (fun _=>.bool (kindB x)) (fun _=>[])):=by
 obtain rfl:=kApiSymbol_open hx
 refine ZX Tryz.func65 hS ?_
 refine Zh (Zi (oBox J ZP (fun b1=>?_)))
 refine Zp J (Zn (Za (Zh (Zh (Zi (Zz (n:=2) (m:=2) J J J (Zld ?_)))))))
 refine Zn (Za (Zk (Zh (Zi (Zy J J (Zp J (Zn (Za (wC (fun h5=>?_) (fun h5=>?_))))))))))
 refine Zh (Zi (Zz (n:=3) (m:=3) J J J (Zld ?_)))
 (refine ZC0 rfl ZK (fun w hS=>frame hS ZQ (fun B' hB hS'=>sig_Is hS' x.fKind)) ?_;rintro ⟨⟩ -)
 refine Zno ?_
 refine Zp J (Zn (Za (Zl (Zf (Zc (Zw (fi1 J ?_)))))))
 exact ⟨(),trivial,by unfold kindB;rw [show x.fSort=1 from h5];simp [resVal],Lh⟩
 refine Zh (Zi (Zy J J (Zp J (Zn (Za (wC (fun h11=>?_) (fun h11=>?_)))))))
 refine Zh (Zi (Zz (n:=3) (m:=3) J J J (Zld ?_)))
 (refine ZC0 rfl ZK (fun w hS=>frame hS ZQ (fun B' hB hS'=>sig_Text hS' x.fKind)) ?_;rintro ⟨⟩ -)
 refine oSEq J J (Zzh ?_)
 exact ⟨(),trivial,by unfold kindB;rw [show x.fSort=2 from h11];simp [resVal];exact Iff.rfl,Lh⟩
 refine Zj (Zd (Zzy ?_))
 exact ⟨(),trivial,by unfold kindB;simp [resVal,show ¬ x.fSort=1 from h5,show ¬ x.fSort=2 from h11],Lh⟩
theorem obj_named {B:Base}{w:World}(x:ApiSymbol) (b5:Nat) (hS:St B [blk b5 37 [.string x.fName,.bool x.fLocal,.int .i64 x.fSort,.int .i64 x.fKind,.int .i64 x.fDef]] w) (y:ApiSymbol) :
 CW 61 #[.agg #[.string y.fName,.bool y.fLocal,.int .i64 y.fSort,.int .i64 y.fKind,.int .i64 y.fDef],.pointer (some ⟨b5,0,none⟩)] w (Ret B (fun _:Unit=>True) (fun _=>.bool (nameP x y)) (fun _=>[blk b5 37 [.string x.fName,.bool x.fLocal,.int .i64 x.fSort,.int .i64 x.fKind,.int .i64 x.fDef]])):=by
 refine ZX Tryz.func61 hS ?_
 refine Zh (Zi (oBox J ZP (fun b2=>?_)))
 refine Zp J (Zn (Za (Zh (Zi (Zz (n:=0) (m:=0) J J J (Zld ?_))))))
 refine Zz (n:=0) (m:=0) J J J (Zld ?_)
 refine oSEq J J (Zza ?_)
 exact ⟨(),trivial,rfl,Lh⟩
def whenF (is:Bool) (e:Int):Int:=if is=true then e else 0
theorem obj_when {B:Base}{w:World}(hS:St B [] w) (is:Bool) (e:Int) :
 CW 64 #[.bool is,.int .i64 e] w (Ret B (fun _:Unit=>True) (fun _=>.int .i64 (whenF is e)) (fun _=>[])):=by
 refine ZX Tryz.func64 hS ?_
 refine Zh (Zi (Zp J (Zn (Za (Zh (Zh (Zi (Zo J (Zn (Za (wC (fun h5=>?_) (fun h5=>?_))))))))))))
 refine Zh (Zi (Zo J (Zzc ?_)))
 exact ⟨(),trivial,by unfold whenF;rw [if_pos h5];rfl,Lh⟩
 refine Zj (Zzy ?_)
 exact ⟨(),trivial,by unfold whenF;rw [if_neg (by rw [h5];simp)];rfl,Lh⟩
theorem fst_drop {l:List Int}{i:Nat}{x:Int}(h:l[i]?=some x):fstE (l.drop i)=if x≠0 then x else fstE (l.drop (i+1)):=by
 obtain ⟨hi,rfl⟩:=List.getElem?_eq_some_iff.1 h
 rw [← List.getElem_cons_drop (h:=hi)];rfl
theorem obj_first {B:Base}{w:World}(hS:St B [] w) (l:List Int) (A:Option Addr) (n cp:Nat) (hn:n=l.length) (hC:(Kd.int .i64).C B.e A l) :
 CW 62 #[.slice A n cp] w (Ret B (fun _:Unit=>True) (fun _=>.int .i64 (fstE l)) (fun _=>[])):=by
 subst hn
 have hl:=hC.1
 refine ZX Tryz.func62 hS ?_
 refine Zh (Zi (Zp J (Zn (Za (Zh (Zh (Zi (Zo J (Zv J J (Zo J (Zn (Za (Zk (wLoop (ι:=Nat) (fun i=>[(5,.slice A l.length cp),(6,.int .i64 (l.length:Int)),(7,.int .i64 (i:Int))]) (fun i=>[]) (fun i=>i≤l.length∧fstE (l.drop i)=fstE l) (fun i=>l.length-i) 0 ?_ cv (Leads.has ZQ) ?_))))))))))))))
 exact ⟨Nat.zero_le _,rfl⟩
 rintro i ⟨hi,hs⟩
 try dsimp only
 refine Zh (Zi (Zx J J (Zn (Za (Zh (wC (fun h8=>?_) (fun h8=>?_)))))))
 obtain ⟨x,hx⟩:∃ x,l[i]?=some x:=⟨_,List.getElem?_eq_getElem ZO⟩
 obtain ⟨e1,cs1,hE⟩:=hC.elm hx
 obtain rfl:=(show cs1=[Value.int .i64 x] from hE.K)
 refine Zj (Za (Zh (Zk (Zh (Zi (oIdxE J J (hE) ZO J J ?_))))))
 have hc9:=(hE).cell
 refine Zlx hc9 ?_
 refine Zp J (Zn (Za (Zh (Zi (Zo J (Z0 J J (Zn (Za (wC (fun h12=>?_) (fun h12=>?_))))))))))
 refine Zh (Zzz ?_)
 exact ⟨(),trivial,by rw [← hs,fst_drop hx,if_pos (by first | exact h12 | simpa using h12)];rfl,Lh⟩
 refine Zj (Zzi ?_)
 refine Zo J (Zn (Za ?_))
 exact ⟨rfl,i+1,⟨by omega,by rw [← hs,fst_drop hx,if_neg (by first | exact h12 | simpa using h12)]⟩,by omega,cv,Lh⟩
 refine Zm (Zzg ?_)
 obtain rfl:i=l.length:=by omega
 exact ⟨(),trivial,by rw [← hs,List.drop_length];rfl,Lh⟩
theorem when_fst {c:Bool}{e:Int}{l:List Int}(h:e≠0):fstE (whenF c e :: l)=if c=true then e else fstE l:=by
 cases c with
 | false=>rfl
 | true=>show (if e≠0 then e else fstE l)=e;rw [if_pos h]
theorem sym_fir {o:ApiObject}{i:Nat}{x:ApiSymbol} : fstE [nameF4 x.fName,whenF (kindB x) 8,whenF ((o.fSymbols.take i).any (nameP x)) 12,whenF (decide (x.fDef≠-1) && (decide (x.fDef≠(aheadN x (o.fSymbols.take i):Int)) || decide ((mostN o x:Int)≤(aheadN x (o.fSymbols.take i):Int)))) 9,whenF (x.fLocal && decide (x.fDef = -1)) 13]=symX o i x:=by
 have h4:(decide (x.fDef≠-1) && (decide (x.fDef≠(aheadN x (o.fSymbols.take i):Int)) || decide ((mostN o x:Int)≤(aheadN x (o.fSymbols.take i):Int))))=true↔x.fDef≠-1∧(x.fDef≠(aheadN x (o.fSymbols.take i):Int)∨(mostN o x:Int)≤x.fDef):=by
  simp only [Bool.and_eq_true,Bool.or_eq_true,decide_eq_true_eq]
  constructor
  · rintro ⟨a,b⟩
    refine ⟨a,?_⟩
    by_cases c:x.fDef=(aheadN x (o.fSymbols.take i):Int)
    · right;rcases b with b | b
      · exact absurd c b
      · omega
    · exact .inl c
  · rintro ⟨a,b⟩
    refine ⟨a,?_⟩
    by_cases c:x.fDef=(aheadN x (o.fSymbols.take i):Int)
    · right;rcases b with b | b
      · exact absurd c b
      · omega
    · exact .inl c
 have h6:(x.fLocal && decide (x.fDef = -1))=true↔x.fLocal=true∧x.fDef = -1:=by simp
 unfold symX
 show (if nameF4 x.fName≠0 then nameF4 x.fName else fstE _)=_
 rw [when_fst (by decide),when_fst (by decide),when_fst (by decide),when_fst (by decide)]
 simp only [h4,h6]
 rfl
theorem obj_symbol {B:Base}{w:World}(hS:St B [] w) (o:ApiObject) (oc:List Value) (ho:kApiObject.K B.e o oc) (hg:GoodO o) (i:Nat) (hi:i<o.fSymbols.length) :
 CW 30 #[.agg oc.toArray,.int .i64 (i:Int)] w (Ret B (fun _:Unit=>True) (fun _=>.int .i64 (symE o i)) (fun _=>[])):=by
 obtain ⟨A0,c0,A1,c1,A2,c2,rfl,m0,q0,m1,q1,m2,q2⟩:=kApiObject_open ho
 have hn0:=hg.syms
 have hn1:=hg.funcs
 have hn2:=hg.datas
 obtain ⟨x,hx⟩:∃ x,o.fSymbols[i]?=some x:=⟨_,List.getElem?_eq_getElem hi⟩
 obtain ⟨e1,cs1,hE⟩:=q0.elm hx
 obtain rfl:=kApiSymbol_open hE.K
 have hxK:=hE.K
 have htl:(o.fSymbols.take i).length=i:=by rw [List.length_take];omega
 have hqt:kApiSymbol.C B.e A0 (o.fSymbols.take i):=C_take q0 i
 rw [symE_at hx,← sym_fir]
 refine ZX Tryz.func30 hS ?_
 refine Zh (Zi (oBox J ZP (fun b2=>?_)))
 refine Zp J (Zn (Za (Zh (Zi (Zz (n:=0) (m:=0) J J J (Zld ?_))))))
 refine Zo J (oIdxE J J (hE) ZO J J ?_)
 have hc14:=(hE).cell
 refine Zlx hc14 ?_
 refine oAlloc J ZP (fun b5=>?_)
 refine Zsa ?_
 refine Zn (Za (Zh (Zi (Zz (n:=1) (m:=1) J J J (Zld ?_)))))
 refine Zv J J (Zp J (Zn (Za (Zh (Zh (Zi (Zz (n:=2) (m:=2) J J J (Zld ?_))))))))
 refine Zy J J (Zn (Za (wC (fun h21=>?_) (fun h21=>?_))))
 refine Zi (Zz (n:=2) (m:=2) J J J (Zld ?_))
 refine Zv J J (Zp J (Zn (Za (Zh (Zi (oMakeFunc J ?_))))))
 refine ZS0 (t:=6) (v':=.int .i64 (mostN o x:Int)) J (by unfold mostN;rw [if_pos (show x.fSort=2 from h21)]) ?_
 refine Zp J (Zn (Za (Zh (Zi (Zp J ?_)))))
 refine ZS0 (t:=8) (v':=.int .i64 (aheadN x (o.fSymbols.take 0):Int)) J (by unfold aheadN;simp) ?_
 refine Zn (Za (Zh (Zh (Zi (Zz (n:=0) (m:=0) J J J (Zld ?_))))))
 refine Zo J (oSliceU J J ZO J ?_)
 refine Zv J J (Zo J (Zn (Za (Zk (wLoop (ι:=Nat) (fun k=>[(1,.int .i64 (i:Int)),(2,.pointer (some ⟨b2,0,none⟩)),(5,.pointer (some ⟨b5,0,none⟩)),(6,.int .i64 (mostN o x:Int)),(7,.func (.func 61) #[] #[.pointer (some ⟨b5,0,none⟩)]),(8,.int .i64 (aheadN x (o.fSymbols.take k):Int)),(29,.slice A0 i c0),(30,.int .i64 (i:Int)),(31,.int .i64 (k:Int))]) (fun k=>[blk b2 26 [.slice A0 o.fSymbols.length c0,.slice A1 o.fFuncs.length c1,.slice A2 o.fDatas.length c2],blk b5 37 [.string x.fName,.bool x.fLocal,.int .i64 x.fSort,.int .i64 x.fKind,.int .i64 x.fDef]]) (fun k=>k≤i) (fun k=>i-k) 0 ?_ cv (Leads.has ZQ) ?_)))))
 exact Nat.zero_le _
 rintro k hk
 have hal:=ahead_le x (o.fSymbols.take k)
 have htk:(o.fSymbols.take k).length≤60:=by rw [List.length_take];omega
 try dsimp only
 refine Zh (Zi (Zx J J (Zn (Za (Zh (wC (fun h32=>?_) (fun h32=>?_)))))))
 obtain ⟨y,hy⟩:∃ y,o.fSymbols[k]?=some y:=⟨_,List.getElem?_eq_getElem ZO⟩
 have hyt:(o.fSymbols.take i)[k]?=some y:=by rw [List.getElem?_take,if_pos ZO,hy]
 obtain ⟨e2,cs2,hE2⟩:=hqt.elm hyt
 obtain rfl:=kApiSymbol_open hE2.K
 refine Zj (Za (Zh (Zk (Zh (Zi (oIdxE J J (hE2) ZO J J ?_))))))
 have hc33:=(hE2).cell
 refine Zlx hc33 ?_
 refine oAlloc J ZP (fun b10=>?_)
 refine Zsa ?_
 refine Zn (Za (Zh (Zi (Zz (n:=2) (m:=2) J J J (Zld ?_)))))
 refine Zz (n:=2) (m:=2) J J J (Zld ?_)
 refine Zy J J (Zo J (ZS (ZT 40) (fun h40=>?_) (fun h40=>?_)))
 refine Zq J J (Zz (n:=4) (m:=4) J J J (Zzf ?_))
 refine Zq J J (Z0 J J (Zt J J (Zn (Za (wC (fun h44=>?_) (fun h44=>?_))))))
 have hap:aheadP x y=true:=by unfold aheadP;simp [show y.fSort=x.fSort from h40];first | exact h44 | simpa using h44
 refine Zi (Zo J ?_)
 first | refine oAdd rfl rfl ZO ?_ | refine oAddW rfl rfl ?_
 refine Zp J ?_
 skip
 refine Zn (Zzi ?_)
 refine Zo J (Zn (Za ?_))
 exact ⟨rfl,k+1,by omega,by omega,by rw [ahead_succ x hy,if_pos hap];exact cv,Lh⟩
 have hap:¬ aheadP x y=true:=by unfold aheadP;simp [show y.fSort=x.fSort from h40];first | exact h44 | simpa using h44
 refine Zj (Zzi ?_)
 refine Zo J (Zn (Za ?_))
 exact ⟨rfl,k+1,by omega,by omega,by rw [ahead_succ x hy,if_neg hap,Nat.add_zero];exact cv,Lh⟩
 have hap:¬ aheadP x y=true:=by unfold aheadP;simp [show ¬ y.fSort=x.fSort from h40]
 refine Zr J J J J (Zr J J J J (Zr J J J J (Zu J J (Zn (Za (wCondF J (Zj (Zzi ?_))))))))
 refine Zo J (Zn (Za ?_))
 exact ⟨rfl,k+1,by omega,by omega,by rw [ahead_succ x hy,if_neg hap,Nat.add_zero];exact cv,Lh⟩
 obtain rfl:k=i:=by omega
 refine Zm (Zb (Zb (Ze (Za (Zh (wDrawG J [0,1,3,6,7,8,9,10,13,14,15,28,29] [(2,[3,6,7,8,9,10,13,14,15,28,29],[]),(4,[6,7,8,9,10,13,14,15,28,29],[]),(5,[6,7,8,9,10,13,14,15,28,29],[]),(11,[13,14,15,28,29],[]),(12,[13,14,15,28,29],[16,17,18,19,20,21,22,23,24,25,26]),(27,[28,29],[30,31,32,33,34]),(35,[],[]),(36,[],[]),(37,[],[])] [38] 24 ZK J J (fun w0=>?_)))))))
 refine Zz (n:=0) (m:=0) J J J (Zld ?_)
 refine Zla ?_
 refine Zz (n:=0) (m:=0) J J J (Zld ?_)
 refine Zo J (oSliceU J J ZO J ?_)
 refine Zo J (Zz (n:=4) (m:=4) J J J (Zld ?_))
 refine Z0 J J (Zz (n:=1) (m:=1) J J J (Zld ?_))
 refine Z4 (Z5 J ?_)
 (refine ZC0 rfl ZK (fun w hS=>frame hS ZQ (fun B' hB hS'=>name_Check hS' x.fName)) ?_;rintro ⟨⟩ -)
 refine ZG ?_ J (fun w0=>?_)
 refine Z8 J J J J (fun w0=>?_) ?_
 refine Zla ?_
 exact Z9 rfl
 refine Z8 J J J J (fun w0=>?_) ?_
 refine Zz (n:=0) (m:=0) J J J ?_
 exact Z9 rfl
 refine Z8 J J J J (fun w0=>?_) ?_
 refine Zld ?_
 exact Z9 rfl
 refine Z8 J J J J (fun w0=>?_) ?_
 refine Zo J ?_
 exact Z9 rfl
 refine Z8 J J J J (fun w0=>?_) ?_
 refine oSliceU J J ZO J ?_
 exact Z9 rfl
 refine Z8 J J J J (fun w0=>?_) ?_
 refine Zo J ?_
 exact Z9 rfl
 refine Z8 J J J J (fun w0=>?_) ?_
 refine Zz (n:=4) (m:=4) J J J ?_
 exact Z9 rfl
 refine Z8 J J J J (fun w0=>?_) ?_
 refine Zld ?_
 exact Z9 rfl
 refine Z8 J J J J (fun w0=>?_) ?_
 refine Z0 J J ?_
 exact Z9 rfl
 refine Z8 J J J J (fun w0=>?_) ?_
 refine Zz (n:=1) (m:=1) J J J ?_
 exact Z9 rfl
 refine Z8 J J J J (fun w0=>?_) ?_
 refine Zld ?_
 exact Z9 rfl
 exact AgainG.nil
 refine Z4 (Z5 J ?_)
 (refine ZC0 rfl ZK (fun w hS=>frame hS ZQ (fun B' hB hS'=>obj_kind hS' x _ (kApiSymbol.K_grow hB hxK))) ?_;rintro ⟨⟩ -)
 refine ZG ?_ J (fun w0=>?_)
 refine Z8 J J J J (fun w0=>?_) ?_
 refine Zz (n:=0) (m:=0) J J J ?_
 exact Z9 rfl
 refine Z8 J J J J (fun w0=>?_) ?_
 refine Zld ?_
 exact Z9 rfl
 refine Z8 J J J J (fun w0=>?_) ?_
 refine Zo J ?_
 exact Z9 rfl
 refine Z8 J J J J (fun w0=>?_) ?_
 refine oSliceU J J ZO J ?_
 exact Z9 rfl
 refine Z8 J J J J (fun w0=>?_) ?_
 refine Zo J ?_
 exact Z9 rfl
 refine Z8 J J J J (fun w0=>?_) ?_
 refine Zz (n:=4) (m:=4) J J J ?_
 exact Z9 rfl
 refine Z8 J J J J (fun w0=>?_) ?_
 refine Zld ?_
 exact Z9 rfl
 refine Z8 J J J J (fun w0=>?_) ?_
 refine Z0 J J ?_
 exact Z9 rfl
 refine Z8 J J J J (fun w0=>?_) ?_
 refine Zz (n:=1) (m:=1) J J J ?_
 exact Z9 rfl
 refine Z8 J J J J (fun w0=>?_) ?_
 refine Zld ?_
 exact Z9 rfl
 exact AgainG.nil
 refine Z4 (Z5 J ?_)
 (refine ZC0 rfl ZK (fun w hS=>frame hS ZQ (fun B' hB hS'=>obj_when hS' (kindB x) 8)) ?_;rintro ⟨⟩ -)
 refine ZG ?_ J (fun w0=>?_)
 refine Z8 J J J J (fun w0=>?_) ?_
 refine Zz (n:=0) (m:=0) J J J ?_
 exact Z9 rfl
 refine Z8 J J J J (fun w0=>?_) ?_
 refine Zld ?_
 exact Z9 rfl
 refine Z8 J J J J (fun w0=>?_) ?_
 refine Zo J ?_
 exact Z9 rfl
 refine Z8 J J J J (fun w0=>?_) ?_
 refine oSliceU J J ZO J ?_
 exact Z9 rfl
 refine Z8 J J J J (fun w0=>?_) ?_
 refine Zo J ?_
 exact Z9 rfl
 refine Z8 J J J J (fun w0=>?_) ?_
 refine Zz (n:=4) (m:=4) J J J ?_
 exact Z9 rfl
 refine Z8 J J J J (fun w0=>?_) ?_
 refine Zld ?_
 exact Z9 rfl
 refine Z8 J J J J (fun w0=>?_) ?_
 refine Z0 J J ?_
 exact Z9 rfl
 refine Z8 J J J J (fun w0=>?_) ?_
 refine Zz (n:=1) (m:=1) J J J ?_
 exact Z9 rfl
 refine Z8 J J J J (fun w0=>?_) ?_
 refine Zld ?_
 exact Z9 rfl
 exact AgainG.nil
 refine Z4 (Z5 J ?_)
 (refine ZC0 rfl ZK (fun w hS=>frame hS ZQ (fun B' hB hS'=>containsFunc_sym hS' (o.fSymbols.take k) A0 k c0 htl.symm (Kd.C_grow hB hqt) 61 #[.pointer (some ⟨b5,0,none⟩)] (nameP x) ZK (fun B2 w2 y hB2 hy2 hS2=>obj_named x b5 hS2 y))) ?_;rintro ⟨⟩ -)
 refine ZG ?_ J (fun w0=>?_)
 refine Z8 J J J J (fun w0=>?_) ?_
 refine Zz (n:=4) (m:=4) J J J ?_
 exact Z9 rfl
 refine Z8 J J J J (fun w0=>?_) ?_
 refine Zld ?_
 exact Z9 rfl
 refine Z8 J J J J (fun w0=>?_) ?_
 refine Z0 J J ?_
 exact Z9 rfl
 refine Z8 J J J J (fun w0=>?_) ?_
 refine Zz (n:=1) (m:=1) J J J ?_
 exact Z9 rfl
 refine Z8 J J J J (fun w0=>?_) ?_
 refine Zld ?_
 exact Z9 rfl
 exact AgainG.nil
 refine Z4 (Z5 J ?_)
 (refine ZC0 rfl ZK (fun w hS=>frame hS ZQ (fun B' hB hS'=>obj_when hS' ((o.fSymbols.take k).any (nameP x)) 12)) ?_;rintro ⟨⟩ -)
 refine ZG ?_ J (fun w0=>?_)
 refine Z8 J J J J (fun w0=>?_) ?_
 refine Zz (n:=4) (m:=4) J J J ?_
 exact Z9 rfl
 refine Z8 J J J J (fun w0=>?_) ?_
 refine Zld ?_
 exact Z9 rfl
 refine Z8 J J J J (fun w0=>?_) ?_
 refine Z0 J J ?_
 exact Z9 rfl
 refine Z8 J J J J (fun w0=>?_) ?_
 refine Zz (n:=1) (m:=1) J J J ?_
 exact Z9 rfl
 refine Z8 J J J J (fun w0=>?_) ?_
 refine Zld ?_
 exact Z9 rfl
 exact AgainG.nil
 refine Zo J (ZS (ZT 64) (fun h64=>?_) (fun h64=>?_))
 refine Zq J J (Zz (n:=4) (m:=4) J J J (Zzf ?_))
 refine Zq J J (Zo J (Zq J J (Z0 J J (Zq J J (Zo J (ZS (ZT 69) (fun h69=>?_) (fun h69=>?_)))))))
 refine Zr J J J J (Zr J J J J (Zr J J J J (Zq J J (Zt J J (Zt J J ?_)))))
 refine ZS0 (t:=74) (v':=.bool (decide (x.fDef≠-1) && (decide (x.fDef≠(aheadN x (o.fSymbols.take k):Int)) || decide ((mostN o x:Int)≤(aheadN x (o.fSymbols.take k):Int))))) J (by congr 1;rw [decide_eq_true (show x.fDef≠-1 from h64),decide_eq_true (show x.fDef≠(aheadN x (o.fSymbols.take k):Int) from h69)];rfl) ?_
 refine Z4 (Z5 J ?_)
 (refine ZC0 rfl ZK (fun w hS=>frame hS ZQ (fun B' hB hS'=>obj_when hS' (decide (x.fDef≠-1) && (decide (x.fDef≠(aheadN x (o.fSymbols.take k):Int)) || decide ((mostN o x:Int)≤(aheadN x (o.fSymbols.take k):Int)))) 9)) ?_;rintro ⟨⟩ -)
 refine ZG ?_ J (fun w0=>?_)
 refine Z8 J J J J (fun w0=>?_) ?_
 refine Zz (n:=1) (m:=1) J J J ?_
 exact Z9 rfl
 refine Z8 J J J J (fun w0=>?_) ?_
 refine Zld ?_
 exact Z9 rfl
 exact AgainG.nil
 refine Zo J (ZS (ZT 78) (fun h78=>?_) (fun h78=>?_))
 refine Zq J J (Zz (n:=4) (m:=4) J J J (Zzf ?_))
 refine Zq J J (Zy J J (Zt J J ?_))
 refine ZS0 (t:=82) (v':=.bool (x.fLocal && decide (x.fDef = -1))) rfl (by rw [show x.fLocal=true from h78];rfl) ?_
 refine Z4 (Z5 J ?_)
 (refine ZC0 rfl ZK (fun w hS=>frame hS ZQ (fun B' hB hS'=>obj_when hS' (x.fLocal && decide (x.fDef = -1)) 13)) ?_;rintro ⟨⟩ -)
 refine ZG ?_ J (fun w0=>?_)
 exact AgainG.nil
 refine Z4 (Z5 J ?_)
 refine oBuildSliceF (Parts.cons J (Parts.cons J (Parts.cons J (Parts.cons J (Parts.cons J Parts.nil))))) J J J J J (Fulls.cons ZP J (Fulls.cons ZP J (Fulls.cons ZP J (Fulls.cons ZP J (Fulls.cons ZP J Fulls.nil ap) ap) ap) ap) ap) (fun b84=>?_)
 refine oConv (blk_row (enc:=Value.int .i64) (h1:=fun _=>J) (W:=B.e) (xs:=[nameF4 x.fName,whenF (kindB x) 8,whenF ((o.fSymbols.take k).any (nameP x)) 12,whenF (decide (x.fDef≠-1) && (decide (x.fDef≠(aheadN x (o.fSymbols.take k):Int)) || decide ((mostN o x:Int)≤(aheadN x (o.fSymbols.take k):Int)))) 9,whenF (x.fLocal && decide (x.fDef = -1)) 13]) (n:=5) ZP J J (by decide)) ?_
 refine ZG ?_ J (fun w0=>?_)
 exact AgainG.nil
 refine Z4 (Z5 J ?_)
 (refine ZD J (fun w B' hB hR hS'=>obj_first hS' [nameF4 x.fName,whenF (kindB x) 8,whenF ((o.fSymbols.take k).any (nameP x)) 12,whenF (decide (x.fDef≠-1) && (decide (x.fDef≠(aheadN x (o.fSymbols.take k):Int)) || decide ((mostN o x:Int)≤(aheadN x (o.fSymbols.take k):Int)))) 9,whenF (x.fLocal && decide (x.fDef = -1)) 13] (some ⟨b84,0,none⟩) 5 5 rfl (row_Cs (W:=B.e) (e:=29) (A:=some ⟨b84,0,none⟩) (n:=5) (cp:=5) (hR _ _ ZP))) ?_;rintro ⟨⟩ -)
 refine ZG ?_ J (fun w0=>?_)
 exact AgainG.nil
 refine Z6 (Zza ?_)
 exact ⟨(),trivial,rfl,Lh⟩
 refine Zr J J J J (Zr J J J J (Zr J J J J (Zu J J ?_)))
 refine ZS0 (t:=82) (v':=.bool (x.fLocal && decide (x.fDef = -1))) rfl (by rw [show x.fLocal=false from h78];rfl) ?_
 refine Z4 (Z5 J ?_)
 (refine ZC0 rfl ZK (fun w hS=>frame hS ZQ (fun B' hB hS'=>obj_when hS' (x.fLocal && decide (x.fDef = -1)) 13)) ?_;rintro ⟨⟩ -)
 refine ZG ?_ J (fun w0=>?_)
 exact AgainG.nil
 refine Z4 (Z5 J ?_)
 refine oBuildSliceF (Parts.cons J (Parts.cons J (Parts.cons J (Parts.cons J (Parts.cons J Parts.nil))))) J J J J J (Fulls.cons ZP J (Fulls.cons ZP J (Fulls.cons ZP J (Fulls.cons ZP J (Fulls.cons ZP J Fulls.nil ap) ap) ap) ap) ap) (fun b84=>?_)
 refine oConv (blk_row (enc:=Value.int .i64) (h1:=fun _=>J) (W:=B.e) (xs:=[nameF4 x.fName,whenF (kindB x) 8,whenF ((o.fSymbols.take k).any (nameP x)) 12,whenF (decide (x.fDef≠-1) && (decide (x.fDef≠(aheadN x (o.fSymbols.take k):Int)) || decide ((mostN o x:Int)≤(aheadN x (o.fSymbols.take k):Int)))) 9,whenF (x.fLocal && decide (x.fDef = -1)) 13]) (n:=5) ZP J J (by decide)) ?_
 refine ZG ?_ J (fun w0=>?_)
 exact AgainG.nil
 refine Z4 (Z5 J ?_)
 (refine ZD J (fun w B' hB hR hS'=>obj_first hS' [nameF4 x.fName,whenF (kindB x) 8,whenF ((o.fSymbols.take k).any (nameP x)) 12,whenF (decide (x.fDef≠-1) && (decide (x.fDef≠(aheadN x (o.fSymbols.take k):Int)) || decide ((mostN o x:Int)≤(aheadN x (o.fSymbols.take k):Int)))) 9,whenF (x.fLocal && decide (x.fDef = -1)) 13] (some ⟨b84,0,none⟩) 5 5 rfl (row_Cs (W:=B.e) (e:=29) (A:=some ⟨b84,0,none⟩) (n:=5) (cp:=5) (hR _ _ ZP))) ?_;rintro ⟨⟩ -)
 refine ZG ?_ J (fun w0=>?_)
 exact AgainG.nil
 refine Z6 (Zza ?_)
 exact ⟨(),trivial,rfl,Lh⟩
 refine Zq J J (Zo J (Zq J J (Zo J (Zq J J (Z2 J J (Zq J J (Zu J J (Zt J J ?_))))))))
 refine ZS0 (t:=74) (v':=.bool (decide (x.fDef≠-1) && (decide (x.fDef≠(aheadN x (o.fSymbols.take k):Int)) || decide ((mostN o x:Int)≤(aheadN x (o.fSymbols.take k):Int))))) J (by congr 1;rw [decide_eq_true (show x.fDef≠-1 from h64),decide_eq_false (show ¬ x.fDef≠(aheadN x (o.fSymbols.take k):Int) from h69)];rfl) ?_
 refine Z4 (Z5 J ?_)
 (refine ZC0 rfl ZK (fun w hS=>frame hS ZQ (fun B' hB hS'=>obj_when hS' (decide (x.fDef≠-1) && (decide (x.fDef≠(aheadN x (o.fSymbols.take k):Int)) || decide ((mostN o x:Int)≤(aheadN x (o.fSymbols.take k):Int)))) 9)) ?_;rintro ⟨⟩ -)
 refine ZG ?_ J (fun w0=>?_)
 refine Z8 J J J J (fun w0=>?_) ?_
 refine Zz (n:=1) (m:=1) J J J ?_
 exact Z9 rfl
 refine Z8 J J J J (fun w0=>?_) ?_
 refine Zld ?_
 exact Z9 rfl
 exact AgainG.nil
 refine Zo J (ZS (ZT 78) (fun h78=>?_) (fun h78=>?_))
 refine Zq J J (Zz (n:=4) (m:=4) J J J (Zzf ?_))
 refine Zq J J (Zy J J (Zt J J ?_))
 refine ZS0 (t:=82) (v':=.bool (x.fLocal && decide (x.fDef = -1))) rfl (by rw [show x.fLocal=true from h78];rfl) ?_
 refine Z4 (Z5 J ?_)
 (refine ZC0 rfl ZK (fun w hS=>frame hS ZQ (fun B' hB hS'=>obj_when hS' (x.fLocal && decide (x.fDef = -1)) 13)) ?_;rintro ⟨⟩ -)
 refine ZG ?_ J (fun w0=>?_)
 exact AgainG.nil
 refine Z4 (Z5 J ?_)
 refine oBuildSliceF (Parts.cons J (Parts.cons J (Parts.cons J (Parts.cons J (Parts.cons J Parts.nil))))) J J J J J (Fulls.cons ZP J (Fulls.cons ZP J (Fulls.cons ZP J (Fulls.cons ZP J (Fulls.cons ZP J Fulls.nil ap) ap) ap) ap) ap) (fun b84=>?_)
 refine oConv (blk_row (enc:=Value.int .i64) (h1:=fun _=>J) (W:=B.e) (xs:=[nameF4 x.fName,whenF (kindB x) 8,whenF ((o.fSymbols.take k).any (nameP x)) 12,whenF (decide (x.fDef≠-1) && (decide (x.fDef≠(aheadN x (o.fSymbols.take k):Int)) || decide ((mostN o x:Int)≤(aheadN x (o.fSymbols.take k):Int)))) 9,whenF (x.fLocal && decide (x.fDef = -1)) 13]) (n:=5) ZP J J (by decide)) ?_
 refine ZG ?_ J (fun w0=>?_)
 exact AgainG.nil
 refine Z4 (Z5 J ?_)
 (refine ZD J (fun w B' hB hR hS'=>obj_first hS' [nameF4 x.fName,whenF (kindB x) 8,whenF ((o.fSymbols.take k).any (nameP x)) 12,whenF (decide (x.fDef≠-1) && (decide (x.fDef≠(aheadN x (o.fSymbols.take k):Int)) || decide ((mostN o x:Int)≤(aheadN x (o.fSymbols.take k):Int)))) 9,whenF (x.fLocal && decide (x.fDef = -1)) 13] (some ⟨b84,0,none⟩) 5 5 rfl (row_Cs (W:=B.e) (e:=29) (A:=some ⟨b84,0,none⟩) (n:=5) (cp:=5) (hR _ _ ZP))) ?_;rintro ⟨⟩ -)
 refine ZG ?_ J (fun w0=>?_)
 exact AgainG.nil
 refine Z6 (Zza ?_)
 exact ⟨(),trivial,rfl,Lh⟩
 refine Zr J J J J (Zr J J J J (Zr J J J J (Zu J J ?_)))
 refine ZS0 (t:=82) (v':=.bool (x.fLocal && decide (x.fDef = -1))) rfl (by rw [show x.fLocal=false from h78];rfl) ?_
 refine Z4 (Z5 J ?_)
 (refine ZC0 rfl ZK (fun w hS=>frame hS ZQ (fun B' hB hS'=>obj_when hS' (x.fLocal && decide (x.fDef = -1)) 13)) ?_;rintro ⟨⟩ -)
 refine ZG ?_ J (fun w0=>?_)
 exact AgainG.nil
 refine Z4 (Z5 J ?_)
 refine oBuildSliceF (Parts.cons J (Parts.cons J (Parts.cons J (Parts.cons J (Parts.cons J Parts.nil))))) J J J J J (Fulls.cons ZP J (Fulls.cons ZP J (Fulls.cons ZP J (Fulls.cons ZP J (Fulls.cons ZP J Fulls.nil ap) ap) ap) ap) ap) (fun b84=>?_)
 refine oConv (blk_row (enc:=Value.int .i64) (h1:=fun _=>J) (W:=B.e) (xs:=[nameF4 x.fName,whenF (kindB x) 8,whenF ((o.fSymbols.take k).any (nameP x)) 12,whenF (decide (x.fDef≠-1) && (decide (x.fDef≠(aheadN x (o.fSymbols.take k):Int)) || decide ((mostN o x:Int)≤(aheadN x (o.fSymbols.take k):Int)))) 9,whenF (x.fLocal && decide (x.fDef = -1)) 13]) (n:=5) ZP J J (by decide)) ?_
 refine ZG ?_ J (fun w0=>?_)
 exact AgainG.nil
 refine Z4 (Z5 J ?_)
 (refine ZD J (fun w B' hB hR hS'=>obj_first hS' [nameF4 x.fName,whenF (kindB x) 8,whenF ((o.fSymbols.take k).any (nameP x)) 12,whenF (decide (x.fDef≠-1) && (decide (x.fDef≠(aheadN x (o.fSymbols.take k):Int)) || decide ((mostN o x:Int)≤(aheadN x (o.fSymbols.take k):Int)))) 9,whenF (x.fLocal && decide (x.fDef = -1)) 13] (some ⟨b84,0,none⟩) 5 5 rfl (row_Cs (W:=B.e) (e:=29) (A:=some ⟨b84,0,none⟩) (n:=5) (cp:=5) (hR _ _ ZP))) ?_;rintro ⟨⟩ -)
 refine ZG ?_ J (fun w0=>?_)
 exact AgainG.nil
 refine Z6 (Zza ?_)
 exact ⟨(),trivial,rfl,Lh⟩
 refine Zr J J J J (Zr J J J J (Zr J J J J (Zr J J J J (Zr J J J J (Zs J J J (Zs J J J (Zs J J J (Zr J J J J (Zu J J ?_)))))))))
 refine ZS0 (t:=74) (v':=.bool (decide (x.fDef≠-1) && (decide (x.fDef≠(aheadN x (o.fSymbols.take k):Int)) || decide ((mostN o x:Int)≤(aheadN x (o.fSymbols.take k):Int))))) J (by congr 1;rw [decide_eq_false (show ¬ x.fDef≠-1 from h64)];rfl) ?_
 refine Z4 (Z5 J ?_)
 (refine ZC0 rfl ZK (fun w hS=>frame hS ZQ (fun B' hB hS'=>obj_when hS' (decide (x.fDef≠-1) && (decide (x.fDef≠(aheadN x (o.fSymbols.take k):Int)) || decide ((mostN o x:Int)≤(aheadN x (o.fSymbols.take k):Int)))) 9)) ?_;rintro ⟨⟩ -)
 refine ZG ?_ J (fun w0=>?_)
 refine Z8 J J J J (fun w0=>?_) ?_
 refine Zz (n:=1) (m:=1) J J J ?_
 exact Z9 rfl
 refine Z8 J J J J (fun w0=>?_) ?_
 refine Zld ?_
 exact Z9 rfl
 exact AgainG.nil
 refine Zo J (ZS (ZT 78) (fun h78=>?_) (fun h78=>?_))
 refine Zq J J (Zz (n:=4) (m:=4) J J J (Zzf ?_))
 refine Zq J J (Zy J J (Zt J J ?_))
 refine ZS0 (t:=82) (v':=.bool (x.fLocal && decide (x.fDef = -1))) rfl (by rw [show x.fLocal=true from h78];rfl) ?_
 refine Z4 (Z5 J ?_)
 (refine ZC0 rfl ZK (fun w hS=>frame hS ZQ (fun B' hB hS'=>obj_when hS' (x.fLocal && decide (x.fDef = -1)) 13)) ?_;rintro ⟨⟩ -)
 refine ZG ?_ J (fun w0=>?_)
 exact AgainG.nil
 refine Z4 (Z5 J ?_)
 refine oBuildSliceF (Parts.cons J (Parts.cons J (Parts.cons J (Parts.cons J (Parts.cons J Parts.nil))))) J J J J J (Fulls.cons ZP J (Fulls.cons ZP J (Fulls.cons ZP J (Fulls.cons ZP J (Fulls.cons ZP J Fulls.nil ap) ap) ap) ap) ap) (fun b84=>?_)
 refine oConv (blk_row (enc:=Value.int .i64) (h1:=fun _=>J) (W:=B.e) (xs:=[nameF4 x.fName,whenF (kindB x) 8,whenF ((o.fSymbols.take k).any (nameP x)) 12,whenF (decide (x.fDef≠-1) && (decide (x.fDef≠(aheadN x (o.fSymbols.take k):Int)) || decide ((mostN o x:Int)≤(aheadN x (o.fSymbols.take k):Int)))) 9,whenF (x.fLocal && decide (x.fDef = -1)) 13]) (n:=5) ZP J J (by decide)) ?_
 refine ZG ?_ J (fun w0=>?_)
 exact AgainG.nil
 refine Z4 (Z5 J ?_)
 (refine ZD J (fun w B' hB hR hS'=>obj_first hS' [nameF4 x.fName,whenF (kindB x) 8,whenF ((o.fSymbols.take k).any (nameP x)) 12,whenF (decide (x.fDef≠-1) && (decide (x.fDef≠(aheadN x (o.fSymbols.take k):Int)) || decide ((mostN o x:Int)≤(aheadN x (o.fSymbols.take k):Int)))) 9,whenF (x.fLocal && decide (x.fDef = -1)) 13] (some ⟨b84,0,none⟩) 5 5 rfl (row_Cs (W:=B.e) (e:=29) (A:=some ⟨b84,0,none⟩) (n:=5) (cp:=5) (hR _ _ ZP))) ?_;rintro ⟨⟩ -)
 refine ZG ?_ J (fun w0=>?_)
 exact AgainG.nil
 refine Z6 (Zza ?_)
 exact ⟨(),trivial,rfl,Lh⟩
 refine Zr J J J J (Zr J J J J (Zr J J J J (Zu J J ?_)))
 refine ZS0 (t:=82) (v':=.bool (x.fLocal && decide (x.fDef = -1))) rfl (by rw [show x.fLocal=false from h78];rfl) ?_
 refine Z4 (Z5 J ?_)
 (refine ZC0 rfl ZK (fun w hS=>frame hS ZQ (fun B' hB hS'=>obj_when hS' (x.fLocal && decide (x.fDef = -1)) 13)) ?_;rintro ⟨⟩ -)
 refine ZG ?_ J (fun w0=>?_)
 exact AgainG.nil
 refine Z4 (Z5 J ?_)
 refine oBuildSliceF (Parts.cons J (Parts.cons J (Parts.cons J (Parts.cons J (Parts.cons J Parts.nil))))) J J J J J (Fulls.cons ZP J (Fulls.cons ZP J (Fulls.cons ZP J (Fulls.cons ZP J (Fulls.cons ZP J Fulls.nil ap) ap) ap) ap) ap) (fun b84=>?_)
 refine oConv (blk_row (enc:=Value.int .i64) (h1:=fun _=>J) (W:=B.e) (xs:=[nameF4 x.fName,whenF (kindB x) 8,whenF ((o.fSymbols.take k).any (nameP x)) 12,whenF (decide (x.fDef≠-1) && (decide (x.fDef≠(aheadN x (o.fSymbols.take k):Int)) || decide ((mostN o x:Int)≤(aheadN x (o.fSymbols.take k):Int)))) 9,whenF (x.fLocal && decide (x.fDef = -1)) 13]) (n:=5) ZP J J (by decide)) ?_
 refine ZG ?_ J (fun w0=>?_)
 exact AgainG.nil
 refine Z4 (Z5 J ?_)
 (refine ZD J (fun w B' hB hR hS'=>obj_first hS' [nameF4 x.fName,whenF (kindB x) 8,whenF ((o.fSymbols.take k).any (nameP x)) 12,whenF (decide (x.fDef≠-1) && (decide (x.fDef≠(aheadN x (o.fSymbols.take k):Int)) || decide ((mostN o x:Int)≤(aheadN x (o.fSymbols.take k):Int)))) 9,whenF (x.fLocal && decide (x.fDef = -1)) 13] (some ⟨b84,0,none⟩) 5 5 rfl (row_Cs (W:=B.e) (e:=29) (A:=some ⟨b84,0,none⟩) (n:=5) (cp:=5) (hR _ _ ZP))) ?_;rintro ⟨⟩ -)
 refine ZG ?_ J (fun w0=>?_)
 exact AgainG.nil
 refine Z6 (Zza ?_)
 exact ⟨(),trivial,rfl,Lh⟩
 refine Zj (Za (Zh (Zi (oMakeFunc J ?_))))
 refine ZS0 (t:=6) (v':=.int .i64 (mostN o x:Int)) J (by unfold mostN;rw [if_neg (show ¬ x.fSort=2 from h21)]) ?_
 refine Zp J (Zn (Za (Zh (Zi (Zp J ?_)))))
 refine ZS0 (t:=8) (v':=.int .i64 (aheadN x (o.fSymbols.take 0):Int)) J (by unfold aheadN;simp) ?_
 refine Zn (Za (Zh (Zh (Zi (Zz (n:=0) (m:=0) J J J (Zld ?_))))))
 refine Zo J (oSliceU J J ZO J ?_)
 refine Zv J J (Zo J (Zn (Za (Zk (wLoop (ι:=Nat) (fun k=>[(1,.int .i64 (i:Int)),(2,.pointer (some ⟨b2,0,none⟩)),(5,.pointer (some ⟨b5,0,none⟩)),(6,.int .i64 (mostN o x:Int)),(7,.func (.func 61) #[] #[.pointer (some ⟨b5,0,none⟩)]),(8,.int .i64 (aheadN x (o.fSymbols.take k):Int)),(29,.slice A0 i c0),(30,.int .i64 (i:Int)),(31,.int .i64 (k:Int))]) (fun k=>[blk b2 26 [.slice A0 o.fSymbols.length c0,.slice A1 o.fFuncs.length c1,.slice A2 o.fDatas.length c2],blk b5 37 [.string x.fName,.bool x.fLocal,.int .i64 x.fSort,.int .i64 x.fKind,.int .i64 x.fDef]]) (fun k=>k≤i) (fun k=>i-k) 0 ?_ cv (Leads.has ZQ) ?_)))))
 exact Nat.zero_le _
 rintro k hk
 have hal:=ahead_le x (o.fSymbols.take k)
 have htk:(o.fSymbols.take k).length≤60:=by rw [List.length_take];omega
 try dsimp only
 refine Zh (Zi (Zx J J (Zn (Za (Zh (wC (fun h32=>?_) (fun h32=>?_)))))))
 obtain ⟨y,hy⟩:∃ y,o.fSymbols[k]?=some y:=⟨_,List.getElem?_eq_getElem ZO⟩
 have hyt:(o.fSymbols.take i)[k]?=some y:=by rw [List.getElem?_take,if_pos ZO,hy]
 obtain ⟨e2,cs2,hE2⟩:=hqt.elm hyt
 obtain rfl:=kApiSymbol_open hE2.K
 refine Zj (Za (Zh (Zk (Zh (Zi (oIdxE J J (hE2) ZO J J ?_))))))
 have hc33:=(hE2).cell
 refine Zlx hc33 ?_
 refine oAlloc J ZP (fun b10=>?_)
 refine Zsa ?_
 refine Zn (Za (Zh (Zi (Zz (n:=2) (m:=2) J J J (Zld ?_)))))
 refine Zz (n:=2) (m:=2) J J J (Zld ?_)
 refine Zy J J (Zo J (ZS (ZT 40) (fun h40=>?_) (fun h40=>?_)))
 refine Zq J J (Zz (n:=4) (m:=4) J J J (Zzf ?_))
 refine Zq J J (Z0 J J (Zt J J (Zn (Za (wC (fun h44=>?_) (fun h44=>?_))))))
 have hap:aheadP x y=true:=by unfold aheadP;simp [show y.fSort=x.fSort from h40];first | exact h44 | simpa using h44
 refine Zi (Zo J ?_)
 first | refine oAdd rfl rfl ZO ?_ | refine oAddW rfl rfl ?_
 refine Zp J ?_
 skip
 refine Zn (Zzi ?_)
 refine Zo J (Zn (Za ?_))
 exact ⟨rfl,k+1,by omega,by omega,by rw [ahead_succ x hy,if_pos hap];exact cv,Lh⟩
 have hap:¬ aheadP x y=true:=by unfold aheadP;simp [show y.fSort=x.fSort from h40];first | exact h44 | simpa using h44
 refine Zj (Zzi ?_)
 refine Zo J (Zn (Za ?_))
 exact ⟨rfl,k+1,by omega,by omega,by rw [ahead_succ x hy,if_neg hap,Nat.add_zero];exact cv,Lh⟩
 have hap:¬ aheadP x y=true:=by unfold aheadP;simp [show ¬ y.fSort=x.fSort from h40]
 refine Zr J J J J (Zr J J J J (Zr J J J J (Zu J J (Zn (Za (wCondF J (Zj (Zzi ?_))))))))
 refine Zo J (Zn (Za ?_))
 exact ⟨rfl,k+1,by omega,by omega,by rw [ahead_succ x hy,if_neg hap,Nat.add_zero];exact cv,Lh⟩
 obtain rfl:k=i:=by omega
 refine Zm (Zb (Zb (Ze (Za (Zh (wDrawG J [0,1,3,6,7,8,9,10,13,14,15,28,29] [(2,[3,6,7,8,9,10,13,14,15,28,29],[]),(4,[6,7,8,9,10,13,14,15,28,29],[]),(5,[6,7,8,9,10,13,14,15,28,29],[]),(11,[13,14,15,28,29],[]),(12,[13,14,15,28,29],[16,17,18,19,20,21,22,23,24,25,26]),(27,[28,29],[30,31,32,33,34]),(35,[],[]),(36,[],[]),(37,[],[])] [38] 24 ZK J J (fun w0=>?_)))))))
 refine Zz (n:=0) (m:=0) J J J (Zld ?_)
 refine Zla ?_
 refine Zz (n:=0) (m:=0) J J J (Zld ?_)
 refine Zo J (oSliceU J J ZO J ?_)
 refine Zo J (Zz (n:=4) (m:=4) J J J (Zld ?_))
 refine Z0 J J (Zz (n:=1) (m:=1) J J J (Zld ?_))
 refine Z4 (Z5 J ?_)
 (refine ZC0 rfl ZK (fun w hS=>frame hS ZQ (fun B' hB hS'=>name_Check hS' x.fName)) ?_;rintro ⟨⟩ -)
 refine ZG ?_ J (fun w0=>?_)
 refine Z8 J J J J (fun w0=>?_) ?_
 refine Zla ?_
 exact Z9 rfl
 refine Z8 J J J J (fun w0=>?_) ?_
 refine Zz (n:=0) (m:=0) J J J ?_
 exact Z9 rfl
 refine Z8 J J J J (fun w0=>?_) ?_
 refine Zld ?_
 exact Z9 rfl
 refine Z8 J J J J (fun w0=>?_) ?_
 refine Zo J ?_
 exact Z9 rfl
 refine Z8 J J J J (fun w0=>?_) ?_
 refine oSliceU J J ZO J ?_
 exact Z9 rfl
 refine Z8 J J J J (fun w0=>?_) ?_
 refine Zo J ?_
 exact Z9 rfl
 refine Z8 J J J J (fun w0=>?_) ?_
 refine Zz (n:=4) (m:=4) J J J ?_
 exact Z9 rfl
 refine Z8 J J J J (fun w0=>?_) ?_
 refine Zld ?_
 exact Z9 rfl
 refine Z8 J J J J (fun w0=>?_) ?_
 refine Z0 J J ?_
 exact Z9 rfl
 refine Z8 J J J J (fun w0=>?_) ?_
 refine Zz (n:=1) (m:=1) J J J ?_
 exact Z9 rfl
 refine Z8 J J J J (fun w0=>?_) ?_
 refine Zld ?_
 exact Z9 rfl
 exact AgainG.nil
 refine Z4 (Z5 J ?_)
 (refine ZC0 rfl ZK (fun w hS=>frame hS ZQ (fun B' hB hS'=>obj_kind hS' x _ (kApiSymbol.K_grow hB hxK))) ?_;rintro ⟨⟩ -)
 refine ZG ?_ J (fun w0=>?_)
 refine Z8 J J J J (fun w0=>?_) ?_
 refine Zz (n:=0) (m:=0) J J J ?_
 exact Z9 rfl
 refine Z8 J J J J (fun w0=>?_) ?_
 refine Zld ?_
 exact Z9 rfl
 refine Z8 J J J J (fun w0=>?_) ?_
 refine Zo J ?_
 exact Z9 rfl
 refine Z8 J J J J (fun w0=>?_) ?_
 refine oSliceU J J ZO J ?_
 exact Z9 rfl
 refine Z8 J J J J (fun w0=>?_) ?_
 refine Zo J ?_
 exact Z9 rfl
 refine Z8 J J J J (fun w0=>?_) ?_
 refine Zz (n:=4) (m:=4) J J J ?_
 exact Z9 rfl
 refine Z8 J J J J (fun w0=>?_) ?_
 refine Zld ?_
 exact Z9 rfl
 refine Z8 J J J J (fun w0=>?_) ?_
 refine Z0 J J ?_
 exact Z9 rfl
 refine Z8 J J J J (fun w0=>?_) ?_
 refine Zz (n:=1) (m:=1) J J J ?_
 exact Z9 rfl
 refine Z8 J J J J (fun w0=>?_) ?_
 refine Zld ?_
 exact Z9 rfl
 exact AgainG.nil
 refine Z4 (Z5 J ?_)
 (refine ZC0 rfl ZK (fun w hS=>frame hS ZQ (fun B' hB hS'=>obj_when hS' (kindB x) 8)) ?_;rintro ⟨⟩ -)
 refine ZG ?_ J (fun w0=>?_)
 refine Z8 J J J J (fun w0=>?_) ?_
 refine Zz (n:=0) (m:=0) J J J ?_
 exact Z9 rfl
 refine Z8 J J J J (fun w0=>?_) ?_
 refine Zld ?_
 exact Z9 rfl
 refine Z8 J J J J (fun w0=>?_) ?_
 refine Zo J ?_
 exact Z9 rfl
 refine Z8 J J J J (fun w0=>?_) ?_
 refine oSliceU J J ZO J ?_
 exact Z9 rfl
 refine Z8 J J J J (fun w0=>?_) ?_
 refine Zo J ?_
 exact Z9 rfl
 refine Z8 J J J J (fun w0=>?_) ?_
 refine Zz (n:=4) (m:=4) J J J ?_
 exact Z9 rfl
 refine Z8 J J J J (fun w0=>?_) ?_
 refine Zld ?_
 exact Z9 rfl
 refine Z8 J J J J (fun w0=>?_) ?_
 refine Z0 J J ?_
 exact Z9 rfl
 refine Z8 J J J J (fun w0=>?_) ?_
 refine Zz (n:=1) (m:=1) J J J ?_
 exact Z9 rfl
 refine Z8 J J J J (fun w0=>?_) ?_
 refine Zld ?_
 exact Z9 rfl
 exact AgainG.nil
 refine Z4 (Z5 J ?_)
 (refine ZC0 rfl ZK (fun w hS=>frame hS ZQ (fun B' hB hS'=>containsFunc_sym hS' (o.fSymbols.take k) A0 k c0 htl.symm (Kd.C_grow hB hqt) 61 #[.pointer (some ⟨b5,0,none⟩)] (nameP x) ZK (fun B2 w2 y hB2 hy2 hS2=>obj_named x b5 hS2 y))) ?_;rintro ⟨⟩ -)
 refine ZG ?_ J (fun w0=>?_)
 refine Z8 J J J J (fun w0=>?_) ?_
 refine Zz (n:=4) (m:=4) J J J ?_
 exact Z9 rfl
 refine Z8 J J J J (fun w0=>?_) ?_
 refine Zld ?_
 exact Z9 rfl
 refine Z8 J J J J (fun w0=>?_) ?_
 refine Z0 J J ?_
 exact Z9 rfl
 refine Z8 J J J J (fun w0=>?_) ?_
 refine Zz (n:=1) (m:=1) J J J ?_
 exact Z9 rfl
 refine Z8 J J J J (fun w0=>?_) ?_
 refine Zld ?_
 exact Z9 rfl
 exact AgainG.nil
 refine Z4 (Z5 J ?_)
 (refine ZC0 rfl ZK (fun w hS=>frame hS ZQ (fun B' hB hS'=>obj_when hS' ((o.fSymbols.take k).any (nameP x)) 12)) ?_;rintro ⟨⟩ -)
 refine ZG ?_ J (fun w0=>?_)
 refine Z8 J J J J (fun w0=>?_) ?_
 refine Zz (n:=4) (m:=4) J J J ?_
 exact Z9 rfl
 refine Z8 J J J J (fun w0=>?_) ?_
 refine Zld ?_
 exact Z9 rfl
 refine Z8 J J J J (fun w0=>?_) ?_
 refine Z0 J J ?_
 exact Z9 rfl
 refine Z8 J J J J (fun w0=>?_) ?_
 refine Zz (n:=1) (m:=1) J J J ?_
 exact Z9 rfl
 refine Z8 J J J J (fun w0=>?_) ?_
 refine Zld ?_
 exact Z9 rfl
 exact AgainG.nil
 refine Zo J (ZS (ZT 64) (fun h64=>?_) (fun h64=>?_))
 refine Zq J J (Zz (n:=4) (m:=4) J J J (Zzf ?_))
 refine Zq J J (Zo J (Zq J J (Z0 J J (Zq J J (Zo J (ZS (ZT 69) (fun h69=>?_) (fun h69=>?_)))))))
 refine Zr J J J J (Zr J J J J (Zr J J J J (Zq J J (Zt J J (Zt J J ?_)))))
 refine ZS0 (t:=74) (v':=.bool (decide (x.fDef≠-1) && (decide (x.fDef≠(aheadN x (o.fSymbols.take k):Int)) || decide ((mostN o x:Int)≤(aheadN x (o.fSymbols.take k):Int))))) J (by congr 1;rw [decide_eq_true (show x.fDef≠-1 from h64),decide_eq_true (show x.fDef≠(aheadN x (o.fSymbols.take k):Int) from h69)];rfl) ?_
 refine Z4 (Z5 J ?_)
 (refine ZC0 rfl ZK (fun w hS=>frame hS ZQ (fun B' hB hS'=>obj_when hS' (decide (x.fDef≠-1) && (decide (x.fDef≠(aheadN x (o.fSymbols.take k):Int)) || decide ((mostN o x:Int)≤(aheadN x (o.fSymbols.take k):Int)))) 9)) ?_;rintro ⟨⟩ -)
 refine ZG ?_ J (fun w0=>?_)
 refine Z8 J J J J (fun w0=>?_) ?_
 refine Zz (n:=1) (m:=1) J J J ?_
 exact Z9 rfl
 refine Z8 J J J J (fun w0=>?_) ?_
 refine Zld ?_
 exact Z9 rfl
 exact AgainG.nil
 refine Zo J (ZS (ZT 78) (fun h78=>?_) (fun h78=>?_))
 refine Zq J J (Zz (n:=4) (m:=4) J J J (Zzf ?_))
 refine Zq J J (Zy J J (Zt J J ?_))
 refine ZS0 (t:=82) (v':=.bool (x.fLocal && decide (x.fDef = -1))) rfl (by rw [show x.fLocal=true from h78];rfl) ?_
 refine Z4 (Z5 J ?_)
 (refine ZC0 rfl ZK (fun w hS=>frame hS ZQ (fun B' hB hS'=>obj_when hS' (x.fLocal && decide (x.fDef = -1)) 13)) ?_;rintro ⟨⟩ -)
 refine ZG ?_ J (fun w0=>?_)
 exact AgainG.nil
 refine Z4 (Z5 J ?_)
 refine oBuildSliceF (Parts.cons J (Parts.cons J (Parts.cons J (Parts.cons J (Parts.cons J Parts.nil))))) J J J J J (Fulls.cons ZP J (Fulls.cons ZP J (Fulls.cons ZP J (Fulls.cons ZP J (Fulls.cons ZP J Fulls.nil ap) ap) ap) ap) ap) (fun b84=>?_)
 refine oConv (blk_row (enc:=Value.int .i64) (h1:=fun _=>J) (W:=B.e) (xs:=[nameF4 x.fName,whenF (kindB x) 8,whenF ((o.fSymbols.take k).any (nameP x)) 12,whenF (decide (x.fDef≠-1) && (decide (x.fDef≠(aheadN x (o.fSymbols.take k):Int)) || decide ((mostN o x:Int)≤(aheadN x (o.fSymbols.take k):Int)))) 9,whenF (x.fLocal && decide (x.fDef = -1)) 13]) (n:=5) ZP J J (by decide)) ?_
 refine ZG ?_ J (fun w0=>?_)
 exact AgainG.nil
 refine Z4 (Z5 J ?_)
 (refine ZD J (fun w B' hB hR hS'=>obj_first hS' [nameF4 x.fName,whenF (kindB x) 8,whenF ((o.fSymbols.take k).any (nameP x)) 12,whenF (decide (x.fDef≠-1) && (decide (x.fDef≠(aheadN x (o.fSymbols.take k):Int)) || decide ((mostN o x:Int)≤(aheadN x (o.fSymbols.take k):Int)))) 9,whenF (x.fLocal && decide (x.fDef = -1)) 13] (some ⟨b84,0,none⟩) 5 5 rfl (row_Cs (W:=B.e) (e:=29) (A:=some ⟨b84,0,none⟩) (n:=5) (cp:=5) (hR _ _ ZP))) ?_;rintro ⟨⟩ -)
 refine ZG ?_ J (fun w0=>?_)
 exact AgainG.nil
 refine Z6 (Zza ?_)
 exact ⟨(),trivial,rfl,Lh⟩
 refine Zr J J J J (Zr J J J J (Zr J J J J (Zu J J ?_)))
 refine ZS0 (t:=82) (v':=.bool (x.fLocal && decide (x.fDef = -1))) rfl (by rw [show x.fLocal=false from h78];rfl) ?_
 refine Z4 (Z5 J ?_)
 (refine ZC0 rfl ZK (fun w hS=>frame hS ZQ (fun B' hB hS'=>obj_when hS' (x.fLocal && decide (x.fDef = -1)) 13)) ?_;rintro ⟨⟩ -)
 refine ZG ?_ J (fun w0=>?_)
 exact AgainG.nil
 refine Z4 (Z5 J ?_)
 refine oBuildSliceF (Parts.cons J (Parts.cons J (Parts.cons J (Parts.cons J (Parts.cons J Parts.nil))))) J J J J J (Fulls.cons ZP J (Fulls.cons ZP J (Fulls.cons ZP J (Fulls.cons ZP J (Fulls.cons ZP J Fulls.nil ap) ap) ap) ap) ap) (fun b84=>?_)
 refine oConv (blk_row (enc:=Value.int .i64) (h1:=fun _=>J) (W:=B.e) (xs:=[nameF4 x.fName,whenF (kindB x) 8,whenF ((o.fSymbols.take k).any (nameP x)) 12,whenF (decide (x.fDef≠-1) && (decide (x.fDef≠(aheadN x (o.fSymbols.take k):Int)) || decide ((mostN o x:Int)≤(aheadN x (o.fSymbols.take k):Int)))) 9,whenF (x.fLocal && decide (x.fDef = -1)) 13]) (n:=5) ZP J J (by decide)) ?_
 refine ZG ?_ J (fun w0=>?_)
 exact AgainG.nil
 refine Z4 (Z5 J ?_)
 (refine ZD J (fun w B' hB hR hS'=>obj_first hS' [nameF4 x.fName,whenF (kindB x) 8,whenF ((o.fSymbols.take k).any (nameP x)) 12,whenF (decide (x.fDef≠-1) && (decide (x.fDef≠(aheadN x (o.fSymbols.take k):Int)) || decide ((mostN o x:Int)≤(aheadN x (o.fSymbols.take k):Int)))) 9,whenF (x.fLocal && decide (x.fDef = -1)) 13] (some ⟨b84,0,none⟩) 5 5 rfl (row_Cs (W:=B.e) (e:=29) (A:=some ⟨b84,0,none⟩) (n:=5) (cp:=5) (hR _ _ ZP))) ?_;rintro ⟨⟩ -)
 refine ZG ?_ J (fun w0=>?_)
 exact AgainG.nil
 refine Z6 (Zza ?_)
 exact ⟨(),trivial,rfl,Lh⟩
 refine Zq J J (Zo J (Zq J J (Zo J (Zq J J (Z2 J J (Zq J J (Zu J J (Zt J J ?_))))))))
 refine ZS0 (t:=74) (v':=.bool (decide (x.fDef≠-1) && (decide (x.fDef≠(aheadN x (o.fSymbols.take k):Int)) || decide ((mostN o x:Int)≤(aheadN x (o.fSymbols.take k):Int))))) J (by congr 1;rw [decide_eq_true (show x.fDef≠-1 from h64),decide_eq_false (show ¬ x.fDef≠(aheadN x (o.fSymbols.take k):Int) from h69)];rfl) ?_
 refine Z4 (Z5 J ?_)
 (refine ZC0 rfl ZK (fun w hS=>frame hS ZQ (fun B' hB hS'=>obj_when hS' (decide (x.fDef≠-1) && (decide (x.fDef≠(aheadN x (o.fSymbols.take k):Int)) || decide ((mostN o x:Int)≤(aheadN x (o.fSymbols.take k):Int)))) 9)) ?_;rintro ⟨⟩ -)
 refine ZG ?_ J (fun w0=>?_)
 refine Z8 J J J J (fun w0=>?_) ?_
 refine Zz (n:=1) (m:=1) J J J ?_
 exact Z9 rfl
 refine Z8 J J J J (fun w0=>?_) ?_
 refine Zld ?_
 exact Z9 rfl
 exact AgainG.nil
 refine Zo J (ZS (ZT 78) (fun h78=>?_) (fun h78=>?_))
 refine Zq J J (Zz (n:=4) (m:=4) J J J (Zzf ?_))
 refine Zq J J (Zy J J (Zt J J ?_))
 refine ZS0 (t:=82) (v':=.bool (x.fLocal && decide (x.fDef = -1))) rfl (by rw [show x.fLocal=true from h78];rfl) ?_
 refine Z4 (Z5 J ?_)
 (refine ZC0 rfl ZK (fun w hS=>frame hS ZQ (fun B' hB hS'=>obj_when hS' (x.fLocal && decide (x.fDef = -1)) 13)) ?_;rintro ⟨⟩ -)
 refine ZG ?_ J (fun w0=>?_)
 exact AgainG.nil
 refine Z4 (Z5 J ?_)
 refine oBuildSliceF (Parts.cons J (Parts.cons J (Parts.cons J (Parts.cons J (Parts.cons J Parts.nil))))) J J J J J (Fulls.cons ZP J (Fulls.cons ZP J (Fulls.cons ZP J (Fulls.cons ZP J (Fulls.cons ZP J Fulls.nil ap) ap) ap) ap) ap) (fun b84=>?_)
 refine oConv (blk_row (enc:=Value.int .i64) (h1:=fun _=>J) (W:=B.e) (xs:=[nameF4 x.fName,whenF (kindB x) 8,whenF ((o.fSymbols.take k).any (nameP x)) 12,whenF (decide (x.fDef≠-1) && (decide (x.fDef≠(aheadN x (o.fSymbols.take k):Int)) || decide ((mostN o x:Int)≤(aheadN x (o.fSymbols.take k):Int)))) 9,whenF (x.fLocal && decide (x.fDef = -1)) 13]) (n:=5) ZP J J (by decide)) ?_
 refine ZG ?_ J (fun w0=>?_)
 exact AgainG.nil
 refine Z4 (Z5 J ?_)
 (refine ZD J (fun w B' hB hR hS'=>obj_first hS' [nameF4 x.fName,whenF (kindB x) 8,whenF ((o.fSymbols.take k).any (nameP x)) 12,whenF (decide (x.fDef≠-1) && (decide (x.fDef≠(aheadN x (o.fSymbols.take k):Int)) || decide ((mostN o x:Int)≤(aheadN x (o.fSymbols.take k):Int)))) 9,whenF (x.fLocal && decide (x.fDef = -1)) 13] (some ⟨b84,0,none⟩) 5 5 rfl (row_Cs (W:=B.e) (e:=29) (A:=some ⟨b84,0,none⟩) (n:=5) (cp:=5) (hR _ _ ZP))) ?_;rintro ⟨⟩ -)
 refine ZG ?_ J (fun w0=>?_)
 exact AgainG.nil
 refine Z6 (Zza ?_)
 exact ⟨(),trivial,rfl,Lh⟩
 refine Zr J J J J (Zr J J J J (Zr J J J J (Zu J J ?_)))
 refine ZS0 (t:=82) (v':=.bool (x.fLocal && decide (x.fDef = -1))) rfl (by rw [show x.fLocal=false from h78];rfl) ?_
 refine Z4 (Z5 J ?_)
 (refine ZC0 rfl ZK (fun w hS=>frame hS ZQ (fun B' hB hS'=>obj_when hS' (x.fLocal && decide (x.fDef = -1)) 13)) ?_;rintro ⟨⟩ -)
 refine ZG ?_ J (fun w0=>?_)
 exact AgainG.nil
 refine Z4 (Z5 J ?_)
 refine oBuildSliceF (Parts.cons J (Parts.cons J (Parts.cons J (Parts.cons J (Parts.cons J Parts.nil))))) J J J J J (Fulls.cons ZP J (Fulls.cons ZP J (Fulls.cons ZP J (Fulls.cons ZP J (Fulls.cons ZP J Fulls.nil ap) ap) ap) ap) ap) (fun b84=>?_)
 refine oConv (blk_row (enc:=Value.int .i64) (h1:=fun _=>J) (W:=B.e) (xs:=[nameF4 x.fName,whenF (kindB x) 8,whenF ((o.fSymbols.take k).any (nameP x)) 12,whenF (decide (x.fDef≠-1) && (decide (x.fDef≠(aheadN x (o.fSymbols.take k):Int)) || decide ((mostN o x:Int)≤(aheadN x (o.fSymbols.take k):Int)))) 9,whenF (x.fLocal && decide (x.fDef = -1)) 13]) (n:=5) ZP J J (by decide)) ?_
 refine ZG ?_ J (fun w0=>?_)
 exact AgainG.nil
 refine Z4 (Z5 J ?_)
 (refine ZD J (fun w B' hB hR hS'=>obj_first hS' [nameF4 x.fName,whenF (kindB x) 8,whenF ((o.fSymbols.take k).any (nameP x)) 12,whenF (decide (x.fDef≠-1) && (decide (x.fDef≠(aheadN x (o.fSymbols.take k):Int)) || decide ((mostN o x:Int)≤(aheadN x (o.fSymbols.take k):Int)))) 9,whenF (x.fLocal && decide (x.fDef = -1)) 13] (some ⟨b84,0,none⟩) 5 5 rfl (row_Cs (W:=B.e) (e:=29) (A:=some ⟨b84,0,none⟩) (n:=5) (cp:=5) (hR _ _ ZP))) ?_;rintro ⟨⟩ -)
 refine ZG ?_ J (fun w0=>?_)
 exact AgainG.nil
 refine Z6 (Zza ?_)
 exact ⟨(),trivial,rfl,Lh⟩
 refine Zr J J J J (Zr J J J J (Zr J J J J (Zr J J J J (Zr J J J J (Zs J J J (Zs J J J (Zs J J J (Zr J J J J (Zu J J ?_)))))))))
 refine ZS0 (t:=74) (v':=.bool (decide (x.fDef≠-1) && (decide (x.fDef≠(aheadN x (o.fSymbols.take k):Int)) || decide ((mostN o x:Int)≤(aheadN x (o.fSymbols.take k):Int))))) J (by congr 1;rw [decide_eq_false (show ¬ x.fDef≠-1 from h64)];rfl) ?_
 refine Z4 (Z5 J ?_)
 (refine ZC0 rfl ZK (fun w hS=>frame hS ZQ (fun B' hB hS'=>obj_when hS' (decide (x.fDef≠-1) && (decide (x.fDef≠(aheadN x (o.fSymbols.take k):Int)) || decide ((mostN o x:Int)≤(aheadN x (o.fSymbols.take k):Int)))) 9)) ?_;rintro ⟨⟩ -)
 refine ZG ?_ J (fun w0=>?_)
 refine Z8 J J J J (fun w0=>?_) ?_
 refine Zz (n:=1) (m:=1) J J J ?_
 exact Z9 rfl
 refine Z8 J J J J (fun w0=>?_) ?_
 refine Zld ?_
 exact Z9 rfl
 exact AgainG.nil
 refine Zo J (ZS (ZT 78) (fun h78=>?_) (fun h78=>?_))
 refine Zq J J (Zz (n:=4) (m:=4) J J J (Zzf ?_))
 refine Zq J J (Zy J J (Zt J J ?_))
 refine ZS0 (t:=82) (v':=.bool (x.fLocal && decide (x.fDef = -1))) rfl (by rw [show x.fLocal=true from h78];rfl) ?_
 refine Z4 (Z5 J ?_)
 (refine ZC0 rfl ZK (fun w hS=>frame hS ZQ (fun B' hB hS'=>obj_when hS' (x.fLocal && decide (x.fDef = -1)) 13)) ?_;rintro ⟨⟩ -)
 refine ZG ?_ J (fun w0=>?_)
 exact AgainG.nil
 refine Z4 (Z5 J ?_)
 refine oBuildSliceF (Parts.cons J (Parts.cons J (Parts.cons J (Parts.cons J (Parts.cons J Parts.nil))))) J J J J J (Fulls.cons ZP J (Fulls.cons ZP J (Fulls.cons ZP J (Fulls.cons ZP J (Fulls.cons ZP J Fulls.nil ap) ap) ap) ap) ap) (fun b84=>?_)
 refine oConv (blk_row (enc:=Value.int .i64) (h1:=fun _=>J) (W:=B.e) (xs:=[nameF4 x.fName,whenF (kindB x) 8,whenF ((o.fSymbols.take k).any (nameP x)) 12,whenF (decide (x.fDef≠-1) && (decide (x.fDef≠(aheadN x (o.fSymbols.take k):Int)) || decide ((mostN o x:Int)≤(aheadN x (o.fSymbols.take k):Int)))) 9,whenF (x.fLocal && decide (x.fDef = -1)) 13]) (n:=5) ZP J J (by decide)) ?_
 refine ZG ?_ J (fun w0=>?_)
 exact AgainG.nil
 refine Z4 (Z5 J ?_)
 (refine ZD J (fun w B' hB hR hS'=>obj_first hS' [nameF4 x.fName,whenF (kindB x) 8,whenF ((o.fSymbols.take k).any (nameP x)) 12,whenF (decide (x.fDef≠-1) && (decide (x.fDef≠(aheadN x (o.fSymbols.take k):Int)) || decide ((mostN o x:Int)≤(aheadN x (o.fSymbols.take k):Int)))) 9,whenF (x.fLocal && decide (x.fDef = -1)) 13] (some ⟨b84,0,none⟩) 5 5 rfl (row_Cs (W:=B.e) (e:=29) (A:=some ⟨b84,0,none⟩) (n:=5) (cp:=5) (hR _ _ ZP))) ?_;rintro ⟨⟩ -)
 refine ZG ?_ J (fun w0=>?_)
 exact AgainG.nil
 refine Z6 (Zza ?_)
 exact ⟨(),trivial,rfl,Lh⟩
 refine Zr J J J J (Zr J J J J (Zr J J J J (Zu J J ?_)))
 refine ZS0 (t:=82) (v':=.bool (x.fLocal && decide (x.fDef = -1))) rfl (by rw [show x.fLocal=false from h78];rfl) ?_
 refine Z4 (Z5 J ?_)
 (refine ZC0 rfl ZK (fun w hS=>frame hS ZQ (fun B' hB hS'=>obj_when hS' (x.fLocal && decide (x.fDef = -1)) 13)) ?_;rintro ⟨⟩ -)
 refine ZG ?_ J (fun w0=>?_)
 exact AgainG.nil
 refine Z4 (Z5 J ?_)
 refine oBuildSliceF (Parts.cons J (Parts.cons J (Parts.cons J (Parts.cons J (Parts.cons J Parts.nil))))) J J J J J (Fulls.cons ZP J (Fulls.cons ZP J (Fulls.cons ZP J (Fulls.cons ZP J (Fulls.cons ZP J Fulls.nil ap) ap) ap) ap) ap) (fun b84=>?_)
 refine oConv (blk_row (enc:=Value.int .i64) (h1:=fun _=>J) (W:=B.e) (xs:=[nameF4 x.fName,whenF (kindB x) 8,whenF ((o.fSymbols.take k).any (nameP x)) 12,whenF (decide (x.fDef≠-1) && (decide (x.fDef≠(aheadN x (o.fSymbols.take k):Int)) || decide ((mostN o x:Int)≤(aheadN x (o.fSymbols.take k):Int)))) 9,whenF (x.fLocal && decide (x.fDef = -1)) 13]) (n:=5) ZP J J (by decide)) ?_
 refine ZG ?_ J (fun w0=>?_)
 exact AgainG.nil
 refine Z4 (Z5 J ?_)
 (refine ZD J (fun w B' hB hR hS'=>obj_first hS' [nameF4 x.fName,whenF (kindB x) 8,whenF ((o.fSymbols.take k).any (nameP x)) 12,whenF (decide (x.fDef≠-1) && (decide (x.fDef≠(aheadN x (o.fSymbols.take k):Int)) || decide ((mostN o x:Int)≤(aheadN x (o.fSymbols.take k):Int)))) 9,whenF (x.fLocal && decide (x.fDef = -1)) 13] (some ⟨b84,0,none⟩) 5 5 rfl (row_Cs (W:=B.e) (e:=29) (A:=some ⟨b84,0,none⟩) (n:=5) (cp:=5) (hR _ _ ZP))) ?_;rintro ⟨⟩ -)
 refine ZG ?_ J (fun w0=>?_)
 exact AgainG.nil
 refine Z6 (Zza ?_)
 exact ⟨(),trivial,rfl,Lh⟩
def ruleP (d:ApiData) (l:List ApiSymbol) (cls:Int) (i:Nat) (x:ApiReloc):Nat→Bool
  | 0=>decide (d.fKind=0)
  | 1=>decide (x.fAt<0) || decide ((d.fWords.length:Int)≤x.fAt)
  | 2=>decide (0<i) && decide (x.fAt≤(d.fRelocs.getD (i-1) default).fAt)
  | 3=>decide (x.fSym<0) || decide ((l.length:Int)≤x.fSym)
  | _=>decide ((l.getD x.fSym.toNat default).fSort≠1) || decide ((l.getD x.fSym.toNat default).fKind≠cls)
def ruleE (j:Nat):Int:=if j=4 then 8 else 11
abbrev Fn:=Nat×List Nat
def fnV (x:Fn):Value:=.func (.func x.1) #[] (x.2.map fun b=>Value.pointer (some ⟨b,0,none⟩)).toArray
def kFn:Kd Fn:=Kd.scalar fnV (fun _=>rfl)
def kRule:Kd (Fn×Int):=Kd.pair kFn (Kd.int .i64)
def rulesL (b2 b3 b5:Nat):List (Fn×Int):=[((130,[b2]),11),((131,[b2]),11),((132,[b2]),11),((133,[b3]),11),((134,[b3,b5]),8)]
theorem rule1 {B:Base}{w:World}(d:ApiData) (A0:Option Addr) (c0:Nat) (A1:Option Addr) (c1:Nat) (l:List ApiSymbol) (Al:Option Addr) (cl:Nat) (cls:Int) (b2 b3 b5:Nat) (hS:St B [blk b2 62 [.int .i64 d.fKind,.slice A0 d.fWords.length c0,.slice A1 d.fRelocs.length c1]] w) (g1:kApiReloc.C B.e A1 d.fRelocs) (hC:kApiSymbol.C B.e Al l) (hlw:d.fWords.length≤100000) (i:Nat) (x:ApiReloc) (hx:d.fRelocs[i]?=some x) :
 CW 130 #[.int .i64 (i:Int),.agg #[.int .i64 x.fAt,.int .i64 x.fSym,.bool x.fWide],.pointer (some ⟨b2,0,none⟩)] w (Ret B (fun _:Unit=>True) (fun _=>.bool (ruleP d l cls i x 0)) (fun _=>[blk b2 62 [.int .i64 d.fKind,.slice A0 d.fWords.length c0,.slice A1 d.fRelocs.length c1]])):=by
 have hll:=hC.1
 have hlr:=g1.1
 have hil:=(List.getElem?_eq_some_iff.1 hx).1
 refine ZX Tryz.func130 hS ?_
 refine Zh (Zi (oBox J ZP (fun b4=>?_)))
 refine Zp J (Zn (Za (Zh (Zi (Zz (n:=0) (m:=0) J J J (Zld ?_))))))
 refine Zy J J (Zza ?_)
 exact ⟨(),trivial,rfl,Lh⟩
theorem rule2 {B:Base}{w:World}(d:ApiData) (A0:Option Addr) (c0:Nat) (A1:Option Addr) (c1:Nat) (l:List ApiSymbol) (Al:Option Addr) (cl:Nat) (cls:Int) (b2 b3 b5:Nat) (hS:St B [blk b2 62 [.int .i64 d.fKind,.slice A0 d.fWords.length c0,.slice A1 d.fRelocs.length c1]] w) (g1:kApiReloc.C B.e A1 d.fRelocs) (hC:kApiSymbol.C B.e Al l) (hlw:d.fWords.length≤100000) (i:Nat) (x:ApiReloc) (hx:d.fRelocs[i]?=some x) :
 CW 131 #[.int .i64 (i:Int),.agg #[.int .i64 x.fAt,.int .i64 x.fSym,.bool x.fWide],.pointer (some ⟨b2,0,none⟩)] w (Ret B (fun _:Unit=>True) (fun _=>.bool (ruleP d l cls i x 1)) (fun _=>[blk b2 62 [.int .i64 d.fKind,.slice A0 d.fWords.length c0,.slice A1 d.fRelocs.length c1]])):=by
 have hll:=hC.1
 have hlr:=g1.1
 have hil:=(List.getElem?_eq_some_iff.1 hx).1
 refine ZX Tryz.func131 hS ?_
 refine Zh (Zi (oBox J ZP (fun b4=>?_)))
 refine Zp J (Zn (Za (Zh (Zi (Zz (n:=0) (m:=0) J J J (Zld ?_))))))
 refine Zx J J (Zo J (ZS (ZT 9) (fun h9=>?_) (fun h9=>?_)))
 refine Zr J J J J (Zr J J J J (Zr J J J J (Zr J J J J (Zr J J J J (Zr J J J J (Zt J J (Zza ?_)))))))
 exact ⟨(),trivial,by show Value.bool true=Value.bool (decide (x.fAt<0) || decide ((d.fWords.length:Int)≤x.fAt));rw [decide_eq_true (show x.fAt<0 from h9)];rfl,Lh⟩
 refine Zq J J (Zz (n:=0) (m:=0) J J J (Zzf ?_))
 refine Zq J J (Zz (n:=1) (m:=1) J J J (Zzf ?_))
 refine Zq J J (Zv J J (Zq J J (Z2 J J (Zu J J (Zza ?_)))))
 exact ⟨(),trivial,by show _=Value.bool (decide (x.fAt<0) || decide ((d.fWords.length:Int)≤x.fAt));rw [decide_eq_false (show ¬ x.fAt<0 from h9)];rfl,Lh⟩
theorem rule3 {B:Base}{w:World}(d:ApiData) (A0:Option Addr) (c0:Nat) (A1:Option Addr) (c1:Nat) (l:List ApiSymbol) (Al:Option Addr) (cl:Nat) (cls:Int) (b2 b3 b5:Nat) (hS:St B [blk b2 62 [.int .i64 d.fKind,.slice A0 d.fWords.length c0,.slice A1 d.fRelocs.length c1]] w) (g1:kApiReloc.C B.e A1 d.fRelocs) (hC:kApiSymbol.C B.e Al l) (hlw:d.fWords.length≤100000) (i:Nat) (x:ApiReloc) (hx:d.fRelocs[i]?=some x) :
 CW 132 #[.int .i64 (i:Int),.agg #[.int .i64 x.fAt,.int .i64 x.fSym,.bool x.fWide],.pointer (some ⟨b2,0,none⟩)] w (Ret B (fun _:Unit=>True) (fun _=>.bool (ruleP d l cls i x 2)) (fun _=>[blk b2 62 [.int .i64 d.fKind,.slice A0 d.fWords.length c0,.slice A1 d.fRelocs.length c1]])):=by
 have hll:=hC.1
 have hlr:=g1.1
 have hil:=(List.getElem?_eq_some_iff.1 hx).1
 refine ZX Tryz.func132 hS ?_
 refine Zh (Zi (oBox J ZP (fun b4=>?_)))
 refine Zp J (Zn (Za (Zh (wDrawG J [0,1,2,3,4,5,6,7,8,9,10,11,12,13] [] [14] 24 ZK J J (fun w0=>?_)))))
 refine Zo J (Z1 J J (Zo J (ZS (ZT 8) (fun h8=>?_) (fun h8=>?_))))
 obtain ⟨y,hy⟩:∃ y,d.fRelocs[i-1]?=some y:=⟨_,List.getElem?_eq_getElem ZO⟩
 obtain ⟨e3,cs3,hE3⟩:=g1.elm hy
 obtain rfl:=kApiReloc_open hE3.K
 have hi0:0<i:=by omega
 refine Zq J J (Zz (n:=0) (m:=0) J J J (Zzf ?_))
 refine Zq J J (Zz (n:=2) (m:=2) J J J (Zzf ?_))
 refine Zq J J (Zo J (Zq J J ?_))
 first | refine oSub rfl rfl ZO ?_ | refine oSubW rfl rfl ?_
 refine ZS0 (t:=14) (v':=.int .i64 ((i-1:Nat):Int)) J (by congr 1;omega) ?_
 refine Zq J J (oIdxE J J (hE3) ZO J J ?_)
 have hc15:=(hE3).cell
 refine Zq J J (ZF (ZT 0) (ZT 0) ?_)
 refine Zq J J (Zlx hc15 ?_)
 refine Zq J J (oLeq J J (Zt J J (Z6 (Zza ?_))))
 exact ⟨(),trivial,by show _=Value.bool (decide (0<i) && decide (x.fAt≤(d.fRelocs.getD (i-1) default).fAt));rw [decide_eq_true hi0,show d.fRelocs.getD (i-1) default=y by rw [List.getD_eq_getElem?_getD,hy];rfl];rfl,Lh⟩
 refine Zr J J J J (Zr J J J J (Zr J J J J (Zr J J J J (Zr J J J J (Zr J J J J (Zr J J J J (Zr J J J J (Zr J J J J (Zr J J J J (Zu J J (Z6 (Zza ?_))))))))))))
 exact ⟨(),trivial,by show _=Value.bool (decide (0<i) && decide (x.fAt≤(d.fRelocs.getD (i-1) default).fAt));rw [decide_eq_false (show ¬ 0<i by omega)];rfl,Lh⟩
theorem rule4 {B:Base}{w:World}(d:ApiData) (A0:Option Addr) (c0:Nat) (A1:Option Addr) (c1:Nat) (l:List ApiSymbol) (Al:Option Addr) (cl:Nat) (cls:Int) (b2 b3 b5:Nat) (hS:St B [blk b3 22 [.slice Al l.length cl]] w) (g1:kApiReloc.C B.e A1 d.fRelocs) (hC:kApiSymbol.C B.e Al l) (hlw:d.fWords.length≤100000) (i:Nat) (x:ApiReloc) (hx:d.fRelocs[i]?=some x) :
 CW 133 #[.int .i64 (i:Int),.agg #[.int .i64 x.fAt,.int .i64 x.fSym,.bool x.fWide],.pointer (some ⟨b3,0,none⟩)] w (Ret B (fun _:Unit=>True) (fun _=>.bool (ruleP d l cls i x 3)) (fun _=>[blk b3 22 [.slice Al l.length cl]])):=by
 have hll:=hC.1
 have hlr:=g1.1
 have hil:=(List.getElem?_eq_some_iff.1 hx).1
 refine ZX Tryz.func133 hS ?_
 refine Zh (Zi (oBox J ZP (fun b4=>?_)))
 refine Zp J (Zn (Za (Zh (Zi (Zz (n:=1) (m:=1) J J J (Zld ?_))))))
 refine Zx J J (Zo J (ZS (ZT 9) (fun h9=>?_) (fun h9=>?_)))
 refine Zr J J J J (Zr J J J J (Zr J J J J (Zr J J J J (Zr J J J J (Zt J J (Zza ?_))))))
 exact ⟨(),trivial,by show Value.bool true=Value.bool (decide (x.fSym<0) || decide ((l.length:Int)≤x.fSym));rw [decide_eq_true (show x.fSym<0 from h9)];rfl,Lh⟩
 refine Zq J J (Zz (n:=1) (m:=1) J J J (Zzf ?_))
 refine Zq J J (Zld ?_)
 refine Zq J J (Zv J J (Zq J J (Z2 J J (Zu J J (Zza ?_)))))
 exact ⟨(),trivial,by show _=Value.bool (decide (x.fSym<0) || decide ((l.length:Int)≤x.fSym));rw [decide_eq_false (show ¬ x.fSym<0 from h9)];rfl,Lh⟩
theorem rule5 {B:Base}{w:World}(d:ApiData) (A0:Option Addr) (c0:Nat) (A1:Option Addr) (c1:Nat) (l:List ApiSymbol) (Al:Option Addr) (cl:Nat) (cls:Int) (b2 b3 b5:Nat) (hS:St B [blk b3 22 [.slice Al l.length cl],blk b5 3 [.int .i64 cls]] w) (g1:kApiReloc.C B.e A1 d.fRelocs) (hC:kApiSymbol.C B.e Al l) (hlw:d.fWords.length≤100000) (i:Nat) (x:ApiReloc) (hx:d.fRelocs[i]?=some x) (h3:ruleP d l cls i x 3=false) :
 CW 134 #[.int .i64 (i:Int),.agg #[.int .i64 x.fAt,.int .i64 x.fSym,.bool x.fWide],.pointer (some ⟨b3,0,none⟩),.pointer (some ⟨b5,0,none⟩)] w (Ret B (fun _:Unit=>True) (fun _=>.bool (ruleP d l cls i x 4)) (fun _=>[blk b3 22 [.slice Al l.length cl],blk b5 3 [.int .i64 cls]])):=by
 have hll:=hC.1
 have hlr:=g1.1
 have hil:=(List.getElem?_eq_some_iff.1 hx).1
 refine ZX Tryz.func134 hS ?_
 refine Zh (Zi (oBox J ZP (fun b5=>?_)))
 refine Zp J (Zn (Za (Zh (wDrawG J [0,1,2,3,4,5,6,7,8,9,10,11,12,13,14,15,16] [] [17] 24 ZK J J (fun w0=>?_)))))
 refine Zld ?_
 refine Zz (n:=1) (m:=1) J J J (Zld ?_)
 have hs3:¬ x.fSym<0∧¬ (l.length:Int)≤x.fSym:=by
  have h:(decide (x.fSym<0) || decide ((l.length:Int)≤x.fSym))=false:=h3
  rw [Bool.or_eq_false_iff,decide_eq_false_iff_not,decide_eq_false_iff_not] at h
  exact h
 obtain ⟨k,hk⟩:=Int.eq_ofNat_of_zero_le (show 0≤x.fSym by omega)
 obtain ⟨y,hy⟩:∃ y,l[k]?=some y:=⟨_,List.getElem?_eq_getElem ZO⟩
 obtain ⟨e3,cs3,hE3⟩:=hC.elm hy
 obtain rfl:=kApiSymbol_open hE3.K
 have hly:l.getD x.fSym.toNat default=y:=by rw [hk,Int.toNat_natCast,List.getD_eq_getElem?_getD,hy];rfl
 refine ZS0 (t:=9) (v':=.int .i64 (k:Int)) rfl (by rw [hk]) ?_
 refine oIdxE J J (hE3) ZO J J ?_
 have hc10:=(hE3).cell
 refine ZF (ZT 2) (ZT 2) ?_
 refine Zlx hc10 ?_
 refine Z0 J J (Zo J (ZS (ZT 14) (fun h14=>?_) (fun h14=>?_)))
 refine Zr J J J J (Zr J J J J (Zr J J J J (Zr J J J J (Zr J J J J (Zr J J J J (Zr J J J J (Zr J J J J (Zt J J (Z6 (Zza ?_))))))))))
 exact ⟨(),trivial,by show Value.bool true=Value.bool (decide ((l.getD x.fSym.toNat default).fSort≠1) || decide ((l.getD x.fSym.toNat default).fKind≠cls));rw [hly,decide_eq_true (show y.fSort≠1 from h14)];rfl,Lh⟩
 refine Zq J J (Zld ?_)
 refine Zq J J (Zz (n:=1) (m:=1) J J J (Zzf ?_))
 refine ZS0 (t:=17) (v':=.int .i64 (k:Int)) rfl (by rw [hk]) ?_
 refine Zq J J (oIdxE J J (hE3) ZO J J ?_)
 have hc18:=(hE3).cell
 refine Zq J J (ZF (ZT 3) (ZT 3) ?_)
 refine Zq J J (Zlx hc18 ?_)
 refine Zq J J (Zld ?_)
 refine Zq J J (Z0 J J (Zu J J (Z6 (Zza ?_))))
 exact ⟨(),trivial,by show _=Value.bool (decide ((l.getD x.fSym.toNat default).fSort≠1) || decide ((l.getD x.fSym.toNat default).fKind≠cls));rw [hly,decide_eq_false (show ¬ y.fSort≠1 from h14)];rfl,Lh⟩

theorem rules_good {b2 b3 b5 j:Nat}{r:Fn×Int}(h:(rulesL b2 b3 b5)[j]?=some r):goodF Tryz.prog r.1.1=true:=by
  have hj:=(List.getElem?_eq_some_iff.1 h).1
  match j,hj,h with
  | 0,_,h=>obtain rfl:=Option.some.inj h;show goodF Tryz.prog 130=true;kernel_rfl
  | 1,_,h=>obtain rfl:=Option.some.inj h;show goodF Tryz.prog 131=true;kernel_rfl
  | 2,_,h=>obtain rfl:=Option.some.inj h;show goodF Tryz.prog 132=true;kernel_rfl
  | 3,_,h=>obtain rfl:=Option.some.inj h;show goodF Tryz.prog 133=true;kernel_rfl
  | 4,_,h=>obtain rfl:=Option.some.inj h;show goodF Tryz.prog 134=true;kernel_rfl
theorem rules_e {b2 b3 b5 j:Nat}{r:Fn×Int}(h:(rulesL b2 b3 b5)[j]?=some r):r.2=ruleE j∧j<5:=by
  have hj:=(List.getElem?_eq_some_iff.1 h).1
  match j,hj,h with
  | 0,_,h=>obtain rfl:=Option.some.inj h;exact ⟨rfl,by decide⟩
  | 1,_,h=>obtain rfl:=Option.some.inj h;exact ⟨rfl,by decide⟩
  | 2,_,h=>obtain rfl:=Option.some.inj h;exact ⟨rfl,by decide⟩
  | 3,_,h=>obtain rfl:=Option.some.inj h;exact ⟨rfl,by decide⟩
  | 4,_,h=>obtain rfl:=Option.some.inj h;exact ⟨rfl,by decide⟩
theorem rules_call {B:Base}{w:World}(d:ApiData) (A0:Option Addr) (c0:Nat) (A1:Option Addr) (c1:Nat) (l:List ApiSymbol) (Al:Option Addr) (cl:Nat) (cls:Int) (b2 b3 b5:Nat) (hS:St B [blk b2 62 [.int .i64 d.fKind,.slice A0 d.fWords.length c0,.slice A1 d.fRelocs.length c1],blk b3 22 [.slice Al l.length cl],blk b5 3 [.int .i64 cls]] w) (g1:kApiReloc.C B.e A1 d.fRelocs) (hC:kApiSymbol.C B.e Al l) (hlw:d.fWords.length≤100000) (i:Nat) (x:ApiReloc) (hx:d.fRelocs[i]?=some x) {j:Nat}{r:Fn×Int}(h:(rulesL b2 b3 b5)[j]?=some r) (hs:∀ k,k<j→ruleP d l cls i x k=false) :
    CW r.1.1 (#[]++[Value.int .i64 (i:Int),Value.agg #[.int .i64 x.fAt,.int .i64 x.fSym,.bool x.fWide]].toArray++(r.1.2.map fun b=>Value.pointer (some ⟨b,0,none⟩)).toArray) w (Ret B (fun _:Unit=>True) (fun _=>.bool (ruleP d l cls i x j)) (fun _=>[blk b2 62 [.int .i64 d.fKind,.slice A0 d.fWords.length c0,.slice A1 d.fRelocs.length c1],blk b3 22 [.slice Al l.length cl],blk b5 3 [.int .i64 cls]])):=by
  have hj:=(List.getElem?_eq_some_iff.1 h).1
  match j,hj,h,hs with
  | 0,_,h,_=>obtain rfl:=Option.some.inj h;refine (frame hS ZQ (fun B' hB hS'=>rule1 d A0 c0 A1 c1 l Al cl cls b2 b3 b5 hS' (Kd.C_grow hB g1) (Kd.C_grow hB hC) hlw i x hx)).mono ?_;rintro e w' ⟨u,a,b,c⟩;exact ⟨u,a,b,(Leads.has ZQ) _ c⟩
  | 1,_,h,_=>obtain rfl:=Option.some.inj h;refine (frame hS ZQ (fun B' hB hS'=>rule2 d A0 c0 A1 c1 l Al cl cls b2 b3 b5 hS' (Kd.C_grow hB g1) (Kd.C_grow hB hC) hlw i x hx)).mono ?_;rintro e w' ⟨u,a,b,c⟩;exact ⟨u,a,b,(Leads.has ZQ) _ c⟩
  | 2,_,h,_=>obtain rfl:=Option.some.inj h;refine (frame hS ZQ (fun B' hB hS'=>rule3 d A0 c0 A1 c1 l Al cl cls b2 b3 b5 hS' (Kd.C_grow hB g1) (Kd.C_grow hB hC) hlw i x hx)).mono ?_;rintro e w' ⟨u,a,b,c⟩;exact ⟨u,a,b,(Leads.has ZQ) _ c⟩
  | 3,_,h,_=>obtain rfl:=Option.some.inj h;refine (frame hS ZQ (fun B' hB hS'=>rule4 d A0 c0 A1 c1 l Al cl cls b2 b3 b5 hS' (Kd.C_grow hB g1) (Kd.C_grow hB hC) hlw i x hx)).mono ?_;rintro e w' ⟨u,a,b,c⟩;exact ⟨u,a,b,(Leads.has ZQ) _ c⟩
  | 4,_,h,hs=>obtain rfl:=Option.some.inj h;refine (frame hS ZQ (fun B' hB hS'=>rule5 d A0 c0 A1 c1 l Al cl cls b2 b3 b5 hS' (Kd.C_grow hB g1) (Kd.C_grow hB hC) hlw i x hx (hs 3 ZO))).mono ?_;rintro e w' ⟨u,a,b,c⟩;exact ⟨u,a,b,(Leads.has ZQ) _ c⟩
theorem data_nz {B:Base}{w:World}(hS:St B [] w) (x:Int) :
 CW 98 #[.int .i64 x] w (Ret B (fun _:Unit=>True) (fun _=>.bool (decide (x≠0))) (fun _=>[])):=by
 refine ZX Tryz.func98 hS ?_
 refine Zh (Zi (Zp J (Zn (Za (Zh (Zi (Zo J (Z0 J J (Zza ?_)))))))))
 exact ⟨(),trivial,rfl,Lh⟩
theorem indexFunc_w {B:Base}{w:World}(hS:St B [] w) (l:List Int) (A:Option Addr) (cp:Nat) (hC:(Kd.int .i64).C B.e A l) :
 CW 128 #[.slice A l.length cp,.func (.func 98) #[] #[]] w (Ret B (fun _:Unit=>True) (fun _=>.int .i64 (idxI (fun x=>decide (x≠0)) l)) (fun _=>[])):=by
 have hl:=hC.1
 refine ZX Tryz.func128 hS ?_
 refine Zh (Zi (Zp J (Zn (Za (Zh (Zh (Zi (Zo J (Zv J J (Zo J (Zn (Za (Zk (wLoop (ι:=Nat) (fun i=>[(0,.slice A l.length cp),(1,.func (.func 98) #[] #[]),(7,.int .i64 (l.length:Int)),(8,.int .i64 (i:Int))]) (fun i=>[]) (fun i=>i≤l.length∧∀ y ∈ l.take i,decide (y≠0)=false) (fun i=>l.length-i) 0 ?_ cv (Leads.has ZQ) ?_))))))))))))))
 exact ⟨Nat.zero_le _,by simp⟩
 rintro i ⟨hi,hs⟩
 try dsimp only
 refine Zh (Zi (Zx J J (Zn (Za (Zh (wC (fun h9=>?_) (fun h9=>?_)))))))
 obtain ⟨x,hx⟩:∃ x,l[i]?=some x:=⟨_,List.getElem?_eq_getElem ZO⟩
 obtain ⟨e1,cs1,hE⟩:=hC.elm hx
 obtain rfl:=(show cs1=[Value.int .i64 x] from hE.K)
 refine Zj (Za (Zh (Zk (Zh (Zi (Zo J (Zp J (Zn (Za (Zh (Zi (Zo J (Zo J (Zo J (oIdxE J J (hE) ZO J J ?_)))))))))))))))
 have hc14:=(hE).cell
 refine Zlx hc14 ?_
 (refine oCallV rfl rfl rfl ZK (fun w hS=>frame hS ZQ (fun B' hB hS'=>data_nz hS' x)) ?_;rintro ⟨⟩ -)
 refine Zn (Za (wC (fun h16=>?_) (fun h16=>?_)))
 refine Zh (Zzz ?_)
 exact ⟨(),trivial,by rw [idxI_stop (p:=fun y=>decide (y≠0)) hs hx (by simpa using h16)];rfl,Lh⟩
 refine Zj (Zzi ?_)
 refine Zo J (Zn (Za ?_))
 exact ⟨rfl,i+1,⟨by omega,take_not (p:=fun y=>decide (y≠0)) hs hx (by simpa using h16)⟩,by omega,cv,Lh⟩
 refine Zm (Zzg ?_)
 obtain rfl:i=l.length:=by omega
 rw [List.take_length] at hs
 exact ⟨(),trivial,by rw [idxI_none (p:=fun y=>decide (y≠0)) hs];rfl,Lh⟩
theorem containsFunc_w {B:Base}{w:World}(hS:St B [] w) (l:List Int) (A:Option Addr) (cp:Nat) (hC:(Kd.int .i64).C B.e A l) :
 CW 97 #[.slice A l.length cp,.func (.func 98) #[] #[]] w (Ret B (fun _:Unit=>True) (fun _=>.bool (l.any fun x=>decide (x≠0))) (fun _=>[])):=by
 refine ZX Tryz.func97 hS ?_
 refine Zh (Zi (Zp J (Zn (Zzv ?_))))
 (refine ZC0 rfl ZK (fun w hS=>frame hS ZQ (fun B' hB hS'=>indexFunc_w hS' l A cp (Kd.C_grow hB hC))) ?_;rintro ⟨⟩ -)
 refine Z2 J J (Zza ?_)
 exact ⟨(),trivial,by show Value.bool (decide (0≤idxI (fun x=>decide (x≠0)) l))=_;congr 1;rw [Bool.eq_iff_iff,decide_eq_true_eq];exact idxI_iff,Lh⟩
theorem data_rules {B:Base}{w:World}(hS:St B [] w) (d:ApiData) (A0:Option Addr) (c0:Nat) (A1:Option Addr) (c1:Nat) (l:List ApiSymbol) (Al:Option Addr) (cl:Nat) :
 CW 99 #[.agg #[.int .i64 d.fKind,.slice A0 d.fWords.length c0,.slice A1 d.fRelocs.length c1],.slice Al l.length cl] w (Ret B (fun _:Nat×Nat×Nat×Nat=>True) (fun z=>.slice (some ⟨z.2.2.2,0,none⟩) 5 5) (fun z=>[blk z.2.2.2 143 [.func (.func 130) #[] #[.pointer (some ⟨z.1,0,none⟩)],.int .i64 11,.func (.func 131) #[] #[.pointer (some ⟨z.1,0,none⟩)],.int .i64 11,.func (.func 132) #[] #[.pointer (some ⟨z.1,0,none⟩)],.int .i64 11,.func (.func 133) #[] #[.pointer (some ⟨z.2.1,0,none⟩)],.int .i64 11,.func (.func 134) #[] #[.pointer (some ⟨z.2.1,0,none⟩),.pointer (some ⟨z.2.2.1,0,none⟩)],.int .i64 8],blk z.1 62 [.int .i64 d.fKind,.slice A0 d.fWords.length c0,.slice A1 d.fRelocs.length c1],blk z.2.1 22 [.slice Al l.length cl],blk z.2.2.1 3 [.int .i64 (if isC (IntKind.i64.wrap (d.fKind-1)) then IntKind.i64.wrap (d.fKind-1) else 0)]])):=by
 refine ZX Tryz.func99 hS ?_
 refine Zh (Zi (oBox J ZP (fun b2=>?_)))
 refine oBox J ZP (fun b3=>?_)
 refine Zp J (Zn (Za (Zh (Zi (Zz (n:=0) (m:=0) J J J (Zld ?_))))))
 (refine ZC0 rfl ZK (fun w hS=>frame hS ZQ (fun B' hB hS'=>sig_Class hS' d.fKind)) ?_;rintro ⟨⟩ -)
 refine Zo J (oExt J ZP ?_)
 refine oExt J ZP ?_
 refine oAlloc J ZP (fun b5=>?_)
 refine Zst ?_
 refine Zp J (Zn (Za (Zh (Zi (oMakeFunc J (oBuild (Parts.cons J (Parts.cons J Parts.nil)) J J (Built.cons (off:=0) (s:=1) J ZP J ZP (Built.cons (off:=1) (s:=1) J ZP J ZP Built.nil)) ?_))))))
 refine oMakeFunc J (oBuild (Parts.cons J (Parts.cons J Parts.nil)) J J (Built.cons (off:=0) (s:=1) J ZP J ZP (Built.cons (off:=1) (s:=1) J ZP J ZP Built.nil)) ?_)
 refine oMakeFunc J (oBuild (Parts.cons J (Parts.cons J Parts.nil)) J J (Built.cons (off:=0) (s:=1) J ZP J ZP (Built.cons (off:=1) (s:=1) J ZP J ZP Built.nil)) ?_)
 refine oMakeFunc J (oBuild (Parts.cons J (Parts.cons J Parts.nil)) J J (Built.cons (off:=0) (s:=1) J ZP J ZP (Built.cons (off:=1) (s:=1) J ZP J ZP Built.nil)) ?_)
 refine oMakeFunc J (oBuild (Parts.cons J (Parts.cons J Parts.nil)) J J (Built.cons (off:=0) (s:=1) J ZP J ZP (Built.cons (off:=1) (s:=1) J ZP J ZP Built.nil)) ?_)
 refine oBuildSliceF (Parts.cons J (Parts.cons J (Parts.cons J (Parts.cons J (Parts.cons J Parts.nil))))) J J J J J (Fulls.cons ZP J (Fulls.cons ZP J (Fulls.cons ZP J (Fulls.cons ZP J (Fulls.cons ZP J Fulls.nil ap) ap) ap) ap) ap) (fun b23=>?_)
 refine Zp J (Zzk ?_)
 exact ⟨(b2,b3,b5,b23),trivial,rfl,Lh⟩
theorem rule_all {d:ApiData}{l:List ApiSymbol}{i:Nat}{x:ApiReloc}{cls:Int}(hc:d.fKind≠0→cls=d.fKind-1) (h:∀ k,k<5→ruleP d l cls i x k=false):dRelE d l i x=0:=by
 have h0:d.fKind≠0:=by simpa [ruleP] using h 0 ZO
 have h1:=h 1 ZO
 have h2:=h 2 ZO
 have h3:=h 3 ZO
 have h4:=h 4 ZO
 have e:=hc h0
 unfold dRelE
 simp only [ruleP,Bool.or_eq_false_iff,Bool.and_eq_false_iff,decide_eq_false_iff_not] at h1 h2 h3 h4
 rw [if_neg (by rintro (a | a | a | ⟨a,b⟩ | a | a);exact h0 a;exact h1.1 a;exact h1.2 a;exact h2.elim (fun f=>f a) (fun f=>f b);exact h3.1 a;exact h3.2 a),if_neg (by rintro (a | a);exact h4.1 a;exact h4.2 (by rw [e];exact a))]
theorem rule_hit {d:ApiData}{l:List ApiSymbol}{i:Nat}{x:ApiReloc}{cls:Int}{j:Nat}(hj:j<5) (hc:d.fKind≠0→cls=d.fKind-1) (h:∀ k,k<j→ruleP d l cls i x k=false) (hh:ruleP d l cls i x j=true):dRelE d l i x=ruleE j:=by
  unfold dRelE
  match j,hj,hh,h with
  | 0,_,hh,_=>rw [if_pos (Or.inl (by simpa [ruleP] using hh))];rfl
  | 1,_,hh,_=>rw [if_pos (by simp only [ruleP,Bool.or_eq_true,decide_eq_true_eq] at hh;exact hh.elim (fun a=>.inr (.inl a)) (fun a=>.inr (.inr (.inl a))))];rfl
  | 2,_,hh,_=>rw [if_pos (by simp only [ruleP,Bool.and_eq_true,decide_eq_true_eq] at hh;exact .inr (.inr (.inr (.inl hh))))];rfl
  | 3,_,hh,_=>rw [if_pos (by simp only [ruleP,Bool.or_eq_true,decide_eq_true_eq] at hh;exact hh.elim (fun a=>.inr (.inr (.inr (.inr (.inl a))))) (fun a=>.inr (.inr (.inr (.inr (.inr a))))))];rfl
  | 4,_,hh,h=>
    have h0:d.fKind≠0:=by simpa [ruleP] using h 0 ZO
    have h1:=h 1 ZO
    have h2:=h 2 ZO
    have h3:=h 3 ZO
    have e:=hc h0
    simp only [ruleP,Bool.or_eq_false_iff,Bool.and_eq_false_iff,decide_eq_false_iff_not] at h1 h2 h3
    simp only [ruleP,Bool.or_eq_true,decide_eq_true_eq] at hh
    rw [if_neg (by rintro (a | a | a | ⟨a,b⟩ | a | a);exact h0 a;exact h1.1 a;exact h1.2 a;exact h2.elim (fun f=>f a) (fun f=>f b);exact h3.1 a;exact h3.2 a),if_pos (by rw [← e];exact hh)];rfl
theorem cat_rules (w:World) (b2 b3 b5:Nat):Cat kRule w (rulesL b2 b3 b5) [.func (.func 130) #[] #[.pointer (some ⟨b2,0,none⟩)],.int .i64 11,.func (.func 131) #[] #[.pointer (some ⟨b2,0,none⟩)],.int .i64 11,.func (.func 132) #[] #[.pointer (some ⟨b2,0,none⟩)],.int .i64 11,.func (.func 133) #[] #[.pointer (some ⟨b3,0,none⟩)],.int .i64 11,.func (.func 134) #[] #[.pointer (some ⟨b3,0,none⟩),.pointer (some ⟨b5,0,none⟩)],.int .i64 8]:=
 ⟨[_,_],_,rfl,⟨_,_,rfl,rfl,rfl⟩,[_,_],_,rfl,⟨_,_,rfl,rfl,rfl⟩,[_,_],_,rfl,⟨_,_,rfl,rfl,rfl⟩,[_,_],_,rfl,⟨_,_,rfl,rfl,rfl⟩,[_,_],_,rfl,⟨_,_,rfl,rfl,rfl⟩,rfl⟩
theorem cls_eq {k:Int}(h:textF k≠ByteArray.empty) (h0:k≠0):(if isC (IntKind.i64.wrap (k-1)) then IntKind.i64.wrap (k-1) else 0)=k-1:=by
 have hk:0≤k∧k<9:=Classical.not_not.1 (fun hn=>h (textF_no.2 hn))
 have hw:IntKind.i64.wrap (k-1)=k-1:=wrap_in (by unfold in64;omega)
 rw [hw,if_pos (by unfold isC;rw [decide_eq_true (show 0≤k-1 by omega),decide_eq_true (show k-1<8 by omega)];rfl)]
theorem data_Check {B:Base}{w:World}(hS:St B [] w) (d:ApiData) (dc:List Value) (hd:kApiData.K B.e d dc) (hk:in64 d.fKind) (hl2:d.fRelocs.length≤100000) (Al:Option Addr) (cl:Nat) (l:List ApiSymbol) (hC:kApiSymbol.C B.e Al l) :
 CW 67 #[.agg dc.toArray,.slice Al l.length cl] w (Ret B (fun _:Unit=>True) (fun _=>.int .i64 (dataF d l)) (fun _=>[])):=by
 obtain ⟨A0,c0,A1,c1,rfl,l0,g0,l1,g1⟩:=kApiData_open hd
 have hw1:=g0.1
 refine ZX Tryz.func67 hS ?_
 refine Zh (Zi (oBox J ZP (fun b2=>?_)))
 refine Zp J (Zn (Za (Zh (Zk (Zh (Zi (Zz (n:=0) (m:=0) J J J (Zld ?_))))))))
 (refine ZC0 rfl ZK (fun w hS=>frame hS ZQ (fun B' hB hS'=>sig_Text hS' d.fKind)) ?_;rintro ⟨⟩ -)
 refine oSEq J J (Zp J (Zn (Za (wC (fun h10=>?_) (fun h10=>?_)))))
 have h10:textF d.fKind=ByteArray.empty:=h10
 refine Zh (Zi (Zzh ?_))
 exact ⟨(),trivial,by unfold dataF;rw [if_pos h10];rfl,Lh⟩
 have h10:¬ textF d.fKind=ByteArray.empty:=h10
 have hcls:d.fKind≠0→(if isC (IntKind.i64.wrap (d.fKind-1)) then IntKind.i64.wrap (d.fKind-1) else 0)=d.fKind-1:=fun h0=>cls_eq h10 h0
 refine Zh (Zi (Zz (n:=1) (m:=1) J J J (Zld ?_)))
 refine Zv J J (Z1 J J (Zp J (Zn (Za (wC (fun h15=>?_) (fun h15=>?_))))))
 refine Zh (Zi (Zzh ?_))
 exact ⟨(),trivial,by unfold dataF;rw [if_neg h10,if_pos ZO];rfl,Lh⟩
 have hn32:¬ 32<d.fWords.length:=by omega
 refine Zh (Zi (Zz (n:=0) (m:=0) J J J (Zld ?_)))
 refine Z0 J J (Zo J (ZS (ZT 24) (fun h24=>?_) (fun h24=>?_)))
 have hfn:(fun w:Int=>decide (d.fKind≠0∧w≠0))=fun w=>decide (w≠0):=by funext w;simp [show d.fKind≠0 from h24]
 refine Zq J J (Zz (n:=1) (m:=1) J J J (Zzf ?_))
 refine Zq J J ?_
 (refine ZC0 rfl ZK (fun w hS=>frame hS ZQ (fun B' hB hS'=>containsFunc_w hS' d.fWords A0 c0 (Kd.C_grow hB g0))) ?_;rintro ⟨⟩ -)
 refine Zt J J (Zp J (Zn (Za (wC (fun h20=>?_) (fun h20=>?_)))))
 refine Zh (Zi (Zzh ?_))
 exact ⟨(),trivial,by unfold dataF;rw [if_neg h10,if_neg hn32,if_pos (by rw [hfn];simpa using h20)];rfl,Lh⟩
 have hdF:dataF d l=fstE ((List.range d.fRelocs.length).map (relE d l)):=by unfold dataF;rw [if_neg h10,if_neg hn32,if_neg (by rw [hfn];simpa using h20)]
 refine Zj (Zd (Za (Zzs ?_)))
 refine Zo J ?_
 (refine ZC0 rfl ZK (fun w hS=>frame hS ZQ (fun B' hB hS'=>data_rules hS' d A0 c0 A1 c1 l Al cl)) ?_;rintro z -)
 refine Zp J (Zn (Za (wFreeze [blk z.2.2.2 143 [.func (.func 130) #[] #[.pointer (some ⟨z.1,0,none⟩)],.int .i64 11,.func (.func 131) #[] #[.pointer (some ⟨z.1,0,none⟩)],.int .i64 11,.func (.func 132) #[] #[.pointer (some ⟨z.1,0,none⟩)],.int .i64 11,.func (.func 133) #[] #[.pointer (some ⟨z.2.1,0,none⟩)],.int .i64 11,.func (.func 134) #[] #[.pointer (some ⟨z.2.1,0,none⟩),.pointer (some ⟨z.2.2.1,0,none⟩)],.int .i64 8]] ZQ (fun B1 hB1 hq1=>?_))))
 have hR:kRule.C B1.e (some ⟨z.2.2.2,0,none⟩) (rulesL z.1 z.2.1 z.2.2.1):=C_blk (hq1 _ _ ZP) (by show 5≤9223372036854775807;omega) (cat_rules _ _ _ _)
 have g0:=Kd.C_grow hB1 g0
 have g1:=Kd.C_grow hB1 g1
 have hC:=Kd.C_grow hB1 hC
 refine Zh (Zh (Zi (Zz (n:=2) (m:=2) J J J (Zld ?_))))
 refine Zv J J (Zo J (Zn (Za (Zk (wLoop (ι:=Nat) (fun i=>[(2,.pointer (some ⟨b2,0,none⟩)),(5,.slice (some ⟨z.2.2.2,0,none⟩) 5 5),(33,.slice A1 d.fRelocs.length c1),(34,.int .i64 (d.fRelocs.length:Int)),(35,.int .i64 (i:Int))]) (fun i=>[blk b2 62 [.int .i64 d.fKind,.slice A0 d.fWords.length c0,.slice A1 d.fRelocs.length c1],blk z.1 62 [.int .i64 d.fKind,.slice A0 d.fWords.length c0,.slice A1 d.fRelocs.length c1],blk z.2.1 22 [.slice Al l.length cl],blk z.2.2.1 3 [.int .i64 (if isC (IntKind.i64.wrap (d.fKind-1)) then IntKind.i64.wrap (d.fKind-1) else 0)]]) (fun i=>i≤d.fRelocs.length∧fstE (((List.range d.fRelocs.length).map (relE d l)).take i)=0) (fun i=>d.fRelocs.length-i) 0 ?_ cv (Leads.has ZQ) ?_)))))
 exact ⟨Nat.zero_le _,rfl⟩
 rintro i ⟨hi,hs⟩
 try dsimp only
 refine Zh (Zi (Zx J J (Zn (Za (Zh (wC (fun h36=>?_) (fun h36=>?_)))))))
 obtain ⟨x,hx⟩:∃ x,d.fRelocs[i]?=some x:=⟨_,List.getElem?_eq_getElem ZO⟩
 obtain ⟨e1,cs1,hE⟩:=g1.elm hx
 obtain rfl:=kApiReloc_open hE.K
 have hre:((List.range d.fRelocs.length).map (relE d l))[i]?=some (relE d l i):=rmap_at ZO
 have hrx:=relE_at (l:=l) hx
 refine Zj (Za (Zh (Zk (Zh (Zi (Zo J (oIdxE J J (hE) ZO J J ?_)))))))
 have hc38:=(hE).cell
 refine Zlx hc38 ?_
 refine oAlloc J ZP (fun b7=>?_)
 refine Zp J (Zsa ?_)
 refine Zn (Za (Zh (Zi (Zo J (Zv J J (Zo J (Zn (Za (Zk (wLoop (ι:=Nat) (fun j=>[(2,.pointer (some ⟨b2,0,none⟩)),(5,.slice (some ⟨z.2.2.2,0,none⟩) 5 5),(33,.slice A1 d.fRelocs.length c1),(34,.int .i64 (d.fRelocs.length:Int)),(35,.int .i64 (i:Int)),(6,.int .i64 (i:Int)),(7,.pointer (some ⟨b7,0,none⟩)),(40,.slice (some ⟨z.2.2.2,0,none⟩) 5 5),(41,.int .i64 5),(42,.int .i64 (j:Int))]) (fun j=>[blk b7 103 [.int .i64 x.fAt,.int .i64 x.fSym,.bool x.fWide],blk b2 62 [.int .i64 d.fKind,.slice A0 d.fWords.length c0,.slice A1 d.fRelocs.length c1],blk z.1 62 [.int .i64 d.fKind,.slice A0 d.fWords.length c0,.slice A1 d.fRelocs.length c1],blk z.2.1 22 [.slice Al l.length cl],blk z.2.2.1 3 [.int .i64 (if isC (IntKind.i64.wrap (d.fKind-1)) then IntKind.i64.wrap (d.fKind-1) else 0)]]) (fun j=>j≤5∧∀ k,k<j→ruleP d l (if isC (IntKind.i64.wrap (d.fKind-1)) then IntKind.i64.wrap (d.fKind-1) else 0) i x k=false) (fun j=>5-j) 0 ?_ cv (Leads.has ZQ) ?_))))))))))
 exact ⟨Nat.zero_le _,fun k hk=>by omega⟩
 rintro j ⟨hj,hsj⟩
 try dsimp only
 refine Zh (Zi (Zx J J (Zn (Za (Zh (wC (fun h43=>?_) (fun h43=>?_)))))))
 obtain ⟨r,hr⟩:∃ r,(rulesL z.1 z.2.1 z.2.2.1)[j]?=some r:=⟨_,List.getElem?_eq_getElem (by show j<5;omega)⟩
 obtain ⟨e2,cs2,hE2⟩:=hR.elm hr
 obtain ⟨_,_,rfl,rfl,rfl⟩:=(hE2.K:kRule.K _ _ _)
 refine Zj (Za (Zh (Zk (Zh (Zi (oIdxE J J (hE2) ZO J J ?_))))))
 have hc44:=(hE2).cell
 refine Zlx hc44 ?_
 refine oAlloc J ZP (fun b9=>?_)
 refine Zsa ?_
 refine Zn (Za (Zh (Zi (Zz (n:=0) (m:=0) J J J (Zld ?_)))))
 refine Zo J (Zla ?_)
 (refine oCallV rfl rfl rfl (rules_good hr) (fun w hS=>frame hS ZQ (fun B' hB hS'=>rules_call d A0 c0 A1 c1 l Al cl _ z.1 z.2.1 z.2.2.1 hS' (Kd.C_grow hB g1) (Kd.C_grow hB hC) ZO i x hx hr hsj)) ?_;rintro ⟨⟩ -)
 refine Zn (Za (wC (fun h50=>?_) (fun h50=>?_)))
 refine Zh (Zi (Zz (n:=1) (m:=1) J J J (Zld ?_)))
 refine Zp J (Zn (Za (Zl (Zf (Zc (Zc (Zf (Zf (Zc (Zc (Zf (Zc (Zw (fi1 J ?_))))))))))))))
 exact ⟨(),trivial,by rw [hdF,fstE_stop hs hre (by rw [hrx,rule_hit (rules_e hr).2 hcls hsj (by simpa using h50)];unfold ruleE;split <;> decide),hrx,rule_hit (rules_e hr).2 hcls hsj (by simpa using h50),(rules_e hr).1];rfl,Lh⟩
 refine Zj (Zzi ?_)
 refine Zo J (Zn (Za ?_))
 exact ⟨rfl,j+1,⟨by omega,fun k hk=>if e:k=j then (by rw [e];simpa using h50) else hsj k ZO⟩,by omega,cv,Lh⟩
 obtain rfl:j=5:=by omega
 refine Zm (Zb (Zb (Ze (Zzi ?_))))
 refine Zo J (Zn (Za ?_))
 exact ⟨rfl,i+1,⟨by omega,fstE_next hs hre (by rw [hrx];exact rule_all hcls (fun k hk=>hsj k hk))⟩,by omega,cv,Lh⟩
 obtain rfl:i=d.fRelocs.length:=by omega
 rw [List.take_of_length_le (by simp)] at hs
 refine Zm (Zzg ?_)
 exact ⟨(),trivial,by rw [hdF,hs];rfl,Lh⟩
 have hdF:dataF d l=fstE ((List.range d.fRelocs.length).map (relE d l)):=by unfold dataF;rw [if_neg h10,if_neg hn32,if_neg (by simp [show d.fKind=0 from Classical.not_not.1 h24])]
 refine Zr J J J J (Zr J J J J (Zr J J J J (Zu J J (Zp J (Zn (Za (wCondF J (Zj (Zd (Za (Zzs ?_)))))))))))
 refine Zo J ?_
 (refine ZC0 rfl ZK (fun w hS=>frame hS ZQ (fun B' hB hS'=>data_rules hS' d A0 c0 A1 c1 l Al cl)) ?_;rintro z -)
 refine Zp J (Zn (Za (wFreeze [blk z.2.2.2 143 [.func (.func 130) #[] #[.pointer (some ⟨z.1,0,none⟩)],.int .i64 11,.func (.func 131) #[] #[.pointer (some ⟨z.1,0,none⟩)],.int .i64 11,.func (.func 132) #[] #[.pointer (some ⟨z.1,0,none⟩)],.int .i64 11,.func (.func 133) #[] #[.pointer (some ⟨z.2.1,0,none⟩)],.int .i64 11,.func (.func 134) #[] #[.pointer (some ⟨z.2.1,0,none⟩),.pointer (some ⟨z.2.2.1,0,none⟩)],.int .i64 8]] ZQ (fun B1 hB1 hq1=>?_))))
 have hR:kRule.C B1.e (some ⟨z.2.2.2,0,none⟩) (rulesL z.1 z.2.1 z.2.2.1):=C_blk (hq1 _ _ ZP) (by show 5≤9223372036854775807;omega) (cat_rules _ _ _ _)
 have g0:=Kd.C_grow hB1 g0
 have g1:=Kd.C_grow hB1 g1
 have hC:=Kd.C_grow hB1 hC
 refine Zh (Zh (Zi (Zz (n:=2) (m:=2) J J J (Zld ?_))))
 refine Zv J J (Zo J (Zn (Za (Zk (wLoop (ι:=Nat) (fun i=>[(2,.pointer (some ⟨b2,0,none⟩)),(5,.slice (some ⟨z.2.2.2,0,none⟩) 5 5),(33,.slice A1 d.fRelocs.length c1),(34,.int .i64 (d.fRelocs.length:Int)),(35,.int .i64 (i:Int))]) (fun i=>[blk b2 62 [.int .i64 d.fKind,.slice A0 d.fWords.length c0,.slice A1 d.fRelocs.length c1],blk z.1 62 [.int .i64 d.fKind,.slice A0 d.fWords.length c0,.slice A1 d.fRelocs.length c1],blk z.2.1 22 [.slice Al l.length cl],blk z.2.2.1 3 [.int .i64 (if isC (IntKind.i64.wrap (d.fKind-1)) then IntKind.i64.wrap (d.fKind-1) else 0)]]) (fun i=>i≤d.fRelocs.length∧fstE (((List.range d.fRelocs.length).map (relE d l)).take i)=0) (fun i=>d.fRelocs.length-i) 0 ?_ cv (Leads.has ZQ) ?_)))))
 exact ⟨Nat.zero_le _,rfl⟩
 rintro i ⟨hi,hs⟩
 try dsimp only
 refine Zh (Zi (Zx J J (Zn (Za (Zh (wC (fun h36=>?_) (fun h36=>?_)))))))
 obtain ⟨x,hx⟩:∃ x,d.fRelocs[i]?=some x:=⟨_,List.getElem?_eq_getElem ZO⟩
 obtain ⟨e1,cs1,hE⟩:=g1.elm hx
 obtain rfl:=kApiReloc_open hE.K
 have hre:((List.range d.fRelocs.length).map (relE d l))[i]?=some (relE d l i):=rmap_at ZO
 have hrx:=relE_at (l:=l) hx
 refine Zj (Za (Zh (Zk (Zh (Zi (Zo J (oIdxE J J (hE) ZO J J ?_)))))))
 have hc38:=(hE).cell
 refine Zlx hc38 ?_
 refine oAlloc J ZP (fun b7=>?_)
 refine Zp J (Zsa ?_)
 refine Zn (Za (Zh (Zi (Zo J (Zv J J (Zo J (Zn (Za (Zk (wLoop (ι:=Nat) (fun j=>[(2,.pointer (some ⟨b2,0,none⟩)),(5,.slice (some ⟨z.2.2.2,0,none⟩) 5 5),(33,.slice A1 d.fRelocs.length c1),(34,.int .i64 (d.fRelocs.length:Int)),(35,.int .i64 (i:Int)),(6,.int .i64 (i:Int)),(7,.pointer (some ⟨b7,0,none⟩)),(40,.slice (some ⟨z.2.2.2,0,none⟩) 5 5),(41,.int .i64 5),(42,.int .i64 (j:Int))]) (fun j=>[blk b7 103 [.int .i64 x.fAt,.int .i64 x.fSym,.bool x.fWide],blk b2 62 [.int .i64 d.fKind,.slice A0 d.fWords.length c0,.slice A1 d.fRelocs.length c1],blk z.1 62 [.int .i64 d.fKind,.slice A0 d.fWords.length c0,.slice A1 d.fRelocs.length c1],blk z.2.1 22 [.slice Al l.length cl],blk z.2.2.1 3 [.int .i64 (if isC (IntKind.i64.wrap (d.fKind-1)) then IntKind.i64.wrap (d.fKind-1) else 0)]]) (fun j=>j≤5∧∀ k,k<j→ruleP d l (if isC (IntKind.i64.wrap (d.fKind-1)) then IntKind.i64.wrap (d.fKind-1) else 0) i x k=false) (fun j=>5-j) 0 ?_ cv (Leads.has ZQ) ?_))))))))))
 exact ⟨Nat.zero_le _,fun k hk=>by omega⟩
 rintro j ⟨hj,hsj⟩
 try dsimp only
 refine Zh (Zi (Zx J J (Zn (Za (Zh (wC (fun h43=>?_) (fun h43=>?_)))))))
 obtain ⟨r,hr⟩:∃ r,(rulesL z.1 z.2.1 z.2.2.1)[j]?=some r:=⟨_,List.getElem?_eq_getElem (by show j<5;omega)⟩
 obtain ⟨e2,cs2,hE2⟩:=hR.elm hr
 obtain ⟨_,_,rfl,rfl,rfl⟩:=(hE2.K:kRule.K _ _ _)
 refine Zj (Za (Zh (Zk (Zh (Zi (oIdxE J J (hE2) ZO J J ?_))))))
 have hc44:=(hE2).cell
 refine Zlx hc44 ?_
 refine oAlloc J ZP (fun b9=>?_)
 refine Zsa ?_
 refine Zn (Za (Zh (Zi (Zz (n:=0) (m:=0) J J J (Zld ?_)))))
 refine Zo J (Zla ?_)
 (refine oCallV rfl rfl rfl (rules_good hr) (fun w hS=>frame hS ZQ (fun B' hB hS'=>rules_call d A0 c0 A1 c1 l Al cl _ z.1 z.2.1 z.2.2.1 hS' (Kd.C_grow hB g1) (Kd.C_grow hB hC) ZO i x hx hr hsj)) ?_;rintro ⟨⟩ -)
 refine Zn (Za (wC (fun h50=>?_) (fun h50=>?_)))
 refine Zh (Zi (Zz (n:=1) (m:=1) J J J (Zld ?_)))
 refine Zp J (Zn (Za (Zl (Zf (Zc (Zc (Zf (Zf (Zc (Zc (Zf (Zc (Zw (fi1 J ?_))))))))))))))
 exact ⟨(),trivial,by rw [hdF,fstE_stop hs hre (by rw [hrx,rule_hit (rules_e hr).2 hcls hsj (by simpa using h50)];unfold ruleE;split <;> decide),hrx,rule_hit (rules_e hr).2 hcls hsj (by simpa using h50),(rules_e hr).1];rfl,Lh⟩
 refine Zj (Zzi ?_)
 refine Zo J (Zn (Za ?_))
 exact ⟨rfl,j+1,⟨by omega,fun k hk=>if e:k=j then (by rw [e];simpa using h50) else hsj k ZO⟩,by omega,cv,Lh⟩
 obtain rfl:j=5:=by omega
 refine Zm (Zb (Zb (Ze (Zzi ?_))))
 refine Zo J (Zn (Za ?_))
 exact ⟨rfl,i+1,⟨by omega,fstE_next hs hre (by rw [hrx];exact rule_all hcls (fun k hk=>hsj k hk))⟩,by omega,cv,Lh⟩
 obtain rfl:i=d.fRelocs.length:=by omega
 rw [List.take_of_length_le (by simp)] at hs
 refine Zm (Zzg ?_)
 exact ⟨(),trivial,by rw [hdF,hs];rfl,Lh⟩
end Go.Proofs.YtafiabekcekdbaaGreatO
/-
  Heaps in arrays, plainly: exchanges, and what sifting up and down keeps.
-/
namespace Go.Proofs.YtafiabekcekdbaaGreatQ
set_option maxRecDepth 100000
set_option maxHeartbeats 4000000

section
variable (lt : Nat → Nat → Prop)
variable {lt} (asy : ∀ a b, lt a b → ¬ lt b a) (tr : ∀ a b c, ¬ lt b a → ¬ lt c b → ¬ lt c a)
include asy tr
omit asy tr in
omit tr in
omit asy tr in
end
def at_ (l:List Nat) (k:Nat):Nat:=l.getD k 0
end Go.Proofs.YtafiabekcekdbaaGreatQ


/-
  Package queue: what a pile is, and its methods Len and Less.
-/
namespace Go.Proofs.YtafiabekcekdbaaGreatQ
set_option maxRecDepth 100000
set_option maxHeartbeats 4000000
open Go.RowKit Go.Proofs.YtafiabekcekdbaaGreatK

structure It where
  id:Int
  key:Int
  pl:Int
def ltI (a b:It):Prop:=a.key<b.key∨a.key=b.key∧a.id<b.id
instance (a b:It):Decidable (ltI a b):=by unfold ltI;infer_instance

section
variable {c : Cx} {N : Md c} {M : Me c} {d : Nat} {ty : TypeId} {pos : String} {af : Array Edge} {rest : List Oper} {E : Env} {D : List Deferred} {H H' : List Res} {v : Value} {x y : Operand} {t : TypeId} {S : Nat → Prop} {f : Nat → It}
end

end Go.Proofs.YtafiabekcekdbaaGreatQ


/-
  Package queue: a pile's exchange.
-/
namespace Go.Proofs.YtafiabekcekdbaaGreatQ
set_option maxRecDepth 100000
set_option maxHeartbeats 4000000
open Go.RowKit Go.Proofs.YtafiabekcekdbaaGreatK

def Same (f f':Nat→It):Prop:=∀ b,(f' b).id=(f b).id∧(f' b).key=(f b).key
section
variable {c : Cx} {N : Md c} {M : Me c} {d : Nat} {ty : TypeId} {pos : String} {af : Array Edge} {rest : List Oper} {E : Env} {D : List Deferred} {H H' : List Res} {v : Value} {x y : Operand} {t : TypeId} {S : Nat → Prop} {f : Nat → It}
end
end Go.Proofs.YtafiabekcekdbaaGreatQ


/-
  Package queue: a pile's Push and Pop.
-/
namespace Go.Proofs.YtafiabekcekdbaaGreatQ
set_option maxRecDepth 100000
set_option maxHeartbeats 4000000
open Go.RowKit Go.Proofs.YtafiabekcekdbaaGreatK

section
variable {B : Base} {w : World} {Φ Φ' Φ'' : List Res} {S S' : Nat → Prop} {f f' : Nat → It} {b : Nat}
theorem St.apart {r s:Res}(h:St B Φ w) (hp:Pick Φ r Φ') (hq:Pick Φ' s Φ'') {k:Nat}(hr:r.fp k):¬ s.fp k:=by
 have:=(h.perm (hp.perm.trans (hq.perm.cons _))).sep
 exact this.2.2.1 s List.mem_cons_self k hr
end

end Go.Proofs.YtafiabekcekdbaaGreatQ


/-
  Package queue: a pile's Pop; container/heap's up and down.
-/


/-
  container/heap over a pile: up and down.
-/
namespace Go.Proofs.YtafiabekcekdbaaGreatQ
set_option maxRecDepth 100000
set_option maxHeartbeats 4000000
open Go.RowKit Go.Proofs.YtafiabekcekdbaaGreatK

def ltB (f:Nat→It) (a b:Nat):Prop:=ltI (f a) (f b)
theorem Same.refl (f:Nat→It):Same f f:=fun _=>⟨rfl,rfl⟩
theorem Same.trans {f g h:Nat→It}(a:Same f g) (b:Same g h):Same f h:=fun k=>⟨(b k).1.trans (a k).1,(b k).2.trans (a k).2⟩
theorem Same.lt {f g:Nat→It}(h:Same f g):ltB g=ltB f:=by
 funext a b;unfold ltB ltI;rw [(h a).1,(h a).2,(h b).1,(h b).2]
end Go.Proofs.YtafiabekcekdbaaGreatQ


/-
  container/heap over a pile: Push, Pop, Remove.
-/


/-
  Package queue: queues, as sorted lists of ids and keys.
-/
namespace Go.Proofs.YtafiabekcekdbaaGreatQ
set_option maxRecDepth 100000
set_option maxHeartbeats 4000000
open Go.RowKit Go.Proofs.YtafiabekcekdbaaGreatK

def lt2 (a b:Int×Int):Prop:=a.2<b.2∨a.2=b.2∧a.1<b.1
instance (a b:Int×Int):Decidable (lt2 a b):=by unfold lt2;infer_instance
def Sorted (W:List (Int×Int)):Prop:=W.Pairwise lt2
def hd1:List (Int×Int)→Int
  | []=>0
  | x :: _=>x.1
def hd2:List (Int×Int)→Int
  | []=>0
  | x :: _=>x.2
theorem Sorted.filter {W:List (Int×Int)}(h:Sorted W) (p:Int×Int→Bool):Sorted (W.filter p):=List.Pairwise.sublist List.filter_sublist h
end Go.Proofs.YtafiabekcekdbaaGreatQ


/-
  Package queue: New and the methods, over sorted lists.
-/
/-
  Package cycle: members, On; the reference's On.
-/
namespace Go.Proofs.YtafiabekcekdbaaGreatG
set_option maxRecDepth 100000
set_option maxHeartbeats 4000000
open Go.RowKit Go.Proofs.YtafiabekcekdbaaGreatK Go.Proofs.YtafiabekcekdbaaGreatT Go.Proofs.YtafiabekcekdbaaGreatL

theorem RP_congr {g g':Graph}{f f':List Int}(hl:g.length=g'.length) (he:∀ a b,b ∈ endsOf g a→b ∈ endsOf g' a) (hf:∀ x,inG g x=true→x ∈ f→x ∈ f') {x:Int}(h:RP g f x):RP g' f' x:=by
 induction h with
 | start h1 h2=>exact .start (hf _ h2 h1) (by unfold inG at *;rw [← hl];exact h2)
 | step h1 h2 ih=>exact .step ih (he _ _ h2)
end Go.Proofs.YtafiabekcekdbaaGreatG


/-
  The reference's On; graphs turned: Turn, and the reference's Clean.
-/


/-
  Package digraph: Turn.
-/


/-
  Orders, plainly: the least that is free, time and again.
-/
namespace Go.Proofs.YtafiabekcekdbaaGreatG
set_option maxRecDepth 100000
set_option maxHeartbeats 4000000
open Go.RowKit Go.Proofs.YtafiabekcekdbaaGreatK Go.Proofs.YtafiabekcekdbaaGreatT Go.Proofs.YtafiabekcekdbaaGreatL

def fre (ed:Nat→Nat→Bool) (left:List Bool) (a:Nat):Bool:=left.getD a false && (List.range left.length).all fun b=>!(left.getD b false) || !(ed b a)
def nxt (ed:Nat→Nat→Bool) (left:List Bool):Option Nat:=(List.range left.length).find? (fre ed left)
def trues (left:List Bool):Nat:=(left.filter id).length
def gr (ed:Nat→Nat→Bool):Nat→List Bool→List Nat
  | 0,_=>[]
  | f+1,left=>match nxt ed left with
    | none=>[]
    | some a=>a :: gr ed f (left.set a false)
theorem trues_set {left:List Bool}{a:Nat}(h:left[a]?=some true):trues (left.set a false)+1=trues left:=by
 unfold trues
 induction left generalizing a with
 | nil=>simp at h
 | cons b left ih=>
  cases a with
  | zero=>simp at h;subst h;simp
  | succ a=>
   have:=ih (a:=a) (by simpa using h)
   cases b <;> simp_all
theorem getD_true {left:List Bool}{a:Nat}(h:left.getD a false=true):left[a]?=some true:=by
 rw [List.getD_eq_getElem?_getD] at h
 cases hv:left[a]? with
 | none=>rw [hv] at h;cases h
 | some v=>rw [hv] at h;simp at h;rw [h]
theorem fre_left {ed:Nat→Nat→Bool}{left:List Bool}{a:Nat}(h:fre ed left a=true):left[a]?=some true:=by
 unfold fre at h
 simp only [Bool.and_eq_true] at h
 exact getD_true h.1
theorem fre_iff {ed:Nat→Nat→Bool}{left:List Bool}{a:Nat} : fre ed left a=true↔left[a]?=some true∧∀ b,left[b]?=some true→ed b a=false:=by
 unfold fre
 simp only [Bool.and_eq_true,List.all_eq_true,List.mem_range,Bool.or_eq_true,Bool.not_eq_true']
 constructor
 · rintro ⟨h1,h2⟩
   refine ⟨getD_true h1,fun b hb=>?_⟩
   rcases h2 b (List.getElem?_eq_some_iff.1 hb).1 with h | h
   · rw [getD_at hb] at h;cases h
   · exact h
 · rintro ⟨h1,h2⟩
   refine ⟨by rw [getD_at h1],fun b hb=>?_⟩
   cases hv:left[b]? with
   | none=>rw [List.getElem?_eq_none_iff] at hv;omega
   | some v=>
    rw [getD_at hv]
    cases v with
    | false=>exact .inl rfl
    | true=>exact .inr (h2 b hv)
inductive Run (ed:Nat→Nat→Bool) (left0:List Bool):List Nat→List Bool→Prop
  | nil:Run ed left0 [] left0
  | snoc {out:List Nat}{left:List Bool}{a:Nat} : Run ed left0 out left→nxt ed left=some a→Run ed left0 (out++[a]) (left.set a false)
theorem nxt_left {ed:Nat→Nat→Bool}{left:List Bool}{a:Nat}(h:nxt ed left=some a):left[a]?=some true:=fre_left (List.find?_some h)
theorem gr_none {ed:Nat→Nat→Bool}{left:List Bool}(h:nxt ed left=none):∀ f,gr ed f left=[]
 | 0=>rfl
 | f+1=>by unfold gr;rw [h]
theorem Run.len {ed:Nat→Nat→Bool}{left0 left:List Bool}{out:List Nat}(h:Run ed left0 out left):left.length=left0.length∧out.length+trues left=trues left0:=by
 induction h with
 | nil=>simp
 | snoc h hn ih=>rw [List.length_set,List.length_append];have:=trues_set (nxt_left hn);simp;omega
theorem Run.gr {ed:Nat→Nat→Bool}{left0 left:List Bool}{out:List Nat}(h:Run ed left0 out left):gr ed (trues left0) left0=out++gr ed (trues left) left:=by
 induction h with
 | nil=>rfl
 | @snoc out left a h hn ih=>
  have h1:=trues_set (nxt_left hn)
  rw [ih,List.append_assoc,← h1]
  congr 1
  simp only [Go.Proofs.YtafiabekcekdbaaGreatG.gr,hn]
  rfl
theorem Run.done {ed:Nat→Nat→Bool}{left0 left:List Bool}{out:List Nat}(h:Run ed left0 out left) (hn:nxt ed left=none):out=Go.Proofs.YtafiabekcekdbaaGreatG.gr ed (trues left0) left0:=by
 rw [h.gr,gr_none hn,List.append_nil]
end Go.Proofs.YtafiabekcekdbaaGreatG


/-
  The reference's Order and Back.
-/


/-
  Kahn's order, plainly: how many are ahead of each; who waits.
-/
namespace Go.Proofs.YtafiabekcekdbaaGreatG
set_option maxRecDepth 100000
set_option maxHeartbeats 4000000
open Go.RowKit Go.Proofs.YtafiabekcekdbaaGreatK Go.Proofs.YtafiabekcekdbaaGreatT Go.Proofs.YtafiabekcekdbaaGreatL
open Go.Proofs.YtafiabekcekdbaaGreatQ (lt2)

def edW (w:Graph) (b a:Nat):Bool:=decide ((a:Int) ∈ w.getD b [])
def cnt (w:Graph) (left:List Bool) (c:Nat):Nat:=((List.range w.length).filter fun b=>left.getD b false && edW w b c).length
theorem filt_upd {p:Nat→Bool}{a:Nat} : ∀ {n:Nat},a<n→((List.range n).filter p).length=((List.range n).filter fun b=>p b && b != a).length+if p a then 1 else 0
 | 0,h=>by omega
 | n+1,h=>by
  rw [List.range_succ,List.filter_append,List.filter_append,List.length_append,List.length_append]
  by_cases e:a=n
  · subst e
    have:(List.range a).filter (fun b=>p b && b != a)=(List.range a).filter p:=List.filter_congr (fun b hb=>by have:=List.mem_range.1 hb;simp;intro _;omega)
    rw [this]
    cases hp:p a <;> simp [hp]
  · rw [filt_upd (p:=p) (a:=a) (n:=n) ZO]
    have:(fun b=>p b && b != a) n=p n:=by
     show (p n && n != a)=p n
     rw [show (n != a)=true by simp;omega,Bool.and_true]
    have e2 : [n].filter (fun b=>p b && b != a)=[n].filter p:=by
     rw [List.filter_cons,List.filter_cons]
     rw [show (p n && n != a)=p n from this];rfl
    rw [e2];omega
theorem set_getD {left:List Bool}{a b:Nat} : (left.set a false).getD b false=(left.getD b false && b != a):=by
 rw [List.getD_eq_getElem?_getD,List.getD_eq_getElem?_getD,List.getElem?_set]
 by_cases e:a=b
 · subst e;rw [if_pos rfl];split <;> simp
 · rw [if_neg e,show (b != a)=true by simp;omega,Bool.and_true]
theorem cnt_set {w:Graph}{left:List Bool}(hl:left.length=w.length) {a:Nat}(h:left[a]?=some true) (c:Nat):cnt w left c=cnt w (left.set a false) c+if edW w a c then 1 else 0:=by
 have ha:=(List.getElem?_eq_some_iff.1 h).1
 unfold cnt
 rw [filt_upd (a:=a) ZO]
 rw [getD_at h,Bool.true_and]
 congr 2
 exact List.filter_congr (fun b hb=>by rw [set_getD];cases left.getD b false <;> cases edW w b c <;> simp)
theorem Run.clear {ed:Nat→Nat→Bool}{left0 left:List Bool}{out:List Nat}(h:Run ed left0 out left):∀ c:Nat,left0[c]?=some true→left[c]?=some true∨∀ b:Nat,left[b]?=some true→ed b c=false:=by
 induction h with
 | nil=>exact fun c hc=>.inl hc
 | @snoc out left a h hn ih=>
  have hfa:=fre_iff.1 (List.find?_some hn)
  have hsub:∀ b:Nat,(left.set a false)[b]?=some true→left[b]?=some true:=by
   intro b hb
   rw [List.getElem?_set] at hb
   split at hb
   · split at hb <;> cases hb
   · exact hb
  intro c hc
  by_cases e:c=a
  · subst e;exact .inr (fun b hb=>hfa.2 b (hsub b hb))
  · rcases ih c hc with h1 | h1
    · left;rw [List.getElem?_set,if_neg (fun x=>e x.symm)];exact h1
    · exact .inr (fun b hb=>h1 b (hsub b hb))
end Go.Proofs.YtafiabekcekdbaaGreatG


/-
  Package cycle: order's closures, drain.
-/


/-
  Package cycle: drain, order.
-/


/-
  Package cycle: order.
-/


/-
  Package cycle: Order, Back; the reference's Back.
-/
namespace Go.Proofs.YtafiabekcekdbaaGreatO
set_option maxRecDepth 100000
set_option maxHeartbeats 4000000
open Go.RowKit Go.Proofs.YtafiabekcekdbaaGreatK Go.Proofs.YtafiabekcekdbaaGreatT Go.Proofs.YtafiabekcekdbaaGreatL Go.Proofs.YtafiabekcekdbaaGreatV Go.Proofs.YtafiabekcekdbaaGreatG Go.Proofs.YtafiabekcekdbaaGreatW

theorem rng_In {B:Base}{w:World}(hS:St B [] w) (f:ApiFunc) (fc:List Value) (hf:kApiFunc.K B.e f fc) (i:Int) :
 CW 103 #[.agg fc.toArray,.int .i64 i] w (Ret B (fun _:Unit=>True) (fun _=>.bool (inR f i)) (fun _=>[])):=by
 obtain ⟨A0,c0,A1,c1,A2,c2,A3,c3,rfl,l0,g0,l1,g1,l2,g2,l3,g3⟩:=kApiFunc_open hf
 refine ZX Tryz.func103 hS ?_
 refine Zh (Zi (oBox J ZP (fun b2=>?_)))
 refine Zp J (Zn (Za (Zh (Zi (Zz (n:=4) (m:=4) J J J (Zld ?_))))))
 refine Zo J (oLeq J J (Zo J (ZS (ZT 9) (fun h9=>?_) (fun h9=>?_))))
 refine Zq J J (Zo J (Zq J J (Zz (n:=5) (m:=5) J J J (Zzf ?_))))
 refine Zq J J (Zx J J (Zt J J (Zza ?_)))
 exact ⟨(),trivial,by simp_all [resVal,inR] <;> omega,Lh⟩
 refine Zr J J J J (Zr J J J J (Zzp ?_))
 exact ⟨(),trivial,by simp_all [resVal,inR] <;> omega,Lh⟩
theorem rng_Marks {B:Base}{w:World}(hS:St B [] w) (A:Option Addr) (cp:Nat) (code:List ApiInstr) (hC:kApiInstr.C B.e A code) (hl:code.length≤100000) (W0:World) :
 CW 144 #[.slice A code.length cp] w (Ret B (fun _:Option Addr×Nat=>True) (fun z=>.slice z.1 (dfr code code.length).length z.2) (fun z=>[row (Kd.int .i64) W0 3 (.slice z.1 (dfr code code.length).length z.2) (dfr code code.length)])):=by
 refine ZX Tryz.func144 hS ?_
 refine Zh (Zi (Zp J (Zn (Za (Zh (Zi (Zp J (Zn (Za (Zh (Zh (Zi (Zo J (Zv J J (Zo J (Zn (Za (Zk (wLoop (ι:=Nat×Option Addr×Nat) (fun z=>[(3,.slice z.2.1 (dfr code z.1).length z.2.2),(6,.slice A code.length cp),(7,.int .i64 (code.length:Int)),(8,.int .i64 (z.1:Int))]) (fun z=>[row (Kd.int .i64) W0 3 (.slice z.2.1 (dfr code z.1).length z.2.2) (dfr code z.1)]) (fun z=>z.1≤code.length) (fun z=>code.length-z.1) (0,none,0) ?_ cv (Leads.nilrow.trans Lh) ?_)))))))))))))))))))
 exact Nat.zero_le _
 rintro ⟨i,A2,c2⟩ hi
 dsimp only at hi
 have hle:=dfr_len code i
 try dsimp only
 refine Zh (Zi (Zx J J (Zn (Za (Zh (wC (fun h9=>?_) (fun h9=>?_)))))))
 obtain ⟨x,hx⟩:∃ x,code[i]?=some x:=⟨_,List.getElem?_eq_getElem ZO⟩
 obtain ⟨e1,cs1,hE⟩:=hC.elm hx
 obtain rfl:=kApiInstr_open hE.K
 have hdp:=dP_at hx
 refine Zj (Za (Zh (Zk (Zh (Zi (Zo J (oIdxE J J (hE) ZO J J ?_)))))))
 have hc11:=(hE).cell
 refine Zlx hc11 ?_
 refine oAlloc J ZP (fun b5=>?_)
 refine Zp J (Zsa ?_)
 refine Zn (Za (Zh (Zi (Zz (n:=0) (m:=0) J J J (Zld ?_)))))
 refine Zy J J (Zn (Za (wC (fun h15=>?_) (fun h15=>?_))))
 refine Zi (Zo J (Zo J (oBuildSlice1 J J J J J ZP J (fun b18=>?_))))
 refine oApp1 (i:Int) J J J J ZP ZP J ZO J (fun g19 cp19=>?_)
 have hft:dfr code (i+1)=dfr code i++[(i:Int)]:=by rw [dfr_succ,hdp,if_pos (by simpa using h15)]
 rw [show (dfr code i).length+1=(dfr code (i+1)).length by rw [hft,List.length_append];rfl,← hft]
 refine Zp J (Zn (Zzi ?_))
 refine Zo J (Zn (Za ?_))
 exact ⟨rfl,(i+1,some ⟨g19,0,none⟩,cp19),by show i+1≤_;omega,by show code.length-(i+1)<code.length-i;omega,cv,Lh⟩
 refine Zj (Zzi ?_)
 refine Zo J (Zn (Za ?_))
 have hft:dfr code (i+1)=dfr code i:=by rw [dfr_succ,hdp,if_neg (by simpa using h15),List.append_nil]
 exact ⟨rfl,(i+1,A2,c2),by show i+1≤_;omega,by show code.length-(i+1)<code.length-i;omega,by dsimp only;rw [hft];exact cv,by dsimp only;rw [hft];exact Lh⟩
 obtain rfl:i=code.length:=by omega
 refine Zm (Zzr ?_)
 exact ⟨(A2,c2),trivial,rfl,Lh⟩
theorem compact_le (zs:List Int):(Lib.compact zs).length≤zs.length:=by
 unfold Lib.compact Lib.compactUpTo
 rw [List.length_map]
 exact Nat.le_trans (List.length_filter_le _ _) (by simp)
theorem nextF_len (code:List ApiInstr) (i:Int):(nextF code i).length≤2:=by
 unfold nextF nextL
 split
 · simp
 · refine Nat.le_trans (compact_le _) ?_
   rw [List.length_mergeSort]
   exact nextR_len _ _
theorem mem_next {x:ApiInstr}{i y:Int} : y ∈ nextL x i↔y ∈ Go.Proofs.YtafiabekcekdbaaGreatV.rnext x i:=by
 have h:=rnext_any x i (fun z=>decide (z=y))
 have e:∀ l:List Int,y ∈ l↔l.any (fun z=>decide (z=y))=true:=fun l=>by simp
 rw [show (y ∈ nextL x i)=(y ∈ nextR x i) from propext ((sorted_spec _).2 y),e,e,h]
theorem nextF_at {code:List ApiInstr}{k:Nat}(hk:k<code.length):nextF code (k:Int)=nextL (code.getD k default) (k:Int):=by
 unfold nextF
 rw [if_neg ZO,Int.toNat_natCast]
def fromP (code:List ApiInstr) (ks:List Nat):List Int:=(ks.map fun k:Nat=>nextF code (k:Int)).flatten
theorem fromP_len (code:List ApiInstr):∀ marks:List Nat,(fromP code marks).length≤2 * marks.length
 | []=>by simp [fromP]
 | k :: marks=>by
  have h:=fromP_len code marks
  have h2:=nextF_len code (k:Int)
  unfold fromP at *
  rw [List.map_cons,List.flatten_cons,List.length_append,List.length_cons]
  omega
theorem fromP_snoc (code:List ApiInstr) (marks:List Nat) (k:Nat):fromP code (marks++[k])=fromP code marks++nextF code (k:Int):=by
 unfold fromP;simp
theorem mem_fromP {code:List ApiInstr}{ks:List Nat}(hk:∀ k ∈ ks,k<code.length) {y:Int} : y ∈ fromP code ks↔y ∈ fromL code ks:=by
 unfold fromP fromL
 simp only [List.mem_flatten,List.mem_map]
 constructor
 · rintro ⟨l,⟨k,h1,rfl⟩,h2⟩
   rw [nextF_at (hk k h1)] at h2
   exact ⟨_,⟨k,h1,rfl⟩,mem_next.1 h2⟩
 · rintro ⟨l,⟨k,h1,rfl⟩,h2⟩
   exact ⟨_,⟨k,h1,rfl⟩,by rw [nextF_at (hk k h1)];exact mem_next.2 h2⟩
theorem graph_ends {code:List ApiInstr}{a:Nat}{b:Int} : b ∈ endsOf (graphF code) a↔b ∈ endsOf (rg code) a:=by
 unfold endsOf
 rw [List.mem_filter,List.mem_filter,show inG (graphF code) b=inG (rg code) b by unfold inG;rw [graphF_len,rg_len]]
 by_cases ha:a<code.length
 · rw [show (graphF code).getD a [] = nextF code (a : Int) by unfold graphF; rw [List.getD_eq_getElem?_getD, List.getElem?_map, List.getElem?_range ha]; rfl,
    show (rg code).getD a []=Go.Proofs.YtafiabekcekdbaaGreatV.rnext (code.getD a default) (a:Int) by unfold rg;rw [List.getD_eq_getElem?_getD,List.getElem?_map,List.getElem?_range ha];rfl,nextF_at ha,mem_next]
 · rw [List.getD_eq_getElem?_getD,List.getD_eq_getElem?_getD,List.getElem?_eq_none (by rw [graphF_len];omega),List.getElem?_eq_none (by rw [rg_len];omega)]
theorem RP_same {code:List ApiInstr}{ks:List Nat}(hk:∀ k ∈ ks,k<code.length) {y:Int} : RP (graphF code) (fromP code ks) y↔RP (rg code) (fromL code ks) y:=
 ⟨RP_congr (by rw [graphF_len,rg_len]) (fun a b=>graph_ends.1) (fun x _=>(mem_fromP hk).1),RP_congr (by rw [graphF_len,rg_len]) (fun a b=>graph_ends.2) (fun x _=>(mem_fromP hk).2)⟩
theorem gf_small {code:List ApiInstr}(h:code.length≤1000):SmallG (graphF code):=by
 refine ⟨by rw [graphF_len];exact h,fun l hl=>?_⟩
 unfold graphF at hl
 obtain ⟨k,_,rfl⟩:=List.mem_map.1 hl
 exact Nat.le_trans (nextF_len _ _) (by decide)
theorem flow_After {B:Base}{w:World}(hS:St B [] w) (A:Option Addr) (cp:Nat) (code:List ApiInstr) (hC:kApiInstr.C B.e A code) (hl:code.length≤1000) (A1:Option Addr) (cp1:Nat) (ks:List Nat) (hC1:(Kd.int .i64).C B.e A1 (ks.map fun k=>((k:Nat):Int))) (hk:∀ k ∈ ks,k<code.length) (hn:ks.length≤500) (W0:World) :
 CW 143 #[.slice A code.length cp,.slice A1 ks.length cp1] w
  (Ret B (fun z:Option Addr×Nat×List Bool=>z.2.2.length=code.length∧∀ i:Nat,z.2.2[i]?=some true↔RP (rg code) (fromL code ks) (i:Int)) (fun z=>.slice z.1 code.length z.2.1) (fun z=>[row Kd.bool W0 4 (.slice z.1 code.length z.2.1) z.2.2])):=by
 refine ZX Tryz.func143 hS ?_
 refine Zh (Zi (Zp J (Zn (Za (Zh (Zi (Zp J (Zn (Za (Zh (Zh (Zi (Zo J (Zv J J (Zo J (Zn (Za (Zk (wLoop (ι:=Nat×Option Addr×Nat) (fun z=>[(0,.slice A code.length cp),(5,.slice z.2.1 (fromP code (ks.take z.1)).length z.2.2),(8,.slice A1 ks.length cp1),(9,.int .i64 (ks.length:Int)),(10,.int .i64 (z.1:Int))]) (fun z=>[row (Kd.int .i64) W0 3 (.slice z.2.1 (fromP code (ks.take z.1)).length z.2.2) (fromP code (ks.take z.1))]) (fun z=>z.1≤ks.length) (fun z=>ks.length-z.1) (0,none,0) ?_ cv (Leads.nilrow.trans Lh) ?_)))))))))))))))))))
 exact Nat.zero_le _
 rintro ⟨i,A2,c2⟩ hi
 dsimp only at hi
 have hle:=fromP_len code (ks.take i)
 rw [List.length_take] at hle
 try dsimp only
 refine Zh (Zi (Zx J J (Zn (Za (Zh (wC (fun h11=>?_) (fun h11=>?_)))))))
 obtain ⟨k,hki⟩:∃ k,ks[i]?=some k:=⟨_,List.getElem?_eq_getElem ZO⟩
 have hkl:=hk k (List.mem_of_getElem? hki)
 obtain ⟨e1,cs1,hE⟩:=hC1.elm (i:=i) (u:=(k:Int)) (by rw [List.getElem?_map,hki];rfl)
 obtain rfl:=(show cs1=[Value.int .i64 (k:Int)] from hE.K)
 have hft:fromP code (ks.take (i+1))=fromP code (ks.take i)++nextF code (k:Int):=by rw [List.take_add_one,hki];show fromP code (ks.take i++[k])=_;rw [fromP_snoc]
 have hrl:=nextF_len code (k:Int)
 refine Zj (Za (Zh (Zk (Zh (Zi (oIdxE J J (hE) ZO J J ?_))))))
 have hc12:=(hE).cell
 refine Zlx hc12 ?_
 refine Zp J (Zn (Za (Zi (Zo J (Zo J (Zo J ?_))))))
 (refine ZC0 rfl ZK (fun w hS=>frame hS ZQ (fun B' hB hS'=>flow_Next hS' A cp code (Kd.C_grow hB hC) (k:Int) W0)) ?_;rintro ⟨A17,c17⟩ -)
 refine oAppA (kd:=Kd.int .i64) (W:=W0) (xs:=fromP code (ks.take i)) (ys:=nextF code (k:Int)) J J J J ZP J (fun w hw=>src_row (e:=3) (n:=(nextF code (k:Int)).length) (cp:=c17) (hw.get ZP)) ZO J (fun A18 c18 hc18=>?_)
 rw [← hft,show (fromP code (ks.take i)).length+(nextF code (k:Int)).length=(fromP code (ks.take (i+1))).length by rw [hft,List.length_append]]
 refine Zp J (Zn (Zzi ?_))
 refine Zo J (Zn (Za ?_))
 exact ⟨rfl,(i+1,A18,c18),by show i+1≤_;omega,by show ks.length-(i+1)<ks.length-i;omega,cv,Lh⟩
 obtain rfl:i=ks.length:=by omega
 rw [List.take_length] at *
 refine Zm (Zb (Zb (Ze (Zzm ?_))))
 (refine ZC0 rfl ZK (fun w hS=>frame hS ZQ (fun B' hB hS'=>flow_graph hS' A cp code (Kd.C_grow hB hC) ZO B.e)) ?_;rintro ⟨A21,c21,hs21⟩ hl21)
 refine ZS0 (t:=21) (v':=.slice A21 (graphF code).length c21) rfl (by rw [graphF_len]) ?_
 refine Zo J ?_
 (refine ZD J (fun w B' hB hR hS'=>reach_any hS' (graphF code) A21 c21 (grid_C (hR _ _ ZP) (hR _ _ ZP) (by rw [graphF_len];exact hl21) hB) (gf_small hl) (fromP code ks) A2 c2 (row_Cs (W:=W0) (e:=3) (n:=(fromP code ks).length) (cp:=c2) (hR _ _ ZP)) ZO W0) ?_;rintro ⟨A23,c23,l23⟩ ⟨h23a,h23b⟩)
 dsimp only at h23a h23b ⊢
 rw [graphF_len] at h23a ⊢
 refine Zp J (Zzk ?_)
 exact ⟨(A23,c23,l23),⟨h23a,fun i=>(h23b i).trans (RP_same hk)⟩,rfl,Lh⟩
open Classical in
noncomputable def pP (code:List ApiInstr) (k:Nat):Bool:=decide (RP (rg code) (fromL code (dfrN code)) (k:Int))
open Classical in
theorem pP_iff {code:List ApiInstr}{k:Nat} : pP code k=true↔RP (rg code) (fromL code (dfrN code)) (k:Int):=by unfold pP;exact decide_eq_true_iff
theorem pP_no {code:List ApiInstr}{k:Nat}(h:¬ RP (rg code) (fromL code (dfrN code)) (k:Int)):pP code k=false:=Bool.eq_false_iff.2 (fun e=>h (pP_iff.1 e))
noncomputable def pFrom (code:List ApiInstr) (i:Nat):List Int:=(((List.range code.length).drop i).filter (pP code)).map fun k:Nat=>(k:Int)
theorem pn_T {code:List ApiInstr}{i:Nat}(hi:i<code.length) (h:pP code i=true):pFrom code i=(i:Int) :: pFrom code (i+1):=by
 unfold pFrom
 rw [List.drop_eq_getElem_cons (by simpa using hi),List.getElem_range,List.filter_cons,if_pos h,List.map_cons]
theorem pn_F {code:List ApiInstr}{i:Nat}(hi:i<code.length) (h:pP code i=false):pFrom code i=pFrom code (i+1):=by
 unfold pFrom
 rw [List.drop_eq_getElem_cons (by simpa using hi),List.getElem_range,List.filter_cons,if_neg (by rw [h];simp)]
theorem pn_end (code:List ApiInstr):pFrom code code.length=[]:=by unfold pFrom;rw [List.drop_of_length_le (by simp)];rfl
theorem mem_pn {code:List ApiInstr}{x:Int} : x ∈ pFrom code 0↔∃ k:Nat,x=(k:Int)∧k<code.length∧RP (rg code) (fromL code (dfrN code)) (k:Int):=by
 unfold pFrom
 rw [List.drop_zero]
 simp only [List.mem_map,List.mem_filter,List.mem_range]
 constructor
 · rintro ⟨k,⟨h1,h2⟩,rfl⟩;exact ⟨k,rfl,h1,pP_iff.1 h2⟩
 · rintro ⟨k,rfl,h1,h2⟩;exact ⟨k,⟨h1,pP_iff.2 h2⟩,rfl⟩
theorem pending_any {B:Base}{w:World}(hS:St B [] w) (A:Option Addr) (n cp:Nat) :
 CW 102 #[.slice A n cp] w (Ret B (fun _:Nat=>True) (fun b=>.func (.func 142) #[] #[.pointer (some ⟨b,0,none⟩)]) (fun b=>[blk b 54 [.slice A n cp]])):=by
 refine ZX Tryz.func102 hS ?_
 refine Zh (Zi (oBox J ZP (fun b1=>?_)))
 refine Zp J (Zn (Za (Zh (Zi (oMakeFunc J (Zza ?_))))))
 exact ⟨b1,trivial,rfl,Lh⟩
theorem pending1 {B:Base}(A:Option Addr) (cp:Nat) (code:List ApiInstr) (hC:kApiInstr.C B.e A code) (hl0:code.length≤500) (x1:Nat) :
 IterC Tryz.prog 142 #[.pointer (some ⟨x1,0,none⟩)] B ((pFrom code 0).map intV) [blk x1 54 [.slice A code.length cp]]:=by
 have hdl:(dfrN code).length≤500:=Nat.le_trans (List.length_filter_le _ _) (by simpa using hl0)
 intro lp AI Ax r0 w hbody hA hS
 show CW 142 #[.func (.yield lp) #[] #[],.pointer (some ⟨x1,0,none⟩)] w _
 refine ZX Tryz.func142 hS ?_
 refine Zh (wDrawG J [0,1,5] [(2,[0,5],[]),(3,[5],[4])] [] 24 ZK J J (fun w0=>?_))
 refine Zld ?_
 refine Zld ?_
 refine Zo J (Z4 (Z5 J ?_))
 (refine ZC0 rfl ZK (fun w hS=>frame hS ZQ (fun B' hB hS'=>rng_Marks hS' A cp code (Kd.C_grow hB hC) ZO B.e)) ?_;rintro ⟨A7,c7⟩ -)
 refine ZS0 (t:=7) (v':=.slice A7 (dfrN code).length c7) rfl (by rw [dfr_N,List.length_map]) ?_
 refine ZG ?_ J (fun w0=>?_)
 refine Z8 J J J J (fun w0=>?_) ?_
 refine Zld ?_
 exact Z9 rfl
 refine Z8 J J J J (fun w0=>?_) ?_
 refine Zo J ?_
 exact Z9 rfl
 exact AgainG.nil
 refine Z4 (Z5 J ?_)
 (refine ZD J (fun w B' hB hR hS'=>flow_After hS' A cp code (Kd.C_grow hB hC) ZO A7 c7 (dfrN code) (row_Cs (W:=B.e) (e:=3) (n:=(dfr code code.length).length) (cp:=c7) (hR _ _ ZP)) (fun k hk=>dfrN_lt hk) hdl B.e) ?_;rintro ⟨A8,c8,l8⟩ ⟨h8a,h8b⟩)
 dsimp only at h8a h8b
 refine ZG ?_ J (fun w0=>?_)
 refine Z8 J J J J (fun w0=>?_) ?_
 refine Zo J ?_
 exact Z9 rfl
 exact AgainG.nil
 refine Zv J J (Z6 (Zn (Za (Zk (wLoop (ι:=Nat×Nat×Res) (fun z=>[(0,.func (.yield lp) #[] #[]),(1,.pointer (some ⟨x1,0,none⟩)),(8,.slice A8 code.length c8),(9,.int .i64 (code.length:Int)),(10,.int .i64 (z.1:Int))]) (fun z=>[z.2.2,blk x1 54 [.slice A code.length cp],row Kd.bool B.e 4 (.slice A8 code.length c8) l8]) (fun z=>z.1≤code.length∧z.2.1≤(pFrom code 0).length∧AI z.2.1 z.2.2∧(pFrom code 0).drop z.2.1=pFrom code z.1) (fun z=>code.length-z.1) (0,0,r0) ?_ cv (Leads.has ZQ) ?_)))))
 exact ⟨Nat.zero_le _,Nat.zero_le _,hA,rfl⟩
 rintro ⟨i,j,r⟩ ⟨hi,hj,hA,hd⟩
 dsimp only at hi hj hA hd
 try dsimp only
 refine Zh (Zi (Zx J J (Zn (Za (Zh (wC (fun h11=>?_) (fun h11=>?_)))))))
 have hil:i<code.length:=by omega
 refine Zj (Za (Zh (Zk (Zh (Zi (Zo J (ZR J J ZP ZO J J (fun g13 hg13=>?_))))))))
 first | subst hg13 | (injection hg13 with hg13;injection hg13 with hg13;subst hg13)
 refine ZR1 J ZP ZO J (fun u14 hu14=>?_)
 refine Zp J (Zp J (Zn (Za (Zh (Zi (Zo J (Zo J (ZS (ZT 16) (fun h16=>?_) (fun h16=>?_)))))))))
 have hct:pP code i=true:=pP_iff.2 ((h8b i).1 (by rw [hu14];simp_all))
 rw [pn_T hil hct] at hd
 obtain ⟨hjlt,hjg,hjd⟩:=drop_cons hd
 have hY:∀ Fr W1,St B (r :: Fr) W1→YieldAt Fence.wide 0 Tryz.prog lp (intV (i:Int)).toArray W1 (YEnd B j AI Ax Fr):=by
  intro Fr W1 h1
  have:=hbody j (by simpa using hjlt) r Fr W1 hA h1
  rwa [List.getElem_map,hjg] at this
 refine Zq J J (Zo J (Zq J J (Zo J (Zq J J (oYield J J J (fun w hS=>hY _ w (hS.perm (Pick.perm ZP))) ?_)))))
 rintro ⟨bb,r'⟩ hr'
 dsimp only at hr' ⊢
 refine Zq J J (Zno ?_)
 refine Zt J J (Zn (Za (wC (fun h21=>?_) (fun h21=>?_))))
 refine Zl (Zf (Zc (Zc (Zf (Zw ?_)))))
 refine ⟨rfl,_,ResL.nil,?_⟩
 exact ⟨r',.inr ⟨j,by simpa using hjlt,by rw [if_neg (by simpa using h21)] at hr';exact hr'⟩,rfl,Lh⟩
 refine Zj (Zzi ?_)
 refine Zo J (Zn (Za ?_))
 exact ⟨rfl,(i+1,j+1,r'),⟨by show i+1≤_;omega,hjlt,by rw [if_pos (by simpa using h21)] at hr';exact hr',hjd⟩,by show code.length-(i+1)<code.length-i;omega,cv,Lh⟩
 refine Zr J J J J (Zr J J J J (Zr J J J J (Zr J J J J (Zu J J (Zn (Za (wCondF J (Zj (Zzi ?_)))))))))
 refine Zo J (Zn (Za ?_))
 exact ⟨rfl,(i+1,j,r),⟨by show i+1≤_;omega,hj,hA,by rw [hd,pn_F hil (pP_no (fun hr=>by have:=(h8b i).2 hr;rw [hu14] at this;simp_all))]⟩,by show code.length-(i+1)<code.length-i;omega,cv,Lh⟩
 refine Zm (Zb (Zb (Ze (fin_n ?_))))
 refine ⟨rfl,_,ResL.nil,?_⟩
 have hjj:j=((pFrom code 0).map intV).length:=by
  obtain rfl:i=code.length:=by omega
  rw [pn_end] at hd
  have:=List.drop_eq_nil_iff.1 hd
  rw [List.length_map];omega
 exact ⟨r,.inl (hjj ▸ hA),rfl,Lh⟩
theorem rng_Check {B:Base}{w:World}(hS:St B [] w) (f:ApiFunc) (fc:List Value) (hf:kApiFunc.K B.e f fc) (hl0:f.fCode.length≤500) :
 CW 69 #[.agg fc.toArray] w (Ret B (fun _:Unit=>True) (fun _=>.int .i64 (rangeF f)) (fun _=>[])):=by
 obtain ⟨A0,c0,A1,c1,A2,c2,A3,c3,rfl,l0,g0,l1,g1,l2,g2,l3,g3⟩:=kApiFunc_open hf
 (refine enterM Tryz.func69 J J hS ?_;simp only [List.zipIdx_cons,List.zipIdx_nil,List.map_cons,List.map_nil,Nat.reduceAdd,Nat.zero_add])
 refine Zh (Zi (oBox J ZP (fun b1=>?_)))
 refine oAlloc J ZP (fun b2=>?_)
 refine Zn (Za (Zh (Zh (Zi (Zz (n:=7) (m:=7) J J J (Zld ?_))))))
 (refine ZC0 rfl ZK (fun w hS=>frame hS ZQ (fun B' hB hS'=>pending_any hS' A2 f.fCode.length c2)) ?_;rintro x1 -)
 refine Zn (Za (Zk ?_))
 refine wRange rfl rfl ZK (pending1 A2 c2 f.fCode g2 hl0 x1) (by rintro _ h;obtain ⟨y,_,rfl⟩:=List.mem_map.1 h;rfl) rfl (ι:=Nat) (κ:=Unit) (fun j z=>z=j∧∀ y ∈ (pFrom f.fCode 0).take z,inR f y=true) (fun z=>[blk b1 57 [.int .i64 f.fClass,.slice A0 f.fKinds.length c0,.int .i64 f.fPad,.bool f.fNosplit,.int .i64 f.fFrom,.int .i64 f.fTo,.slice A1 f.fLines.length c1,.slice A2 f.fCode.length c2,.slice A3 f.fRelocs.length c3],blk b2 29 [.int .i64 0]]) (fun x z=>x=.ret∧outR f) (fun x z=>[blk b1 57 [.int .i64 f.fClass,.slice A0 f.fKinds.length c0,.int .i64 f.fPad,.bool f.fNosplit,.int .i64 f.fFrom,.int .i64 f.fTo,.slice A1 f.fLines.length c1,.slice A2 f.fCode.length c2,.slice A3 f.fRelocs.length c3],blk b2 29 [.int .i64 9]]) 0 ⟨rfl,by simp⟩ (Leads.has ZQ) ?_ ?_ ?_
 intro lp0 B' R1 R2 j hj
 rintro i hB ⟨rfl,hn⟩
 have hf:=kApiFunc.K_grow hB hf
 have hj':i<(pFrom f.fCode 0).length:=by simpa using hj
 have htk:(pFrom f.fCode 0).take (i+1)=(pFrom f.fCode 0).take i++[(pFrom f.fCode 0)[i]]:=List.take_succ_eq_append_getElem hj'
 have hym:(pFrom f.fCode 0)[i] ∈ pFrom f.fCode 0:=List.getElem_mem hj'
 rw [List.getElem_map]
 generalize (pFrom f.fCode 0)[i]=y at *
 dsimp only [hand,intV]
 refine Zi (Zp J (Zn (aq_n ZP ?_)))
 refine Zk (Zzs ?_)
 refine Zo J ?_
 (refine ZC0 rfl ZK (fun w hS=>frame hS ZQ (fun B' hB hS'=>rng_In hS' f _ (kApiFunc.K_grow hB hf) y)) ?_;rintro ⟨⟩ -)
 refine Zno ?_
 refine Zn (Za (wC (fun h11=>?_) (fun h11=>?_)))
 refine Zh (Zi (Zst ?_))
 refine Zn (Za (Zl (Zf (rq_r ?_))))
 exact ⟨(),⟨rfl,by obtain ⟨k,rfl,h1,h2⟩:=mem_pn.1 hym;exact ⟨k,h1,h2,by simp_all⟩⟩,Lh⟩
 refine Zj (Zd (rq_n ?_))
 exact ⟨i+1,⟨rfl,by rw [htk];intro u hu;rcases List.mem_append.1 hu with h | h;exact hn u h;rw [List.mem_singleton.1 h];simp_all⟩,Lh⟩
 rintro i Dm0 ⟨rfl,hn⟩
 rw [List.length_map,List.take_length] at hn
 have ho:¬ outR f:=fun ⟨k,hk,hr,hb⟩=>by rw [hn _ (mem_pn.2 ⟨k,rfl,hk,hr⟩)] at hb;cases hb
 try dsimp only
 refine Zd (Za (Zh (Zi (Zst ?_))))
 refine Zn (Za (Zl ?_))
 refine finM_r (Ds:=[Dm0]) rfl ZQ (ResL.cons (by first | exact ResR.cell rfl ZP rfl | exact ResR.agg rfl ZP rfl rfl) ResL.nil) ?_
 first | exact ⟨(),trivial,by unfold rangeF;rw [if_neg ho];rfl,Lh⟩ | exact ⟨(),trivial,by unfold rangeF;rw [if_pos ho];rfl,Lh⟩
 rintro x ⟨⟩ Dm0 ⟨rfl,ho⟩
 try dsimp only
 refine Zl (Zf (Zc ?_))
 refine finM_r (Ds:=[Dm0]) rfl ZQ (ResL.cons (by first | exact ResR.cell rfl ZP rfl | exact ResR.agg rfl ZP rfl rfl) ResL.nil) ?_
 first | exact ⟨(),trivial,by unfold rangeF;rw [if_neg ho];rfl,Lh⟩ | exact ⟨(),trivial,by unfold rangeF;rw [if_pos ho];rfl,Lh⟩
theorem fst2 (a y:Int):fstE [a,y]=if a≠0 then a else y:=by
 have h:=fst_drop (l:=[a,y]) (i:=0) rfl
 have h2:=fst_drop (l:=[a,y]) (i:=1) rfl
 rw [List.drop_zero] at h
 rw [h,h2]
 by_cases h3:y=0
 · subst h3;simp [fstE]
 · rw [if_pos h3]
theorem fstW (b:Bool) (y:Int):fstE [whenF b 14,y]=if b=true then 14 else y:=by
 rw [fst2]
 unfold whenF
 cases b <;> simp
theorem obj_item {B:Base}{w:World}(hS:St B [] w) (o:ApiObject) (oc:List Value) (ho:kApiObject.K B.e o oc) (hg:GoodO o) (i:Nat) (hi:i<o.fFuncs.length+o.fDatas.length) :
 CW 32 #[.agg oc.toArray,.int .i64 (i:Int)] w (Ret B (fun _:Unit=>True) (fun _=>.int .i64 (itemE o i)) (fun _=>[])):=by
 obtain ⟨A0,c0,A1,c1,A2,c2,rfl,m0,q0,m1,q1,m2,q2⟩:=kApiObject_open ho
 have hn0:=hg.syms
 have hn1:=hg.funcs
 have hn2:=hg.datas
 refine ZX Tryz.func32 hS ?_
 refine Zh (Zi (oBox J ZP (fun b2=>?_)))
 refine Zp J (Zn (Za (Zzs ?_)))
 refine Zo J ?_
 (refine ZC0 rfl ZK (fun w hS=>frame hS ZQ (fun B' hB hS'=>obj_Definer hS' o _ (kApiObject.K_grow hB ho) hg (i:Int))) ?_;rintro ⟨⟩ -)
 refine Zp J (Zn (Za (Zh (Zh (Zi (Zo J (Zx J J (Zn (Za (wC (fun h15=>?_) (fun h15=>?_)))))))))))
 refine Zh (Zi (Zzc ?_))
 exact ⟨(),trivial,by unfold itemE;rw [if_pos h15];rfl,Lh⟩
 have h15:¬ definerF o (i:Int)<0:=h15
 obtain ⟨k,x,hk,hx,-⟩:=definer_at (show 0≤definerF o (i:Int) by omega)
 have hkl:=(List.getElem?_eq_some_iff.1 hx).1
 obtain ⟨e1,cs1,hE⟩:=q0.elm hx
 obtain rfl:=kApiSymbol_open hE.K
 have hdk:dKind o i=x.fKind:=by unfold dKind;rw [hk,Int.toNat_natCast,List.getD_eq_getElem?_getD,hx];rfl
 refine Zj (Za (Zh (Zh (Zi (Zo J (Zz (n:=1) (m:=1) J J J (Zld ?_)))))))
 refine Zv J J ?_
 first | refine oSub rfl rfl ZO ?_ | refine oSubW rfl rfl ?_
 refine Zp J (Zn (Za (Zh (Zi (Zo J (Z2 J J (Zn (Za (wC (fun h22=>?_) (fun h22=>?_))))))))))
 have hif:o.fFuncs.length≤i:=by omega
 obtain ⟨d,hd⟩:∃ d,o.fDatas[i-o.fFuncs.length]?=some d:=⟨_,List.getElem?_eq_getElem ZO⟩
 obtain ⟨e2,cs2,hE2⟩:=q2.elm hd
 obtain ⟨D0,d0,D1,d1,rfl,n0,r0,n1,r1⟩:=kApiData_open hE2.K
 have hgd:=hg.data d (List.mem_of_getElem? hd)
 have hvd:=hg.v.2.2.2 d (List.mem_of_getElem? hd)
 have hdg:o.fDatas.getD (i-o.fFuncs.length) default=d:=by rw [List.getD_eq_getElem?_getD,hd];rfl
 refine Zh (Zi (Zz (n:=2) (m:=2) J J J (Zld ?_)))
 refine Zo J ?_
 refine ZS0 (t:=25) (v':=.int .i64 ((i-o.fFuncs.length:Nat):Int)) J (by congr 1;omega) ?_
 refine oIdxE J J (hE2) ZO J J ?_
 have hc26:=(hE2).cell
 refine Zlx hc26 ?_
 refine oAlloc J ZP (fun b7=>?_)
 refine Zsa ?_
 refine Zn (Za (Zh (wDrawG J [0,1,2,3,4,5,6,7,8,10,11,12] [(9,[10,11,12],[]),(13,[],[]),(14,[],[]),(15,[],[])] [16] 24 ZK J J (fun w0=>?_))))
 refine Zz (n:=0) (m:=0) J J J (Zld ?_)
 refine Zz (n:=0) (m:=0) J J J (Zld ?_)
 refine Zo rfl (ZS0 (t:=32) (v':=.int .i64 (k:Int)) rfl (by rw [hk]) ?_)
 refine oIdxE J J (hE) ZO J J ?_
 have hc33:=(hE).cell
 refine ZF (ZT 3) (ZT 3) ?_
 refine Zlx hc33 ?_
 refine Z0 J J (Zla ?_)
 refine Zz (n:=0) (m:=0) J J J (Zld ?_)
 refine Z4 (Z5 J ?_)
 (refine ZC0 rfl ZK (fun w hS=>frame hS ZQ (fun B' hB hS'=>obj_when hS' (decide (d.fKind≠x.fKind)) 14)) ?_;rintro ⟨⟩ -)
 refine ZG ?_ J (fun w0=>?_)
 refine Z8 J J J J (fun w0=>?_) ?_
 refine Zla ?_
 exact Z9 rfl
 refine Z8 J J J J (fun w0=>?_) ?_
 refine Zz (n:=0) (m:=0) J J J ?_
 exact Z9 rfl
 refine Z8 J J J J (fun w0=>?_) ?_
 refine Zld ?_
 exact Z9 rfl
 exact AgainG.nil
 refine Z4 (Z5 J ?_)
 (refine ZC0 rfl ZK (fun w hS=>frame hS ZQ (fun B' hB hS'=>data_Check hS' d _ (kApiData_mk _ d n0 (Kd.C_grow hB r0) n1 (Kd.C_grow hB r1)) hvd.1 ZO A0 c0 o.fSymbols (Kd.C_grow hB q0))) ?_;rintro ⟨⟩ -)
 refine ZG ?_ J (fun w0=>?_)
 exact AgainG.nil
 refine Z4 (Z5 J ?_)
 refine oBuildSliceF (Parts.cons J (Parts.cons J Parts.nil)) J J J J J (Fulls.cons ZP J (Fulls.cons ZP J Fulls.nil ap) ap) (fun b42=>?_)
 refine oConv (blk_row (enc:=Value.int .i64) (h1:=fun _=>J) (W:=B.e) (xs:=[whenF (decide (d.fKind≠x.fKind)) 14,dataF d o.fSymbols]) (n:=2) ZP J J (by decide)) ?_
 refine ZG ?_ J (fun w0=>?_)
 exact AgainG.nil
 refine Z4 (Z5 J ?_)
 (refine ZD J (fun w B' hB hR hS'=>obj_first hS' [whenF (decide (d.fKind≠x.fKind)) 14,dataF d o.fSymbols] (some ⟨b42,0,none⟩) 2 2 rfl (row_Cs (W:=B.e) (e:=29) (A:=some ⟨b42,0,none⟩) (n:=2) (cp:=2) (hR _ _ ZP))) ?_;rintro ⟨⟩ -)
 refine ZG ?_ J (fun w0=>?_)
 exact AgainG.nil
 refine Z6 (Zzc ?_)
 exact ⟨(),trivial,by unfold itemE;rw [if_neg h15,if_pos hif,hdg,hdk,fstW];simp only [decide_eq_true_eq];rfl,Lh⟩
 have hif:¬ o.fFuncs.length≤i:=by omega
 obtain ⟨f,hf⟩:∃ f,o.fFuncs[i]?=some f:=⟨_,List.getElem?_eq_getElem ZO⟩
 obtain ⟨e3,cs3,hE3⟩:=q1.elm hf
 obtain ⟨F0,f0,F1,f1,F2,f2,F3,f3,rfl,n0,r0,n1,r1,n2,r2,n3,r3⟩:=kApiFunc_open hE3.K
 have hgf:=hg.fun_ f (List.mem_of_getElem? hf)
 have hvf:=hg.v.2.1.2 f (List.mem_of_getElem? hf)
 have hfg:o.fFuncs.getD i default=f:=by rw [List.getD_eq_getElem?_getD,hf];rfl
 refine Zj (Za (Zh (Zi (Zz (n:=1) (m:=1) J J J (Zld ?_)))))
 refine Zo J (oIdxE J J (hE3) ZO J J ?_)
 have hc47:=(hE3).cell
 refine Zlx hc47 ?_
 refine oAlloc J ZP (fun b8=>?_)
 refine Zsa ?_
 refine Zn (Za (Zh (Zh (wDrawG J [0,1,2,3,4,5,6,7,8] [] [] 24 ZK J J (fun w0=>?_)))))
 refine Zz (n:=0) (m:=0) J J J (Zld ?_)
 refine Zz (n:=0) (m:=0) J J J (Zld ?_)
 refine Zo rfl (ZS0 (t:=53) (v':=.int .i64 (k:Int)) rfl (by rw [hk]) ?_)
 refine oIdxE J J (hE) ZO J J ?_
 have hc54:=(hE).cell
 refine ZF (ZT 3) (ZT 3) ?_
 refine Zlx hc54 ?_
 refine Z0 J J (Z6 (Zn (Za (wC (fun h57=>?_) (fun h57=>?_)))))
 refine Zh (Zi (Zzc ?_))
 exact ⟨(),trivial,by unfold itemE;rw [if_neg h15,if_neg hif,hfg,hdk,if_pos h57];rfl,Lh⟩
 refine Zj (Za (Zzs ?_))
 refine Zz (n:=0) (m:=0) J J J (Zld ?_)
 (refine ZC0 rfl ZK (fun w hS=>frame hS ZQ (fun B' hB hS'=>verify_Check hS' f _ (kApiFunc_mk _ f n0 (Kd.C_grow hB r0) n1 (Kd.C_grow hB r1) n2 (Kd.C_grow hB r2) n3 (Kd.C_grow hB r3)) ZO A0 c0 o.fSymbols (Kd.C_grow hB q0))) ?_;rintro ⟨⟩ -)
 refine Zo J (oExt J ZP ?_)
 refine oExt J ZP ?_
 refine Zp J (Zp J (Zn (Za (Zh (Zi (Zo J (Zla ?_)))))))
 (refine ZC0 rfl ZK (fun w hS=>frame hS ZQ (fun B' hB hS'=>rng_Check hS' f _ (kApiFunc_mk _ f n0 (Kd.C_grow hB r0) n1 (Kd.C_grow hB r1) n2 (Kd.C_grow hB r2) n3 (Kd.C_grow hB r3)) ZO)) ?_;rintro ⟨⟩ -)
 refine oBuildSliceF (Parts.cons J (Parts.cons J Parts.nil)) J J J J J (Fulls.cons ZP J (Fulls.cons ZP J Fulls.nil ap) ap) (fun b68=>?_)
 refine oConv (blk_row (enc:=Value.int .i64) (h1:=fun _=>J) (W:=B.e) (xs:=[chkE f o.fSymbols,rangeF f]) (n:=2) ZP J J (by decide)) ?_
 (refine ZD J (fun w B' hB hR hS'=>obj_first hS' [chkE f o.fSymbols,rangeF f] (some ⟨b68,0,none⟩) 2 2 rfl (row_Cs (W:=B.e) (e:=29) (A:=some ⟨b68,0,none⟩) (n:=2) (cp:=2) (hR _ _ ZP))) ?_;rintro ⟨⟩ -)
 refine Zp J (Zzk ?_)
 exact ⟨(),trivial,by unfold itemE funE;rw [if_neg h15,if_neg hif,hfg,hdk,if_neg h57,fst2];rfl,Lh⟩
def cntO (o:ApiObject) (r:Nat):Nat:=if r=0 then o.fSymbols.length else o.fFuncs.length+o.fDatas.length
noncomputable def entO (o:ApiObject) (r i:Nat):Int:=if r=0 then symE o i else itemE o i
noncomputable def lstO (o:ApiObject) (r:Nat):List Int:=(List.range (cntO o r)).map (entO o r)
theorem lst_0 (o:ApiObject):lstO o 0=symsL o:=rfl
theorem lst_1 (o:ApiObject):lstO o 1=itsL o:=rfl
def ruleO (b:Nat) (o:ApiObject):List (Fn×Int):=[((29,[b]),(o.fSymbols.length:Int)),((31,[b]),itemsF o)]
theorem cat_ruleO (w:World) (b:Nat) (o:ApiObject):Cat kRule w (ruleO b o) [.func (.func 29) #[] #[.pointer (some ⟨b,0,none⟩)],.int .i64 (o.fSymbols.length:Int),.func (.func 31) #[] #[.pointer (some ⟨b,0,none⟩)],.int .i64 (itemsF o)]:=
 ⟨[_,_],_,rfl,⟨_,_,rfl,rfl,rfl⟩,[_,_],_,rfl,⟨_,_,rfl,rfl,rfl⟩,rfl⟩
theorem ruleO_at {b j:Nat}{o:ApiObject}{r:Fn×Int}(h:(ruleO b o)[j]?=some r):r.2=(cntO o j:Int)∧j<2∧goodF Tryz.prog r.1.1=true:=by
  have hj:=(List.getElem?_eq_some_iff.1 h).1
  match j,hj,h with
  | 0,_,h=>obtain rfl:=Option.some.inj h;exact ⟨rfl,by decide,by show goodF Tryz.prog 29=true;kernel_rfl⟩
  | 1,_,h=>obtain rfl:=Option.some.inj h;exact ⟨by unfold itemsF cntO;simp,by decide,by show goodF Tryz.prog 31=true;kernel_rfl⟩
theorem obj_chk1 {B:Base}{w:World}(o:ApiObject) (A0:Option Addr) (c0:Nat) (A1:Option Addr) (c1:Nat) (A2:Option Addr) (c2 b1:Nat) (hS:St B [blk b1 26 [.slice A0 o.fSymbols.length c0,.slice A1 o.fFuncs.length c1,.slice A2 o.fDatas.length c2]] w) (ho:kApiObject.K B.e o [.slice A0 o.fSymbols.length c0,.slice A1 o.fFuncs.length c1,.slice A2 o.fDatas.length c2]) (hg:GoodO o) (i:Nat) (hi:i<o.fSymbols.length) :
 CW 29 #[.int .i64 (i:Int),.pointer (some ⟨b1,0,none⟩)] w (Ret B (fun _:Unit=>True) (fun _=>.int .i64 (symE o i)) (fun _=>[blk b1 26 [.slice A0 o.fSymbols.length c0,.slice A1 o.fFuncs.length c1,.slice A2 o.fDatas.length c2]])):=by
 refine ZX Tryz.func29 hS ?_
 refine Zh (Zi (Zp J (Zn (Za (Zzs ?_)))))
 refine Zo J ?_
 (refine ZC0 rfl ZK (fun w hS=>frame hS ZQ (fun B' hB hS'=>obj_symbol hS' o _ (kApiObject.K_grow hB ho) hg i hi)) ?_;rintro ⟨⟩ -)
 refine Zp J (Zzk ?_)
 exact ⟨(),trivial,rfl,Lh⟩
theorem obj_chk2 {B:Base}{w:World}(o:ApiObject) (A0:Option Addr) (c0:Nat) (A1:Option Addr) (c1:Nat) (A2:Option Addr) (c2 b1:Nat) (hS:St B [blk b1 26 [.slice A0 o.fSymbols.length c0,.slice A1 o.fFuncs.length c1,.slice A2 o.fDatas.length c2]] w) (ho:kApiObject.K B.e o [.slice A0 o.fSymbols.length c0,.slice A1 o.fFuncs.length c1,.slice A2 o.fDatas.length c2]) (hg:GoodO o) (i:Nat) (hi:i<o.fFuncs.length+o.fDatas.length) :
 CW 31 #[.int .i64 (i:Int),.pointer (some ⟨b1,0,none⟩)] w (Ret B (fun _:Unit=>True) (fun _=>.int .i64 (itemE o i)) (fun _=>[blk b1 26 [.slice A0 o.fSymbols.length c0,.slice A1 o.fFuncs.length c1,.slice A2 o.fDatas.length c2]])):=by
 refine ZX Tryz.func31 hS ?_
 refine Zh (Zi (Zp J (Zn (Za (Zzs ?_)))))
 refine Zo J ?_
 (refine ZC0 rfl ZK (fun w hS=>frame hS ZQ (fun B' hB hS'=>obj_item hS' o _ (kApiObject.K_grow hB ho) hg i hi)) ?_;rintro ⟨⟩ -)
 refine Zp J (Zzk ?_)
 exact ⟨(),trivial,rfl,Lh⟩
theorem ruleO_call {B:Base}{w:World}(o:ApiObject) (A0:Option Addr) (c0:Nat) (A1:Option Addr) (c1:Nat) (A2:Option Addr) (c2 b1:Nat) (hS:St B [blk b1 26 [.slice A0 o.fSymbols.length c0,.slice A1 o.fFuncs.length c1,.slice A2 o.fDatas.length c2]] w) (ho:kApiObject.K B.e o [.slice A0 o.fSymbols.length c0,.slice A1 o.fFuncs.length c1,.slice A2 o.fDatas.length c2]) (hg:GoodO o) {j:Nat}{r:Fn×Int}(h:(ruleO b1 o)[j]?=some r) (i:Nat) (hi:i<cntO o j) :
    CW r.1.1 (#[]++[Value.int .i64 (i:Int)].toArray++(r.1.2.map fun b=>Value.pointer (some ⟨b,0,none⟩)).toArray) w (Ret B (fun _:Unit=>True) (fun _=>.int .i64 (entO o j i)) (fun _=>[blk b1 26 [.slice A0 o.fSymbols.length c0,.slice A1 o.fFuncs.length c1,.slice A2 o.fDatas.length c2]])):=by
  have hj:=(List.getElem?_eq_some_iff.1 h).1
  match j,hj,h,hi with
  | 0,_,h,hi=>obtain rfl:=Option.some.inj h;exact obj_chk1 o A0 c0 A1 c1 A2 c2 b1 hS ho hg i hi
  | 1,_,h,hi=>obtain rfl:=Option.some.inj h;exact obj_chk2 o A0 c0 A1 c1 A2 c2 b1 hS ho hg i hi
theorem obj_Check {B:Base}{w:World}(hS:St B [] w) (o:ApiObject) (oc:List Value) (ho:kApiObject.K B.e o oc) (hg:GoodO o) :
 CW 10 #[.agg oc.toArray] w (Ret B (fun _:Unit=>True) (fun _=>.tuple #[.int .i64 (objE o),.int .i64 (objI o)]) (fun _=>[])):=by
 obtain ⟨A0,c0,A1,c1,A2,c2,rfl,m0,q0,m1,q1,m2,q2⟩:=kApiObject_open ho
 have hn0:=hg.syms
 have hn1:=hg.funcs
 have hn2:=hg.datas
 have hit:itemsF o=(o.fFuncs.length:Int)+(o.fDatas.length:Int):=rfl
 refine ZX Tryz.func10 hS ?_
 refine Zh (Zi (oBox J ZP (fun b1=>?_)))
 refine Zp J (Zp J (Zn (Za (Zh (Zh (Zi (Zz (n:=0) (m:=0) J J J (Zld ?_))))))))
 refine Zv J J (Z1 J J (Zo J (ZS (ZT 12) (fun h12=>?_) (fun h12=>?_))))
 refine Zr J J J J (Zr J J J J (Zr J J J J (Zr J J J J (Zt J J (Zo J (Zr J J J J (Zr J J J J (Zr J J J J (Zr J J J J (Zt J J (Zn (Za (wCondT J (Zh (Zi (Zzo ?_))))))))))))))))
 refine ⟨rfl,_,(ResL.cons (ResR.tmp rfl) (ResL.cons (ResR.tmp rfl) ResL.nil)),?_⟩
 have hm:manyO o:=by unfold manyO;omega
 exact ⟨(),trivial,by unfold objE objI;rw [if_pos hm,if_pos hm];rfl,Lh⟩
 refine Zq J J (Zz (n:=1) (m:=1) J J J (Zzf ?_))
 refine Zq J J (Zv J J (Zq J J (Z1 J J (Zu J J (Zo J (ZS (ZT 18) (fun h18=>?_) (fun h18=>?_)))))))
 refine Zr J J J J (Zr J J J J (Zr J J J J (Zr J J J J (Zt J J (Zn (Za (wCondT J (Zh (Zi (Zzo ?_))))))))))
 refine ⟨rfl,_,(ResL.cons (ResR.tmp rfl) (ResL.cons (ResR.tmp rfl) ResL.nil)),?_⟩
 have hm:manyO o:=by unfold manyO;omega
 exact ⟨(),trivial,by unfold objE objI;rw [if_pos hm,if_pos hm];rfl,Lh⟩
 refine Zq J J (Zz (n:=2) (m:=2) J J J (Zzf ?_))
 refine Zq J J (Zv J J (Zq J J (Z1 J J (Zu J J (Zn (Za (wC (fun h23=>?_) (fun h23=>?_))))))))
 refine Zh (Zi (Zzo ?_))
 refine ⟨rfl,_,(ResL.cons (ResR.tmp rfl) (ResL.cons (ResR.tmp rfl) ResL.nil)),?_⟩
 have hm:manyO o:=by unfold manyO;omega
 exact ⟨(),trivial,by unfold objE objI;rw [if_pos hm,if_pos hm];rfl,Lh⟩
 have hm:¬ manyO o:=by unfold manyO;omega
 refine Zj (Za (Zh (Zh (wDrawG J [0,1,2,3,4,5,6,11] [(7,[0,1,2,3,4,5,11],[8]),(9,[11],[10])] [] 24 ZK J J (fun w0=>?_)))))
 refine oMakeFunc J (Zz (n:=0) (m:=0) J J J (Zld ?_))
 refine Zv J J (oBuild (Parts.cons J (Parts.cons J Parts.nil)) J J (Built.cons (off:=0) (s:=1) J ZP J ZP (Built.cons (off:=1) (s:=1) J ZP J ZP Built.nil)) ?_)
 refine oMakeFunc J (Zla ?_)
 refine Zo J (Z4 (Z5 J ?_))
 (refine ZC0 rfl ZK (fun w hS=>frame hS ZQ (fun B' hB hS'=>obj_Items hS' o _ (kApiObject.K_grow hB ho) hg)) ?_;rintro ⟨⟩ -)
 refine ZG ?_ J (fun w0=>?_)
 refine Z8 J J J J (fun w0=>?_) ?_
 refine oMakeFunc J ?_
 exact Z9 rfl
 refine Z8 J J J J (fun w0=>?_) ?_
 refine Zz (n:=0) (m:=0) J J J ?_
 exact Z9 rfl
 refine Z8 J J J J (fun w0=>?_) ?_
 refine Zld ?_
 exact Z9 rfl
 refine Z8 J J J J (fun w0=>?_) ?_
 refine Zv J J ?_
 exact Z9 rfl
 refine Z8 J J J J (fun w0=>?_) ?_
 refine oBuild (Parts.cons J (Parts.cons J Parts.nil)) J J (Built.cons (off:=0) (s:=1) J ZP J ZP (Built.cons (off:=1) (s:=1) J ZP J ZP Built.nil)) ?_
 exact Z9 rfl
 refine Z8 J J J J (fun w0=>?_) ?_
 refine oMakeFunc J ?_
 exact Z9 rfl
 refine Z8 J J J J (fun w0=>?_) ?_
 refine Zo J ?_
 exact Z9 rfl
 exact AgainG.nil
 refine oBuild (Parts.cons J (Parts.cons J Parts.nil)) J J (Built.cons (off:=0) (s:=1) J ZP J ZP (Built.cons (off:=1) (s:=1) J ZP J ZP Built.nil)) ?_
 refine Z4 (Z5 J ?_)
 refine oBuildSliceF (Parts.cons J (Parts.cons J Parts.nil)) J J J J J (Fulls.cons ZP J (Fulls.cons ZP J Fulls.nil ap) ap) (fun b33=>?_)
 refine ZG ?_ J (fun w0=>?_)
 refine Z8 J J J J (fun w0=>?_) ?_
 refine Zo J ?_
 exact Z9 rfl
 exact AgainG.nil
 refine Zv J J (Z6 (Zn (Za (wFreeze [blk b33 77 [.func (.func 29) #[] #[.pointer (some ⟨b1,0,none⟩)],.int .i64 (o.fSymbols.length:Int),.func (.func 31) #[] #[.pointer (some ⟨b1,0,none⟩)],.int .i64 (itemsF o)]] ZQ (fun B1 hB1 hq1=>?_)))))
 have hR:kRule.C B1.e (some ⟨b33,0,none⟩) (ruleO b1 o):=C_blk (hq1 _ _ ZP) (by show 2≤9223372036854775807;omega) (cat_ruleO _ _ _)
 have ho:=kApiObject.K_grow hB1 ho
 refine Zk (wLoop (ι:=Nat) (fun r=>[(1,.pointer (some ⟨b1,0,none⟩)),(33,.slice (some ⟨b33,0,none⟩) 2 2),(34,.int .i64 2),(35,.int .i64 (r:Int))]) (fun r=>[blk b1 26 [.slice A0 o.fSymbols.length c0,.slice A1 o.fFuncs.length c1,.slice A2 o.fDatas.length c2]]) (fun r=>r≤2∧∀ q,q<r→fstE (lstO o q)=0) (fun r=>2-r) 0 ?_ cv (Leads.has ZQ) ?_)
 exact ⟨Nat.zero_le _,fun q hq=>by omega⟩
 rintro r ⟨hr2,hqs⟩
 try dsimp only
 refine Zh (Zi (Zx J J (Zn (Za (Zh (wC (fun h36=>?_) (fun h36=>?_)))))))
 obtain ⟨u,hu⟩:∃ u,(ruleO b1 o)[r]?=some u:=⟨_,List.getElem?_eq_getElem (by show r<2;omega)⟩
 obtain ⟨hu1,hu2,hu3⟩:=ruleO_at hu
 obtain ⟨⟨ug,ub⟩,uc⟩:=u
 dsimp only at hu1 hu3
 subst hu1
 obtain ⟨e2,cs2,hE2⟩:=hR.elm hu
 obtain ⟨_,_,rfl,rfl,rfl⟩:=(hE2.K:kRule.K _ _ _)
 have hcn:cntO o r≤100:=by unfold cntO;split <;> omega
 refine Zj (Za (Zh (Zk (Zh (Zi (oIdxE J J (hE2) ZO J J ?_))))))
 have hc37:=(hE2).cell
 refine Zlx hc37 ?_
 refine oAlloc J ZP (fun b5=>?_)
 refine Zsa ?_
 refine Zn (Za (Zh (Zi (Zz (n:=1) (m:=1) J J J (Zld ?_)))))
 refine Zo J (Zn (Za (Zk (wLoop (ι:=Nat) (fun i=>[(1,.pointer (some ⟨b1,0,none⟩)),(33,.slice (some ⟨b33,0,none⟩) 2 2),(34,.int .i64 2),(35,.int .i64 (r:Int)),(5,.pointer (some ⟨b5,0,none⟩)),(40,.int .i64 (cntO o r:Int)),(41,.int .i64 (i:Int))]) (fun i=>[blk b5 77 [.func (.func ug) #[] (ub.map fun b=>Value.pointer (some ⟨b,0,none⟩)).toArray,.int .i64 (cntO o r:Int)],blk b1 26 [.slice A0 o.fSymbols.length c0,.slice A1 o.fFuncs.length c1,.slice A2 o.fDatas.length c2]]) (fun i=>i≤cntO o r∧fstE ((lstO o r).take i)=0∧∀ y ∈ (lstO o r).take i,non0 y=false) (fun i=>cntO o r-i) 0 ?_ cv (Leads.has ZQ) ?_))))
 exact ⟨Nat.zero_le _,rfl,by simp⟩
 rintro i ⟨hi,hs,hs2⟩
 try dsimp only
 refine Zh (Zi (Zx J J (Zn (Za (Zh (wC (fun h42=>?_) (fun h42=>?_)))))))
 have hxe:(lstO o r)[i]?=some (entO o r i):=rmap_at ZO
 refine Zj (Za (Zh (Zk (Zh (Zi (Zo J (Zp J (Zn (Za (Zh (Zi (Zz (n:=0) (m:=0) J J J (Zld ?_)))))))))))))
 refine Zo J ?_
 (refine oCallV rfl rfl rfl hu3 (fun w hS=>frame hS ZQ (fun B' hB hS'=>ruleO_call o A0 c0 A1 c1 A2 c2 b1 hS' (kApiObject.K_grow hB ho) hg hu i ZO)) ?_;rintro ⟨⟩ -)
 refine Zp J (Zn (Za (Zh (Zi (Zo J (Z0 J J (Zn (Za (wC (fun h49=>?_) (fun h49=>?_))))))))))
 refine Zh (Zi (Zo J (Zo J (Zp J (Zp J (Zn (Za (Zl (Zf (Zc (Zc (Zf (Zf (Zc (Zc (Zf (Zc (Zw ?_))))))))))))))))))
 refine ⟨rfl,_,(ResL.cons (ResR.tmp rfl) (ResL.cons (ResR.tmp rfl) ResL.nil)),?_⟩
 have hfe:=fstE_stop hs hxe h49
 have hie:=idxI_stop hs2 hxe (decide_eq_true h49)
 exact ⟨(),trivial,by
  unfold objE objI
  rcases Nat.eq_zero_or_pos r with h0 | h0
  · subst h0
    rw [lst_0] at hfe hie
    rw [if_neg hm,if_neg hm,hfe,if_pos h49,if_pos h49,hie];rfl
  · obtain rfl:r=1:=by omega
    have hfs:=hqs 0 ZO
    rw [lst_0] at hfs
    rw [lst_1] at hfe hie
    rw [if_neg hm,if_neg hm,if_neg (by rw [hfs];simp),if_neg (by rw [hfs];simp),hfe,hie];rfl,Lh⟩
 refine Zj (Zzi ?_)
 refine Zo J (Zn (Za ?_))
 exact ⟨rfl,i+1,⟨by omega,fstE_next hs hxe (Classical.not_not.1 h49),take_not hs2 hxe (decide_eq_false h49)⟩,by omega,cv,Lh⟩
 obtain rfl:i=cntO o r:=by omega
 have hfr:fstE (lstO o r)=0:=by have:=hs;unfold lstO at this;rw [rmap_all] at this;exact this
 refine Zm (Zb (Zb (Ze (Zzi ?_))))
 refine Zo J (Zn (Za ?_))
 exact ⟨rfl,r+1,⟨by omega,fun q hq=>if e:q=r then by rw [e];exact hfr else hqs q ZO⟩,by omega,cv,Lh⟩
 refine Zm (Zb (Zb (Ze (Za (Zh (Zi (Zp J (Zp J (Zn (Za (Zl (Zw ?_))))))))))))
 refine ⟨rfl,_,(ResL.cons (ResR.tmp rfl) (ResL.cons (ResR.tmp rfl) ResL.nil)),?_⟩
 obtain rfl:r=2:=by omega
 have hfs:=hqs 0 ZO
 have hfi:=hqs 1 ZO
 rw [lst_0] at hfs
 rw [lst_1] at hfi
 exact ⟨(),trivial,by unfold objE objI;rw [if_neg hm,if_neg hm,if_neg (by rw [hfs];simp),if_neg (by rw [hfs];simp),hfi,idxI_none (p:=non0) (fun y hy=>decide_eq_false (fun h=>h (fstE_zero.1 hfi y hy)))];rfl,Lh⟩
theorem data_at {B:Base}{w:World}(b6 i:Nat) (x:ApiReloc) (hS:St B [blk b6 3 [.int .i64 (i:Int)]] w) :
 CW 157 #[.agg #[.int .i64 x.fAt,.int .i64 x.fSym,.bool x.fWide],.pointer (some ⟨b6,0,none⟩)] w (Ret B (fun _:Unit=>True) (fun _=>.bool (atP i x)) (fun _=>[blk b6 3 [.int .i64 (i:Int)]])):=by
 refine ZX Tryz.func157 hS ?_
 refine Zh (Zi (oBox J ZP (fun b2=>?_)))
 refine Zp J (Zn (Za (Zh (Zi (Zz (n:=0) (m:=0) J J J (Zld ?_))))))
 refine Zld ?_
 refine Zy J J (Zza ?_)
 exact ⟨(),trivial,rfl,Lh⟩
theorem data_Marks {B:Base}{w:World}(hS:St B [] w) (A:Option Addr) (cp:Nat) (l:List ApiReloc) (hC:kApiReloc.C B.e A l) (n:Nat) (hn:n≤4000) (W0:World) :
 CW 121 #[.slice A l.length cp,.int .i64 (n:Int)] w (Ret B (fun _:Option Addr×Nat=>True) (fun z=>.slice z.1 n z.2) (fun z=>[row (Kd.int .i64) W0 3 (.slice z.1 n z.2) (marksL l n)])):=by
 refine ZX Tryz.func121 hS ?_
 refine Zh (Zi (Zp J (Zn (Za (Zh (Zi (Zp J (Zn (Za (Zh (Zh (Zi (Zo J (oMinI J J (oMaxI J J ?_)))))))))))))))
 refine ZS0 (t:=9) (v':=.int .i64 (n:Int)) J (by congr 1;split <;> (try split) <;> omega) ?_
 refine Zo J (Zn (Za (Zk (wLoop (ι:=Nat×Option Addr×Nat) (fun z=>[(0,.slice A l.length cp),(5,.slice z.2.1 z.1 z.2.2),(9,.int .i64 (n:Int)),(10,.int .i64 (z.1:Int))]) (fun z=>[row (Kd.int .i64) W0 3 (.slice z.2.1 z.1 z.2.2) (marksL l z.1)]) (fun z=>z.1≤n) (fun z=>n-z.1) (0,none,0) ?_ cv (Leads.nilrow.trans Lh) ?_))))
 exact Nat.zero_le _
 rintro ⟨i,A2,c2⟩ hi
 dsimp only at hi
 have hml:=marksL_len l i
 try dsimp only
 refine Zh (Zi (Zx J J (Zn (Za (Zh (wC (fun h11=>?_) (fun h11=>?_)))))))
 refine Zj (Za (Zh (Zk (Zh (Zi (Zo J (oAlloc J ZP (fun b6=>?_))))))))
 refine Zst ?_
 refine Zn (Za (Zi (Zo J (Zo J (oMakeFunc J ?_)))))
 (refine ZC0 rfl ZK (fun w hS=>frame hS ZQ (fun B' hB hS'=>indexFunc_rel hS' l A cp (Kd.C_grow hB hC) 157 #[.pointer (some ⟨b6,0,none⟩)] (atP i) ZK (fun B2 w2 x hB2 hS2=>data_at b6 i x hS2))) ?_;rintro ⟨⟩ -)
 refine oBuildSlice1 J J J J J ZP J (fun b17=>?_)
 refine oApp1 (idxI (atP i) l) J J J J ZP ZP J ZO J (fun g18 cp18=>?_)
 rw [← marksL_succ,marksL_len l i]
 refine Zp J (Zn (Zzi ?_))
 refine Zo J (Zn (Za ?_))
 exact ⟨rfl,(i+1,some ⟨g18,0,none⟩,cp18),by show i+1≤_;omega,by show n-(i+1)<n-i;omega,cv,Lh⟩
 refine Zm (Zzr ?_)
 obtain rfl:i=n:=by omega
 exact ⟨(A2,c2),trivial,rfl,Lh⟩
theorem data_Refs {B:Base}{w:World}(hS:St B [] w) (d:ApiData) (dc:List Value) (hd:kApiData.K B.e d dc) (h1:d.fWords.length≤4000) (h2:d.fRelocs.length≤100000) (W0:World) :
 CW 82 #[.agg dc.toArray] w (Ret B (fun _:Option Addr×Nat=>True) (fun z=>.slice z.1 d.fWords.length z.2) (fun z=>[row (Kd.int .i64) W0 3 (.slice z.1 d.fWords.length z.2) (refsD d)])):=by
 obtain ⟨A0,c0,A1,c1,rfl,l0,g0,l1,g1⟩:=kApiData_open hd
 have hml:=marksL_len d.fRelocs d.fWords.length
 have hrl:=refsD_len d
 refine ZX Tryz.func82 hS ?_
 refine Zh (Zi (oBox J ZP (fun b1=>?_)))
 refine Zp J (Zn (Za (Zh (Zi (Zz (n:=2) (m:=2) J J J (Zld ?_))))))
 refine Zz (n:=1) (m:=1) J J J (Zld ?_)
 refine Zv J J ?_
 (refine ZC0 rfl ZK (fun w hS=>frame hS ZQ (fun B' hB hS'=>data_Marks hS' A1 c1 d.fRelocs (Kd.C_grow hB g1) d.fWords.length h1 W0)) ?_;rintro ⟨A11,c11⟩ -)
 refine Zp J (Zn (Za (Zh (Zh (Zi (Zo J (Zv J J (Zo J (Zn (Za (Zk ?_)))))))))))
 refine wLoop (ι:=Nat) (fun i=>[(1,.pointer (some ⟨b1,0,none⟩)),(3,.slice A11 d.fWords.length c11),(12,.slice A11 d.fWords.length c11),(13,.int .i64 (d.fWords.length:Int)),(14,.int .i64 (i:Int))]) (fun i=>[blk b1 62 [.int .i64 d.fKind,.slice A0 d.fWords.length c0,.slice A1 d.fRelocs.length c1],row (Kd.int .i64) W0 3 (.slice A11 d.fWords.length c11) (mix (refsD d) (marksL d.fRelocs d.fWords.length) i)]) (fun i=>i≤d.fWords.length) (fun i=>d.fWords.length-i) 0 ?_ cv (by rw [mix_zero];exact Lh) ?_
 exact Nat.zero_le _
 rintro i hi
 have hxl:(mix (refsD d) (marksL d.fRelocs d.fWords.length) i).length=d.fWords.length:=(mix_len hrl i).trans hml
 try dsimp only
 refine Zh (Zi (Zx J J (Zn (Za (Zh (wC (fun h15=>?_) (fun h15=>?_)))))))
 refine Zj (Za (Zh (Zk (Zh (Zi (Zo J (ZR J J ZP ZO J J (fun g17 hg17=>?_))))))))
 first | subst hg17 | (injection hg17 with hg17;injection hg17 with hg17;subst hg17)
 refine ZR1 J ZP ZO J (fun u18 hu18=>?_)
 rw [mix_get hrl,if_neg (Nat.lt_irrefl i)] at hu18
 refine Zp J (Zp J (Zn (Za (Zh (Zi (Zo J (Z2 J J (Zn (Za (wC (fun h20=>?_) (fun h20=>?_)))))))))))
 obtain ⟨k,x,hk,hx,hp⟩:=idxI_at (show 0≤idxI (atP i) d.fRelocs by rw [← marksL_at hu18];exact h20)
 obtain rfl:u18=(k:Int):=(marksL_at hu18).trans hk
 have hkl:=(List.getElem?_eq_some_iff.1 hx).1
 obtain ⟨e1,cs1,hE⟩:=g1.elm hx
 obtain rfl:=kApiReloc_open hE.K
 refine Zi (Zo J (Zo J (Zz (n:=2) (m:=2) J J J (Zld ?_))))
 refine Zo J (oIdxE J J (hE) ZO J J ?_)
 have hc26:=(hE).cell
 refine ZF (ZT 1) (ZT 1) ?_
 refine Zlx hc26 ?_
 refine ZR J J ZP ZO J J (fun g29 hg29=>?_)
 first | subst hg29 | (injection hg29 with hg29;injection hg29 with hg29;subst hg29)
 refine oStR (enc:=Value.int .i64) x.fSym J J J J ZP ZO ?_
 rw [mix_set hrl (refsD_T rfl hu18 hx)]
 refine Zn (Zzi ?_)
 refine Zo J (Zn (Za ?_))
 exact ⟨rfl,i+1,by omega,by omega,cv,Lh⟩
 refine Zj (Zzi ?_)
 refine Zo J (Zn (Za ?_))
 exact ⟨rfl,i+1,by omega,by omega,cv,by rw [mix_same hrl (refsD_F hu18 h20)];exact Lh⟩
 obtain rfl:i=d.fWords.length:=by omega
 have hma:mix (refsD d) (marksL d.fRelocs d.fWords.length) d.fWords.length=refsD d:=by have:=mix_all hrl;rw [hml] at this;exact this
 rw [hma]
 refine Zm (Zzr ?_)
 exact ⟨(A11,c11),trivial,rfl,Lh⟩
end Go.Proofs.YtafiabekcekdbaaGreatO
namespace Go.Proofs.YtafiabekcekdbaaGreatW
set_option maxRecDepth 100000
set_option maxHeartbeats 4000000
open Go.RowKit Go.Proofs.YtafiabekcekdbaaGreatK Go.Proofs.YtafiabekcekdbaaGreatT Go.Proofs.YtafiabekcekdbaaGreatL Go.Proofs.YtafiabekcekdbaaGreatV Go.Proofs.YtafiabekcekdbaaGreatG

abbrev FunT:=Int×Int×ByteArray×ApiFunc×Hdr
abbrev DatT:=Int×Int×ByteArray×ApiData×Hdr
def kFunT:Kd FunT:=Kd.pair (Kd.int .i64) (Kd.pair (Kd.int .i64) (Kd.pair Kd.string (Kd.pair kApiFunc kHdr)))
def kDatT:Kd DatT:=Kd.pair (Kd.int .i64) (Kd.pair (Kd.int .i64) (Kd.pair Kd.string (Kd.pair kApiData kHdr)))
abbrev hdT {α:Type}(t:Int×Int×ByteArray×α×Hdr):Hdr:=t.2.2.2.2
def mkF (t:FunT) (r:List Int):ApiFun:=⟨t.1,t.2.1,t.2.2.1,t.2.2.2.1,r⟩
def mkD (t:DatT) (r:List Int):ApiDat:=⟨t.1,t.2.1,t.2.2.1,t.2.2.2.1,r⟩
def funsOf (ts:List FunT) (rs:List (List Int)):List ApiFun:=List.zipWith mkF ts rs
def datsOf (ts:List DatT) (rs:List (List Int)):List ApiDat:=List.zipWith mkD ts rs
theorem zip_len {α β γ:Type}{m:α→β→γ}{a:List α}{b:List β}(h:a.length=b.length):(List.zipWith m a b).length=a.length:=by rw [List.length_zipWith];omega
theorem zip_snoc {α β γ:Type}{m:α→β→γ}{a:List α}{b:List β}(h:a.length=b.length) (x:α) (y:β):List.zipWith m (a++[x]) (b++[y])=List.zipWith m a b++[m x y]:=by rw [List.zipWith_append h];rfl
theorem gridT_C {α β:Type}{kA:Kd α}{kB:Kd β}{m:α→List Int→β}{hd:α→Hdr}(hsz:kA.sz=kB.sz) (hm:∀ w x cs r,kA.K w x cs→(Kd.int .i64).C w (hd x).1 r→(hd x).2.1=r.length→r.length≤(hd x).2.2→kB.K w (m x r) cs)
 {W0 W w:World}{eo ei:TypeId}{A:Option Addr}{n cp:Nat}{ts:List α}{rs:List (List Int)}(h1:(row kA W0 eo (.slice A n cp) ts).q w) (g0:Grow W0 w) (h2:(bun (rws (Kd.int .i64) W ei (ts.map hd) rs)).q w) (hl:ts.length=rs.length):n=ts.length∧n≤cp∧kB.C w A (List.zipWith m ts rs):=by
 obtain ⟨e1,e2,⟨hbig,hC⟩,_⟩:=row_C h1 g0
 refine ⟨e1,e2,by rw [zip_len hl];omega,fun h0=>?_⟩
 rw [zip_len hl] at h0
 obtain ⟨ad,rfl,hc⟩:=hC ZO
 refine ⟨ad,rfl,fun j x hj=>?_⟩
 rw [List.getElem?_zipWith] at hj
 cases ht:ts[j]? with
 | none=>rw [ht] at hj;cases hj
 | some t=>
  cases hr:rs[j]? with
  | none=>rw [ht,hr] at hj;cases hj
  | some r=>
   rw [ht,hr] at hj
   obtain rfl:=Option.some.inj hj
   obtain ⟨c,hK,hcell⟩:=hc j t ht
   have hq:=h2.1 _ (List.mem_of_getElem? (rws_at (kd:=Kd.int .i64) (W:=W) (ei:=ei) (hs:=ts.map hd) (u:=hd t) (by rw [List.getElem?_map,ht];rfl) hr))
   have f3:(Kd.int .i64).C w (hd t).1 r:=row_Cs hq
   obtain ⟨f1,f2,_⟩:=row_C (kd:=Kd.int .i64) (W:=w) (e:=ei) (A:=(hd t).1) (n:=(hd t).2.1) (cp:=(hd t).2.2) (xs:=r) (by obtain ⟨cs,ho,hr⟩:=hq;exact ⟨cs,ho,cat_scalar.2 (cat_scalar.1 hr)⟩) (Grow.refl _)
   exact ⟨c,hm _ _ _ _ hK f3 f1 ZO,fun i u hi=>by rw [← hsz];exact hcell i u hi⟩
theorem funs_C {W0 W w:World}{eo ei:TypeId}{A:Option Addr}{n cp:Nat}{ts:List FunT}{rs:List (List Int)}(h1:(row kFunT W0 eo (.slice A n cp) ts).q w) (g0:Grow W0 w) (h2:(bun (rws (Kd.int .i64) W ei (ts.map hdT) rs)).q w) (hl:ts.length=rs.length):n=ts.length∧n≤cp∧kApiFun.C w A (funsOf ts rs):=
 gridT_C (kA:=kFunT) (kB:=kApiFun) (m:=mkF) (hd:=hdT) rfl (fun w x cs r hK hC h1 h2=>by
  obtain ⟨c1,d1,rfl,a1,c2,d2,rfl,a2,c3,d3,rfl,a3,c4,d4,rfl,a4,a5⟩:=hK
  rw [show d4=[hV (hdT x)] from a5,show hV (hdT x)=.slice (hdT x).1 r.length (hdT x).2.2 by rw [← h1]]
  exact ⟨c1,_,rfl,a1,c2,_,rfl,a2,c3,_,rfl,a3,c4,_,rfl,a4,⟨_,_,rfl,h2,hC⟩⟩) h1 g0 h2 hl
theorem dats_C {W0 W w:World}{eo ei:TypeId}{A:Option Addr}{n cp:Nat}{ts:List DatT}{rs:List (List Int)}(h1:(row kDatT W0 eo (.slice A n cp) ts).q w) (g0:Grow W0 w) (h2:(bun (rws (Kd.int .i64) W ei (ts.map hdT) rs)).q w) (hl:ts.length=rs.length):n=ts.length∧n≤cp∧kApiDat.C w A (datsOf ts rs):=
 gridT_C (kA:=kDatT) (kB:=kApiDat) (m:=mkD) (hd:=hdT) rfl (fun w x cs r hK hC h1 h2=>by
  obtain ⟨c1,d1,rfl,a1,c2,d2,rfl,a2,c3,d3,rfl,a3,c4,d4,rfl,a4,a5⟩:=hK
  rw [show d4=[hV (hdT x)] from a5,show hV (hdT x)=.slice (hdT x).1 r.length (hdT x).2.2 by rw [← h1]]
  exact ⟨c1,_,rfl,a1,c2,_,rfl,a2,c3,_,rfl,a3,c4,_,rfl,a4,⟨_,_,rfl,h2,hC⟩⟩) h1 g0 h2 hl
structure PZ where
  Af:Option Addr
  cf:Nat
  ft:List FunT
  fr:List (List Int)
  Ad:Option Addr
  cd:Nat
  dt:List DatT
  dr:List (List Int)
structure PZ.ok (z:PZ):Prop where
  f:z.ft.length=z.fr.length
  d:z.dt.length=z.dr.length
abbrev PZ.cells (z:PZ) (e:Int):List Value:=[.slice z.Af z.ft.length z.cf,.slice z.Ad z.dt.length z.cd,.int .i64 e]
def PZ.prog (z:PZ) (e:Int):ApiProgram:=⟨funsOf z.ft z.fr,datsOf z.dt z.dr,e⟩
theorem prog_K {W0 W w:World}{ef ed ei:TypeId}{z:PZ}(hz:z.ok) (h1:(row kFunT W0 ef (.slice z.Af z.ft.length z.cf) z.ft).q w) (h2:(bun (rws (Kd.int .i64) W ei (z.ft.map hdT) z.fr)).q w) (h3:(row kDatT W0 ed (.slice z.Ad z.dt.length z.cd) z.dt).q w) (h4:(bun (rws (Kd.int .i64) W ei (z.dt.map hdT) z.dr)).q w) (g:Grow W0 w) (e:Int):kApiProgram.K w (z.prog e) (z.cells e):=by
 obtain ⟨-,c1,k1⟩:=funs_C h1 g h2 hz.f
 obtain ⟨-,c2,k2⟩:=dats_C h3 g h4 hz.d
 have l1:z.ft.length=(z.prog e).fFuns.length:=(zip_len hz.f).symm
 have l2:z.dt.length=(z.prog e).fDats.length:=(zip_len hz.d).symm
 unfold PZ.cells
 rw [l1,l2]
 exact kApiProgram_mk w (z.prog e) (by rw [← l1];exact c1) k1 (by rw [← l2];exact c2) k2
def objAt (l:List ApiObject) (i:Nat):ApiObject:=l.getD i default
theorem objAt_eq {l:List ApiObject}{i:Nat}{o:ApiObject}(h:l[i]?=some o):objAt l i=o:=by unfold objAt;rw [List.getD_eq_getElem?_getD,h];rfl
def nameI (o:ApiObject) (item:Int):ByteArray:=(o.fSymbols.getD (definerF o item).toNat default).fName
def sumO (fn:Bool) (l:List ApiObject) (n:Nat):Nat:=((l.take n).map fun o=>if fn=true then o.fFuncs.length else o.fDatas.length).sum
theorem sumO_succ {fn:Bool}{l:List ApiObject}{n:Nat}{o:ApiObject}(h:l[n]?=some o):sumO fn l (n+1)=sumO fn l n+(if fn=true then o.fFuncs.length else o.fDatas.length):=by
 unfold sumO
 rw [List.take_add_one,h,List.map_append,List.sum_append]
 simp
theorem sumO_le {fn:Bool}{l:List ApiObject}(h:FewO l):∀ n,sumO fn l n≤20 * n
 | 0=>by simp [sumO]
 | n+1=>by
  have ih:=sumO_le (fn:=fn) h n
  cases ho:l[n]? with
  | none=>
   have:l.take (n+1)=l.take n:=by rw [List.take_add_one,ho];simp
   have h2:sumO fn l (n+1)=sumO fn l n:=by unfold sumO;rw [this]
   omega
  | some o=>
   rw [sumO_succ ho]
   have h1:=h.funcs o (List.mem_of_getElem? ho)
   have h2:=h.datas o (List.mem_of_getElem? ho)
   split <;> omega
def numberF (l:List ApiObject) (i k:Int):Int:=(symOf l (bndF l i k).1 (bndF l i k).2.1).fDef+(sumO (decide ((symOf l (bndF l i k).1 (bndF l i k).2.1).fSort=1)) l (bndF l i k).1.toNat:Int)
def boundE (l:List ApiObject) (i:Int) (s:Int):Int:=if 0≤s then numberF l i s else -1
def boundL (l:List ApiObject) (i:Int) (syms:List Int):List Int:=syms.map (boundE l i)
theorem boundL_len (l:List ApiObject) (i:Int) (syms:List Int):(boundL l i syms).length=syms.length:=by unfold boundL;rw [List.length_map]
def symsF (f:ApiFunc):List Int:=(List.range f.fCode.length).map fun j:Nat=>symF f (j:Int)
theorem symsF_len (f:ApiFunc):(symsF f).length=f.fCode.length:=by simp [symsF]
def funAt (l:List ApiObject) (i k:Nat):ApiFunc:=(objAt l i).fFuncs.getD k default
def datAt (l:List ApiObject) (i k:Nat):ApiData:=(objAt l i).fDatas.getD k default
def mkFun (l:List ApiObject) (i k:Nat):ApiFun:=⟨i,k,nameI (objAt l i) k,funAt l i k,boundL l i (symsF (funAt l i k))⟩
def mkDat (l:List ApiObject) (i k:Nat):ApiDat:=⟨i,(((objAt l i).fFuncs.length+k:Nat):Int),nameI (objAt l i) (((objAt l i).fFuncs.length+k:Nat):Int),datAt l i k,boundL l i (refsD (datAt l i k))⟩
def fileFuns (l:List ApiObject) (i:Nat):List ApiFun:=(List.range (objAt l i).fFuncs.length).map (mkFun l i)
def fileDats (l:List ApiObject) (i:Nat):List ApiDat:=(List.range (objAt l i).fDatas.length).map (mkDat l i)
def funsTo (l:List ApiObject) (n:Nat):List ApiFun:=((List.range n).map (fileFuns l)).flatten
def datsTo (l:List ApiObject) (n:Nat):List ApiDat:=((List.range n).map (fileDats l)).flatten
theorem funsTo_succ (l:List ApiObject) (n:Nat):funsTo l (n+1)=funsTo l n++fileFuns l n:=by unfold funsTo;rw [List.range_succ,List.map_append,List.flatten_append];simp
theorem datsTo_succ (l:List ApiObject) (n:Nat):datsTo l (n+1)=datsTo l n++fileDats l n:=by unfold datsTo;rw [List.range_succ,List.map_append,List.flatten_append];simp
theorem funsTo_len (l:List ApiObject):∀ n,(funsTo l n).length=sumO true l n
 | 0=>by simp [funsTo,sumO]
 | n+1=>by
  rw [funsTo_succ,List.length_append,funsTo_len l n]
  cases ho:l[n]? with
  | none=>
   have:l.take (n+1)=l.take n:=by rw [List.take_add_one,ho];simp
   have h2:sumO true l (n+1)=sumO true l n:=by unfold sumO;rw [this]
   have h3:objAt l n=default:=by unfold objAt;rw [List.getD_eq_getElem?_getD,ho];rfl
   rw [h2];unfold fileFuns;rw [h3];rfl
  | some o=>rw [sumO_succ ho,if_pos rfl];unfold fileFuns;rw [objAt_eq ho];simp
theorem datsTo_len (l:List ApiObject):∀ n,(datsTo l n).length=sumO false l n
 | 0=>by simp [datsTo,sumO]
 | n+1=>by
  rw [datsTo_succ,List.length_append,datsTo_len l n]
  cases ho:l[n]? with
  | none=>
   have:l.take (n+1)=l.take n:=by rw [List.take_add_one,ho];simp
   have h2:sumO false l (n+1)=sumO false l n:=by unfold sumO;rw [this]
   have h3:objAt l n=default:=by unfold objAt;rw [List.getD_eq_getElem?_getD,ho];rfl
   rw [h2];unfold fileDats;rw [h3];rfl
  | some o=>rw [sumO_succ ho,if_neg (by simp)];unfold fileDats;rw [objAt_eq ho];simp
noncomputable def badB (o:ApiObject):Bool:=decide (objE o≠0)
noncomputable def bindR (l:List ApiObject) (s:ByteArray):Int×Int×Int:=
  if l.length=0∨6<l.length then (19,-1,-1) else
  if 0≤idxI badB l then (objE (objAt l (idxI badB l).toNat),idxI badB l,objI (objAt l (idxI badB l).toNat)) else
  if (chk23 l).1≠0 then chk23 l else
  if (fnd l s).2.2=false∨(symOf l (fnd l s).1 (fnd l s).2.1).fSort≠1∨1<(symOf l (fnd l s).1 (fnd l s).2.1).fKind then (15,-1,-1) else (0,0,0)
noncomputable def bindP (l:List ApiObject) (s:ByteArray):ApiProgram:=if (bindR l s).1=0 then ⟨funsTo l l.length,datsTo l l.length,numberF l (fnd l s).1 (fnd l s).2.1⟩ else ⟨[],[],0⟩
theorem fI_at {l:List ApiObject}{p:Nat→Nat→Bool}(h:0≤fI l p):∃ i k:Nat,fI l p=(i:Int)∧fK l p=(k:Int)∧p i k=true:=by
 obtain ⟨i,x,hi,hx,hr⟩:=idxI_at (show 0≤idxI (rowP l p) (List.range l.length) from h)
 obtain ⟨hxl,rfl⟩:=List.getElem?_eq_some_iff.1 hx
 rw [List.getElem_range] at hr
 have h2:0≤idxI (p i) (List.range (symsAt l (i:Int)).length):=idxI_iff.2 hr
 obtain ⟨k,y,hk,hy,hp⟩:=idxI_at h2
 obtain ⟨hyl,rfl⟩:=List.getElem?_eq_some_iff.1 hy
 rw [List.getElem_range] at hp
 have hf:fI l p=(i:Int):=hi
 refine ⟨i,k,hf,?_,hp⟩
 unfold fK
 rw [hf,Int.toNat_natCast]
 exact hk
theorem bnd_ok {l:List ApiObject}(h:(chk23 l).1=0) {i k:Nat}{o:ApiObject}{x:ApiSymbol}(ho:l[i]?=some o) (hx:o.fSymbols[k]?=some x):∃ (i2 k2:Nat) (o2:ApiObject) (y:ApiSymbol),bndF l i k=((i2:Int),(k2:Int),0)∧l[i2]?=some o2∧o2.fSymbols[k2]?=some y∧y.fDef≠-1∧y.fSort=x.fSort∧y.fKind=x.fKind:=by
 have h0:(bndF l i k).2.2=0:=by
  unfold chk23 at h
  split at h
  · exact absurd h (by decide)
  · split at h
    · exact absurd (show (12:Int)=0 from h) (by decide)
    · split at h
      · next h1=>
        obtain ⟨i3,k3,e1,e2,hp⟩:=fI_at h1
        rw [e1,e2] at h
        unfold unP at hp
        exact absurd h (of_decide_eq_true hp)
      · next h1=>
        have:=fI_all (show fI l (unP l)<0 by omega) ho (List.getElem?_eq_some_iff.1 hx).1
        unfold unP at this
        simpa using this
 have hil:=(List.getElem?_eq_some_iff.1 ho).1
 have hkl:=(List.getElem?_eq_some_iff.1 hx).1
 have hin:¬ ((i:Int)<0∨(l.length:Int)≤(i:Int)∨(k:Int)<0∨((symsAt l (i:Int)).length:Int)≤(k:Int)):=by rw [symsAt_eq ho];omega
 have hso:=symOf_eq ho hx
 unfold bndF at h0 ⊢
 rw [if_neg hin,hso] at h0 ⊢
 by_cases hd:x.fDef≠-1
 · rw [if_pos hd] at h0 ⊢
   exact ⟨i,k,o,x,rfl,ho,hx,hd,rfl,rfl⟩
 · rw [if_neg hd] at h0 ⊢
   by_cases hf:(fnd l x.fName).2.2=false
   · rw [if_pos hf] at h0;exact absurd h0 (by decide)
   · rw [if_neg hf] at h0 ⊢
     obtain ⟨i2,k2,o2,y,hfe,ho2,hy,hgy⟩:=fnd_some (show (fnd l x.fName).2.2=true by simpa using hf)
     rw [hfe] at h0 ⊢
     dsimp only at h0 ⊢
     rw [symOf_eq ho2 hy] at h0 ⊢
     by_cases hne:y.fSort≠x.fSort∨y.fKind≠x.fKind
     · rw [if_pos hne] at h0;exact absurd h0 (by decide)
     · rw [if_neg hne]
       unfold isG at hgy
       simp only [Bool.and_eq_true,decide_eq_true_eq] at hgy
       exact ⟨i2,k2,o2,y,rfl,ho2,hy,hgy.1.2,by omega,by omega⟩
theorem obj_zero {o:ApiObject}(h:objE o=0):¬ manyO o∧(∀ i,i<o.fSymbols.length→symE o i=0)∧∀ i,i<o.fFuncs.length+o.fDatas.length→itemE o i=0:=by
 unfold objE at h
 split at h
 · exact absurd h (by decide)
 · next hm=>
   split at h
   · next h1=>exact absurd h h1
   · next h1=>
     refine ⟨hm,fun i hi=>?_,fun i hi=>?_⟩
     · exact fstE_zero.1 (Classical.not_not.1 h1) _ (List.mem_map.2 ⟨i,List.mem_range.2 hi,rfl⟩)
     · exact fstE_zero.1 h _ (List.mem_map.2 ⟨i,List.mem_range.2 hi,rfl⟩)
theorem sym_zero {o:ApiObject}{i:Nat}{x:ApiSymbol}(h:symE o i=0) (hx:o.fSymbols[i]?=some x):x.fDef = -1∨(0≤x.fDef∧x.fDef<(mostN o x:Int)):=by
 rw [symE_at hx] at h
 unfold symX at h
 split at h
 · next h1=>exact absurd h h1
 · split at h
   · exact absurd h (by decide)
   · split at h
     · exact absurd h (by decide)
     · split at h
       · exact absurd h (by decide)
       · next h1=>omega
theorem item_fun {o:ApiObject}{i:Nat}{f:ApiFunc}(h:itemE o i=0) (hf:o.fFuncs[i]?=some f):0≤definerF o (i:Int)∧f.fClass=dKind o i∧chkE f o.fSymbols=0∧rangeF f=0:=by
 have hfg:o.fFuncs.getD i default=f:=by rw [List.getD_eq_getElem?_getD,hf];rfl
 have hil:=(List.getElem?_eq_some_iff.1 hf).1
 unfold itemE at h
 split at h
 · exact absurd h (by decide)
 · next h1=>
   rw [if_neg ZO,hfg] at h
   split at h
   · exact absurd h (by decide)
   · next h2=>
     unfold funE at h
     split at h
     · next h3=>exact absurd h h3
     · next h3=>exact ⟨by omega,Classical.not_not.1 h2,Classical.not_not.1 h3,h⟩
theorem item_dat {o:ApiObject}{k:Nat}{d:ApiData}(h:itemE o (o.fFuncs.length+k)=0) (hd:o.fDatas[k]?=some d):0≤definerF o ((o.fFuncs.length+k:Nat):Int)∧d.fKind=dKind o (o.fFuncs.length+k)∧dataF d o.fSymbols=0:=by
 have hdg:o.fDatas.getD (o.fFuncs.length+k-o.fFuncs.length) default=d:=by rw [show o.fFuncs.length+k-o.fFuncs.length=k by omega,List.getD_eq_getElem?_getD,hd];rfl
 unfold itemE at h
 split at h
 · exact absurd h (by decide)
 · next h1=>
   rw [if_pos ZO,hdg] at h
   split at h
   · exact absurd h (by decide)
   · next h2=>exact ⟨by omega,Classical.not_not.1 h2,h⟩
theorem ref_zero {f:ApiFunc}{l:List ApiSymbol}(h:chkE f l=0) {j:Nat}(hj:j<f.fCode.length):refE f l (j:Int)=0:=by
 unfold chkE at h
 split at h
 · next h1=>exact absurd h h1
 · have hi:instrF f l (j:Int)=0:=fstE_zero.1 h _ (List.mem_map.2 ⟨j,List.mem_range.2 hj,rfl⟩)
   unfold instrF at hi
   rw [if_neg ZO] at hi
   split at hi
   · next h2=>exact absurd hi h2
   · next h2=>exact Classical.not_not.1 h2
theorem sym_in {f:ApiFunc}{l:List ApiSymbol}(h:chkE f l=0) {j:Nat}(hj:j<f.fCode.length) (hs:0≤symF f (j:Int)):symF f (j:Int)<(l.length:Int):=by
 have hr:=ref_zero h hj
 unfold refE at hr
 split at hr
 · next h1=>
   have:symF f (j:Int) = -1:=by unfold symF;rw [if_pos h1.2]
   omega
 · split at hr
   · exact absurd hr (by decide)
   · next h1=>omega
theorem syms_in {f:ApiFunc}{l:List ApiSymbol}(h:chkE f l=0):∀ s ∈ symsF f,0≤s→s<(l.length:Int):=by
 intro s hs h0
 obtain ⟨j,hj,rfl⟩:=List.mem_map.1 hs
 exact sym_in h (List.mem_range.1 hj) h0
theorem refs_in {d:ApiData}{l:List ApiSymbol}(h:dataF d l=0):∀ s ∈ refsD d,0≤s→s<(l.length:Int):=by
 intro s hs h0
 obtain ⟨m,hm,rfl⟩:=List.mem_map.1 hs
 obtain ⟨i,hi,rfl⟩:=List.mem_map.1 hm
 unfold refD at h0 ⊢
 split at h0
 · next h1=>
   rw [if_pos h1]
   obtain ⟨k,x,hk,hx,hp⟩:=idxI_at h1
   rw [hk,Int.toNat_natCast,List.getD_eq_getElem?_getD,hx] at h0 ⊢
   have hkl:=(List.getElem?_eq_some_iff.1 hx).1
   unfold dataF at h
   split at h
   · exact absurd h (by decide)
   · split at h
     · exact absurd h (by decide)
     · split at h
       · exact absurd h (by decide)
       · have hr:relE d l k=0:=fstE_zero.1 h _ (List.mem_map.2 ⟨k,List.mem_range.2 hkl,rfl⟩)
         rw [relE_at hx] at hr
         unfold dRelE at hr
         split at hr
         · exact absurd hr (by decide)
         · next h2=>
           show x.fSym<_
           omega
 · omega
structure OkL (l:List ApiObject):Prop where
  few:FewO l
  objs:∀ o ∈ l,objE o=0
  chk:(chk23 l).1=0
abbrev BndOk (l:List ApiObject) (i k:Nat):Prop:=∃ (i2 k2:Nat) (o2:ApiObject) (y:ApiSymbol),bndF l i k=((i2:Int),(k2:Int),0)∧l[i2]?=some o2∧o2.fSymbols[k2]?=some y∧0≤y.fDef∧y.fDef<(mostN o2 y:Int)
theorem OkL.bnd {l:List ApiObject}(h:OkL l) {i k:Nat}{o:ApiObject}(ho:l[i]?=some o) (hk:k<o.fSymbols.length):BndOk l i k:=by
 obtain ⟨i2,k2,o2,y,e,ho2,hy,hd,_,_⟩:=bnd_ok h.chk ho (List.getElem?_eq_getElem hk)
 have h1:=(obj_zero (h.objs o2 (List.mem_of_getElem? ho2))).2.1 k2 (List.getElem?_eq_some_iff.1 hy).1
 rcases sym_zero h1 hy with h2 | h2
 · exact absurd h2 hd
 · exact ⟨i2,k2,o2,y,e,ho2,hy,h2.1,h2.2⟩
theorem most_le {l:List ApiObject}(h:FewO l) {o:ApiObject}(ho:o ∈ l) (y:ApiSymbol):mostN o y≤20:=by
 unfold mostN
 have h1:=h.funcs o ho
 have h2:=h.datas o ho
 split <;> omega
theorem OkL.syms {l:List ApiObject}(h:OkL l) {i:Nat}{o:ApiObject}(ho:l[i]?=some o) {syms:List Int}(hs:∀ s ∈ syms,0≤s→s<(o.fSymbols.length:Int)):∀ s ∈ syms,∀ k:Nat,s=(k:Int)→BndOk l i k:=by
 rintro s hm k rfl
 have:=hs _ hm ZO
 exact h.bnd ho ZO
end Go.Proofs.YtafiabekcekdbaaGreatW
namespace Go.Proofs.YtafiabekcekdbaaGreatO
set_option maxRecDepth 100000
set_option maxHeartbeats 4000000
open Go.RowKit Go.Proofs.YtafiabekcekdbaaGreatK Go.Proofs.YtafiabekcekdbaaGreatT Go.Proofs.YtafiabekcekdbaaGreatL Go.Proofs.YtafiabekcekdbaaGreatV Go.Proofs.YtafiabekcekdbaaGreatG Go.Proofs.YtafiabekcekdbaaGreatW

theorem bind_name {B:Base}{w:World}(hS:St B [] w) (o:ApiObject) (oc:List Value) (ho:kApiObject.K B.e o oc) (hg:GoodO o) (item:Int) (h0:0≤definerF o item) :
 CW 78 #[.agg oc.toArray,.int .i64 item] w (Ret B (fun _:Unit=>True) (fun _=>.string (nameI o item)) (fun _=>[])):=by
 obtain ⟨A0,c0,A1,c1,A2,c2,rfl,m0,q0,m1,q1,m2,q2⟩:=kApiObject_open ho
 have hn0:=hg.syms
 obtain ⟨k,x,hk,hx,-⟩:=definer_at h0
 have hkl:=(List.getElem?_eq_some_iff.1 hx).1
 obtain ⟨e1,cs1,hE⟩:=q0.elm hx
 obtain rfl:=kApiSymbol_open hE.K
 have hnm:nameI o item=x.fName:=by unfold nameI;rw [hk,Int.toNat_natCast,List.getD_eq_getElem?_getD,hx];rfl
 rw [hnm]
 refine ZX Tryz.func78 hS ?_
 refine Zh (Zi (oBox J ZP (fun b2=>?_)))
 refine Zp J (Zn (Za (Zh (wDrawG J [0,1,2,3] [(4,[0,1],[5,6,7])] [8] 24 ZK J J (fun w0=>?_)))))
 refine Zz (n:=0) (m:=0) J J J (Zld ?_)
 refine Zla ?_
 refine Zo J (Z4 (Z5 J ?_))
 (refine ZC0 rfl ZK (fun w hS=>frame hS ZQ (fun B' hB hS'=>obj_Definer hS' o _ (kApiObject.K_grow hB ho) hg item)) ?_;rintro ⟨⟩ -)
 refine ZS0 (t:=9) (v':=.int .i64 (k:Int)) rfl (by rw [hk]) ?_
 refine ZG ?_ J (fun w0=>?_)
 refine Z8 J J J J (fun w0=>?_) ?_
 refine Zz (n:=0) (m:=0) J J J ?_
 exact Z9 rfl
 refine Z8 J J J J (fun w0=>?_) ?_
 refine Zld ?_
 exact Z9 rfl
 exact AgainG.nil
 refine oIdxE J J (hE) ZO J J ?_
 have hc10:=(hE).cell
 refine ZF (ZT 0) (ZT 0) ?_
 refine Zlx hc10 ?_
 refine Z6 (Zza ?_)
 exact ⟨(),trivial,rfl,Lh⟩
end Go.Proofs.YtafiabekcekdbaaGreatO
namespace Go.Proofs.YtafiabekcekdbaaGreatS
set_option maxRecDepth 100000
set_option maxHeartbeats 4000000
open Go.RowKit Go.Proofs.YtafiabekcekdbaaGreatK Go.Proofs.YtafiabekcekdbaaGreatT

def fileSyms (i:Nat) (o:ApiObject):List (Nat×Nat×ApiSymbol):=o.fSymbols.mapIdx fun k x=>(i,k,x)
def symsFrom:Nat→List ApiObject→List (Nat×Nat×ApiSymbol)
  | _,[]=>[]
  | i,o :: l=>fileSyms i o++symsFrom (i+1) l
abbrev symV (x:ApiSymbol):Value:=.agg #[.string x.fName,.bool x.fLocal,.int .i64 x.fSort,.int .i64 x.fKind,.int .i64 x.fDef]
abbrev placeV (p:Nat×Nat):Value:=.agg #[.int .i64 p.1,.int .i64 p.2]
def symArgs (y:Nat×Nat×ApiSymbol):List Value:=[placeV (y.1,y.2.1),symV y.2.2]
def Small (l:List ApiObject):Prop:=l.length≤1000∧∀ o ∈ l,o.fSymbols.length≤1000
theorem drop_at {α:Type}{l:List α}{j:Nat}{y:α}{r:List α}(h:l.drop j=y :: r):∃ hj:j<l.length,l[j]=y∧l.drop (j+1)=r:=by
 have hj:j<l.length:=by
  rcases Nat.lt_or_ge j l.length with hj | hj
  · exact hj
  · rw [List.drop_of_length_le hj] at h;cases h
 rw [List.drop_eq_getElem_cons hj] at h
 injection h with h1 h2
 exact ⟨hj,h1,h2⟩
theorem drop_file {l:List ApiObject}{i:Nat}{o:ApiObject}(h:l[i]?=some o):symsFrom i (l.drop i)=fileSyms i o++symsFrom (i+1) (l.drop (i+1)):=by
 obtain ⟨hi,rfl⟩:=List.getElem?_eq_some_iff.1 h
 rw [List.drop_eq_getElem_cons hi]
 rfl
theorem drop_sym {i k:Nat}{o:ApiObject}{x:ApiSymbol}{r:List (Nat×Nat×ApiSymbol)}(h:o.fSymbols[k]?=some x):(fileSyms i o).drop k++r=(i,k,x) :: ((fileSyms i o).drop (k+1)++r):=by
 obtain ⟨hk,rfl⟩:=List.getElem?_eq_some_iff.1 h
 rw [List.drop_eq_getElem_cons (by simpa [fileSyms] using hk)]
 simp [fileSyms]
def isGlobal (x:ApiSymbol):Bool:=!x.fLocal && !decide (x.fDef = -1)

theorem global_any {B:Base}{w:World}(hS:St B [] w) (x:ApiSymbol) :
 CW 115 #[symV x] w (Ret B (fun _:Unit=>True) (fun _=>.bool (isGlobal x)) (fun _=>[])):=by
 refine ZX Tryz.func115 hS ?_
 refine Zh (Zi (oBox J ZP (fun b1=>?_)))
 refine Zp J (Zn (Za (Zh (Zi (Zz (n:=1) (m:=1) J J J (Zld ?_))))))
 refine Zno ?_
 refine Zo J (ZS (ZT 6) (fun h6=>?_) (fun h6=>?_))
 refine Zq J J (Zz (n:=4) (m:=4) J J J (Zzf ?_))
 refine Zq J J (Z0 J J (Zt J J (Zza ?_)))
 exact ⟨(),trivial,by simp_all [isGlobal,resVal],Lh⟩
 refine Zr J J J J (Zzp ?_)
 exact ⟨(),trivial,by simp_all [isGlobal,resVal],Lh⟩
theorem all_any {B:Base}{w:World}(hS:St B [] w) (A:Option Addr) (n cp:Nat) :
 CW 113 #[.slice A n cp] w (Ret B (fun _:Nat=>True) (fun b=>.func (.func 156) #[] #[.pointer (some ⟨b,0,none⟩)]) (fun b=>[blk b 38 [.slice A n cp]])):=by
 refine ZX Tryz.func113 hS ?_
 refine Zh (Zi (oBox J ZP (fun b1=>?_)))
 refine Zp J (Zn (Za (Zh (Zi (oMakeFunc J (Zza ?_))))))
 exact ⟨b1,trivial,rfl,Lh⟩

theorem all1 {B:Base}(l:List ApiObject) (A:Option Addr) (cp b:Nat) (hC:kApiObject.C B.e A l) (hl:Small l) :
 IterC Tryz.prog 156 #[.pointer (some ⟨b,0,none⟩)] B ((symsFrom 0 l).map symArgs) [blk b 38 [.slice A l.length cp]]:=by
 intro lp AI Ax r0 w hbody hA hS
 have hl1:=hl.1
 show CW 156 #[.func (.yield lp) #[] #[],.pointer (some ⟨b,0,none⟩)] w _
 refine ZX Tryz.func156 hS ?_
 refine Zh (Zi (Zld ?_))
 refine Zv J J (Zo J (Zn (Za (Zk (wLoop (ι:=Nat×Nat×Res) (fun z=>[(0,.func (.yield lp) #[] #[]),(7,.slice A l.length cp),(8,.int .i64 (l.length:Int)),(9,.int .i64 (z.1:Int))]) (fun z=>[z.2.2,blk b 38 [.slice A l.length cp]]) (fun z=>z.1≤l.length∧z.2.1≤(symsFrom 0 l).length∧AI z.2.1 z.2.2∧(symsFrom 0 l).drop z.2.1=symsFrom z.1 (l.drop z.1)) (fun z=>l.length-z.1) (0,0,r0) ?_ cv (Leads.has ZQ) ?_)))))
 exact ⟨Nat.zero_le _,Nat.zero_le _,hA,rfl⟩
 rintro ⟨i,j0,r0⟩ ⟨hi,hj0,hA,hd⟩
 dsimp only at hi hj0 hA hd
 try dsimp only
 refine Zh (Zi (Zx J J (Zn (Za (Zh (wC (fun h10=>?_) (fun h10=>?_)))))))
 refine Zj (Za (Zh (Zk (Zh (Zi (Zo J (oIdx J J (hC) J ZO J J (fun e12 u12 cs12 hu12 hk12 hc12=>?_))))))))
 obtain ⟨A0,c0,A1,c1,A2,c2,rfl,l0,g0,l1,g1,l2,g2⟩:=kApiObject_open hk12
 have ho1:=hl.2 _ (List.mem_of_getElem? hu12)
 refine Zlx hc12 ?_
 refine oAlloc J ZP (fun b4=>?_)
 refine Zp J (Zsa ?_)
 refine Zn (Za (Zh (Zi (Zz (n:=0) (m:=0) J J J (Zld ?_)))))
 refine Zv J J (Zo J (Zn (Za (Zk (wLoop (ι:=Nat×Nat×Res) (fun z=>[(0,.func (.yield lp) #[] #[]),(7,.slice A l.length cp),(8,.int .i64 (l.length:Int)),(9,.int .i64 (i:Int)),(3,.int .i64 (i:Int)),(15,.slice A0 u12.fSymbols.length c0),(16,.int .i64 (u12.fSymbols.length:Int)),(17,.int .i64 (z.1:Int))]) (fun z=>[z.2.2,blk b 38 [.slice A l.length cp]]) (fun z=>z.1≤u12.fSymbols.length∧z.2.1≤(symsFrom 0 l).length∧AI z.2.1 z.2.2∧(symsFrom 0 l).drop z.2.1=(fileSyms i u12).drop z.1++symsFrom (i+1) (l.drop (i+1))) (fun z=>u12.fSymbols.length-z.1) (0,j0,r0) ?_ cv (Leads.has ZQ) ?_)))))
 exact ⟨Nat.zero_le _,hj0,hA,hd.trans (drop_file hu12)⟩
 rintro ⟨k,j,r⟩ ⟨hk,hj1,hA,hd2⟩
 dsimp only at hk hj1 hA hd2
 try dsimp only
 refine Zh (Zi (Zx J J (Zn (Za (Zh (wC (fun h18=>?_) (fun h18=>?_)))))))
 refine Zj (Za (Zh (Zk (Zh (Zi (Zo J (oIdx J J (g0) J ZO J J (fun e20 u20 cs20 hu20 hk20 hc20=>?_))))))))
 obtain rfl:=kApiSymbol_open hk20
 obtain ⟨hjlt,hjg,hjd⟩:=drop_at (hd2.trans (drop_sym (r:=symsFrom (i+1) (l.drop (i+1))) hu20))
 have hY:∀ Fr W1,St B (r :: Fr) W1→YieldAt Fence.wide 0 Tryz.prog lp (symArgs (i,k,u20)).toArray W1 (YEnd B j AI Ax Fr):=by
  intro Fr W1 h1
  have:=hbody j (by simpa using hjlt) r Fr W1 hA h1
  rwa [List.getElem_map,hjg] at this
 refine Zlx hc20 ?_
 refine oAlloc J ZP (fun b6=>?_)
 refine Zp J (Zsa ?_)
 refine Zn (Za (Zh (Zi (Zo J (Zo J (Zo J (oBuild (Parts.cons J (Parts.cons J Parts.nil)) J J (Built.cons (off:=0) (s:=1) J ZP J ZP (Built.cons (off:=1) (s:=1) J ZP J ZP Built.nil)) ?_)))))))
 refine Zla ?_
 refine oYield J J J (fun w hS=>hY _ w (hS.perm (Pick.perm ZP))) ?_
 rintro ⟨bb,r'⟩ hr'
 dsimp only at hr' ⊢
 refine Zno ?_
 refine Zn (Za (wC (fun h28=>?_) (fun h28=>?_)))
 refine Zl (Zf (Zc (Zc (Zf (Zf (Zc (Zc (Zf (Zw ?_)))))))))
 refine ⟨rfl,_,ResL.nil,?_⟩
 exact ⟨r',.inr ⟨j,by simpa using hjlt,by rw [if_neg (by simpa using h28)] at hr';exact hr'⟩,rfl,Lh⟩
 refine Zj (Zzi ?_)
 refine Zo J (Zn (Za ?_))
 exact ⟨rfl,(k+1,j+1,r'),⟨by show k+1≤_;omega,hjlt,by rw [if_pos (by simpa using h28)] at hr';exact hr',hjd⟩,by show u12.fSymbols.length-(k+1)<u12.fSymbols.length-k;omega,cv,Lh⟩
 refine Zm (Zb (Zb (Ze (Zzi ?_))))
 refine Zo J (Zn (Za ?_))
 exact ⟨rfl,(i+1,j,r),⟨by show i+1≤_;omega,hj1,hA,by rw [hd2,List.drop_of_length_le (by simp only [fileSyms,List.length_mapIdx];omega)];rfl⟩,by show l.length-(i+1)<l.length-i;omega,cv,Lh⟩
 refine Zm (Zb (Zb (Ze (fin_n ?_))))
 refine ⟨rfl,_,ResL.nil,?_⟩
 have hj:j0=((symsFrom 0 l).map symArgs).length:=by
  obtain rfl:i=l.length:=by omega
  rw [List.drop_length,symsFrom] at hd
  have:=List.drop_eq_nil_iff.1 hd
  rw [List.length_map];omega
 exact ⟨r0,.inl (hj ▸ hA),rfl,Lh⟩
def fst_ (ys:List (Nat×Nat×ApiSymbol)) (n:ByteArray):Option (Nat×Nat):=(ys.find? fun y=>isGlobal y.2.2 && decide (y.2.2.fName=n)).map fun y=>(y.1,y.2.1)
theorem fst_succ {ys:List (Nat×Nat×ApiSymbol)}{j:Nat}(h:j<ys.length):fst_ (ys.take (j+1))=fun n=>if n=ys[j].2.2.fName then (if (isGlobal ys[j].2.2 && !(fst_ (ys.take j) n).isSome)=true then some (ys[j].1,ys[j].2.1) else fst_ (ys.take j) n) else fst_ (ys.take j) n:=by
 funext n
 rw [List.take_succ_eq_append_getElem h]
 unfold fst_
 rw [List.find?_append]
 cases hf:(ys.take j).find? (fun y=>isGlobal y.2.2 && decide (y.2.2.fName=n)) with
 | some y=>simp
 | none=>
  by_cases hn:n=ys[j].2.2.fName
  · subst hn
    cases hg:isGlobal ys[j].2.2 <;> simp [hg]
  · have:¬ ys[j].2.2.fName=n:=fun e=>hn e.symm
    simp [this,hn]

theorem firsts_any {B:Base}{w:World}(hS:St B [] w) (A:Option Addr) (cp:Nat) (l:List ApiObject) (hC:kApiObject.C B.e A l) (hl:Small l) :
 CW 77 #[.slice A l.length cp] w (Ret B (fun _:Nat=>True) (fun m=>.map (some m)) (fun m=>[kmap Value.string placeV m (fst_ (symsFrom 0 l))])):=by
 (refine enterM Tryz.func77 J J hS ?_;simp only [List.zipIdx_cons,List.zipIdx_nil,List.map_cons,List.map_nil,Nat.reduceAdd,Nat.zero_add])
 refine Zh (Zi (Zp J (Zn (Za (Zh (Zi (oMakeMap Value.string placeV (fun b8=>?_))))))))
 refine oAlloc J ZP (fun b3=>?_)
 refine Zst ?_
 refine Zn (Za (Zh (Zh (Zi (Zo J ?_)))))
 (refine ZC0 rfl ZK (fun w hS=>frame hS ZQ (fun B' hB hS'=>all_any hS' A l.length cp)) ?_;rintro bl -)
 refine Zn (Za (Zk ?_))
 refine wRange rfl rfl ZK (all1 l A cp bl hC hl) (by rintro _ h;obtain ⟨y,_,rfl⟩:=List.mem_map.1 h;rfl) rfl (ι:=Nat) (κ:=Unit) (fun j z=>z=j) (fun z=>[blk b3 115 [.map (some b8)],kmap Value.string placeV b8 (fst_ ((symsFrom 0 l).take z))]) (fun x z=>False) (fun x z=>[]) 0 rfl (Leads.has ZQ) ?_ ?_ ?_
 intro lp0 B' R1 R2 j hj
 rintro i hB rfl
 have hj':i<(symsFrom 0 l).length:=by simpa using hj
 have hst:=fst_succ hj'
 rw [List.getElem_map]
 generalize (symsFrom 0 l)[i]=y at *
 obtain ⟨yi,yk,x⟩:=y
 dsimp only [hand,symArgs]
 refine Zh (Zi (oAlloc J ZP (fun b4=>?_)))
 refine Zsa ?_
 refine Zn (Za (Zi (oAlloc J ZP (fun b5=>?_))))
 refine Zsa ?_
 refine Zn (aq_n ZP ?_)
 refine Zk (Zh (Zi (Zld ?_)))
 refine Zz (n:=0) (m:=0) J J J (Zld ?_)
 refine oLookOk (ev:=placeV) (m:=fst_ ((symsFrom 0 l).take i)) keyE_str J J J ZP (r:=placeV ((fst_ ((symsFrom 0 l).take i) x.fName).getD (0,0))) (by cases fst_ ((symsFrom 0 l).take i) x.fName <;> rfl) ?_
 refine Zo J (oExt J ZP ?_)
 refine oExt J ZP ?_
 refine oAlloc J ZP (fun b6=>?_)
 refine Zsa ?_
 refine Zp J (Zn (Za (Zzs ?_)))
 (refine ZC0 rfl ZK (fun w hS=>frame hS ZQ (fun B' hB hS'=>global_any hS' x)) ?_;rintro ⟨⟩ -)
 refine Zo J (ZS (ZT 22) (fun h22=>?_) (fun h22=>?_))
 refine Zq J J (Zo J (Zq J J (Zno ?_)))
 refine Zt J J (Zn (Za (wC (fun h25=>?_) (fun h25=>?_))))
 refine Zi (Zld ?_)
 refine Zz (n:=0) (m:=0) J J J (Zld ?_)
 refine Zla ?_
 refine oMapUpd (ev:=placeV) (u:=(yi,yk)) keyE_str J J J J ZP ?_
 refine Zn (Zd (rq_n ?_))
 have e0:fst_ ((symsFrom 0 l).take (i+1))=fun k'=>if k'=x.fName then some (yi,yk) else fst_ ((symsFrom 0 l).take i) k':=by
  rw [hst];funext n;by_cases hn:n=x.fName
  · subst hn;simp_all
  · simp [hn]
 exact ⟨i+1,rfl,by rw [e0];exact Lh⟩
 refine Zj (Zd (rq_n ?_))
 have e0:fst_ ((symsFrom 0 l).take (i+1))=fst_ ((symsFrom 0 l).take i):=by
  rw [hst];funext n;by_cases hn:n=x.fName
  · subst hn;simp_all
  · simp [hn]
 exact ⟨i+1,rfl,by rw [e0];exact Lh⟩
 refine Zr J J J J (Zr J J J J (Zu J J (Zn (Za (wCondF J (Zj (Zd (rq_n ?_))))))))
 have e0:fst_ ((symsFrom 0 l).take (i+1))=fst_ ((symsFrom 0 l).take i):=by
  rw [hst];funext n;by_cases hn:n=x.fName
  · subst hn;simp_all
  · simp [hn]
 exact ⟨i+1,rfl,by rw [e0];exact Lh⟩
 rintro i Dm0 rfl
 try dsimp only
 refine Zd (Za (Zh (Zi (Zld ?_))))
 refine Zp J (Zn (Za (Zl (finM_r (Ds:=[Dm0]) J ZQ (ResL.cons (ResR.tmp J) ResL.nil) ?_))))
 exact ⟨b8,trivial,rfl,by simp only [List.length_map,List.take_length];exact Lh⟩
 rintro _ _ _ h;exact h.elim
def firstOf (l:List ApiObject) (s:ByteArray):Option (Nat×Nat):=fst_ (symsFrom 0 l) s
def isFirst (s:ByteArray) (y:Nat×Nat×ApiSymbol):Bool:=isGlobal y.2.2 && decide (y.2.2.fName=s)
theorem firstOf_eq (l:List ApiObject) (s:ByteArray):firstOf l s=((symsFrom 0 l).find? (isFirst s)).map (fun y=>(y.1,y.2.1)):=rfl
theorem mem_symsFrom {y:Nat×Nat×ApiSymbol} : ∀ (i:Nat) (l:List ApiObject),y ∈ symsFrom i l↔∃ j,y.1=i+j∧j<l.length∧y.2.1<(l.getD j default).fSymbols.length∧(l.getD j default).fSymbols.getD y.2.1 default=y.2.2
 | i,[]=>by simp [symsFrom]
 | i,o :: l=>by
  obtain ⟨y1,y2,x⟩:=y
  rw [symsFrom,List.mem_append,mem_symsFrom (i+1) l]
  constructor
  · rintro (h | ⟨j,h1,h2,h3,h4⟩)
    · obtain ⟨k,hk,he⟩:=List.mem_mapIdx.1 h
      injection he with e1 e2
      injection e2 with e2 e3
      subst e1;subst e2;subst e3
      exact ⟨0,rfl,by simp,by simpa using hk,by simp [hk]⟩
    · exact ⟨j+1,by simp only at h1 ⊢;omega,by simp;omega,by simpa using h3,by simpa using h4⟩
  · rintro ⟨j,h1,h2,h3,h4⟩
    cases j with
    | zero=>
     left
     have h3':y2<o.fSymbols.length:=by simpa using h3
     refine List.mem_mapIdx.2 ⟨y2,h3',?_⟩
     have:o.fSymbols[y2]=x:=by simpa [h3'] using h4
     simp only [Nat.add_zero] at h1
     simp [h1,this]
    | succ j=>exact .inr ⟨j,by simp only at h1 ⊢;omega,by simpa using h2,by simpa using h3,by simpa using h4⟩
def badAt (l:List ApiObject) (i k:Int):Bool:=decide (i<0) || decide ((l.length:Int)≤i) || decide (k<0) || decide (((l.getD i.toNat default).fSymbols.length:Int)≤k)
def symAt (l:List ApiObject) (i k:Int):ApiSymbol:=(l.getD i.toNat default).fSymbols.getD k.toNat default
def boundS (l:List ApiObject) (i k:Int):Int×Int×Int:=
  if badAt l i k then (0,0,2) else
  if (symAt l i k).fDef≠-1 then (i,k,0) else
  match firstOf l (symAt l i k).fName with
  | none=>(0,0,13)
  | some p=>if (symAt l p.1 p.2).fSort≠(symAt l i k).fSort∨(symAt l p.1 p.2).fKind≠(symAt l i k).fKind then (0,0,14) else (p.1,p.2,0)
def twiceP (l:List ApiObject) (y:Nat×Nat×ApiSymbol):Bool:=isGlobal y.2.2 && !decide (((firstOf l y.2.2.fName).getD (0,0))=(y.1,y.2.1))
def twiceS (l:List ApiObject):Option (Nat×Nat):=((symsFrom 0 l).find? (twiceP l)).map (fun y=>(y.1,y.2.1))

def NoneTo {α:Type}(P:α→Bool) (L:List α) (j:Nat):Prop:=(L.take j).find? P=none
theorem NoneTo.zero {α:Type}(P:α→Bool) (L:List α):NoneTo P L 0:=rfl
theorem NoneTo.all {α:Type}{P:α→Bool}{L:List α}(h:NoneTo P L L.length):L.find? P=none:=by rw [NoneTo,List.take_length] at h;exact h
theorem NoneTo.next {α:Type}{P:α→Bool}{L:List α}{j:Nat}(h:NoneTo P L j) (hj:j<L.length) (hp:P L[j]=false):NoneTo P L (j+1):=by
 unfold NoneTo at *
 rw [List.take_succ_eq_append_getElem hj,List.find?_append,h];simp [hp]
theorem NoneTo.found {α:Type}{P:α→Bool}{L:List α}{j:Nat}(h:NoneTo P L j) (hj:j<L.length) (hp:P L[j]=true):L.find? P=some L[j]:=by
 have e:L.find? P=(L.take j++L.drop j).find? P:=by rw [List.take_append_drop]
 rw [e,List.find?_append,h,List.drop_eq_getElem_cons hj,List.find?_cons,hp];rfl
def unboundP (l:List ApiObject) (y:Nat×Nat×ApiSymbol):Bool:=!decide ((boundS l y.1 y.2.1).2.2=0)
def checkS (l:List ApiObject):Int×Int×Int:=
  if l.length=0∨6<l.length then (19,-1,-1) else
  match twiceS l with
  | some p=>(12,p.1,p.2)
  | none=>match (symsFrom 0 l).find? (unboundP l) with
    | some y=>((boundS l y.1 y.2.1).2.2,y.1,y.2.1)
    | none=>(0,0,0)
theorem mem_syms {l:List ApiObject}{i k:Nat}{x:ApiSymbol} : (i,k,x) ∈ symsFrom 0 l↔i<l.length∧k<(l.getD i default).fSymbols.length∧(l.getD i default).fSymbols.getD k default=x:=by
 rw [mem_symsFrom]
 constructor
 · rintro ⟨j,h1,h2,h3,h4⟩
   simp only [Nat.zero_add] at h1
   subst h1
   exact ⟨h2,h3,h4⟩
 · rintro ⟨h2,h3,h4⟩;exact ⟨i,by simp,h2,h3,h4⟩
theorem first_some {l:List ApiObject}{s:ByteArray}{p:Nat×Nat}(h:firstOf l s=some p):∃ x,(p.1,p.2,x) ∈ symsFrom 0 l∧isGlobal x=true∧x.fName=s:=by
 rw [firstOf_eq] at h
 obtain ⟨⟨i,k,x⟩,hy,rfl⟩:=Option.map_eq_some_iff.1 h
 have h1:=List.mem_of_find?_eq_some hy
 have h2:=List.find?_some hy
 simp only [isFirst,Bool.and_eq_true,decide_eq_true_eq] at h2
 exact ⟨x,h1,h2⟩
theorem symAt_eq {l:List ApiObject}{i k:Nat}{x:ApiSymbol}(hm:(i,k,x) ∈ symsFrom 0 l):symAt l i k=x∧badAt l i k=false:=by
 obtain ⟨h1,h2,h3⟩:=mem_syms.1 hm
 refine ⟨by simpa [symAt] using h3,?_⟩
 unfold badAt
 rw [Int.toNat_natCast,decide_eq_false (show ¬ (i:Int)<0 by omega),decide_eq_false (show ¬ (k:Int)<0 by omega),decide_eq_false (show ¬ (l.length:Int)≤i by omega),decide_eq_false ZO]
 rfl
theorem find_any {B:Base}{w:World}(hS:St B [] w) (A:Option Addr) (cp:Nat) (l:List ApiObject) (s:ByteArray) (hC:kApiObject.C B.e A l) (hl:Small l) :
 CW 40 #[.slice A l.length cp,.string s] w (Ret B (fun _:Unit=>True) (fun _=>.tuple #[.int .i64 ((firstOf l s).getD (0,0)).1,.int .i64 ((firstOf l s).getD (0,0)).2,.bool (firstOf l s).isSome]) (fun _=>[])):=by
 refine ZX Tryz.func40 hS ?_
 refine Zh (Zi (Zp J (Zp J (Zp J (Zn (Zzm ?_))))))
 (refine ZC0 rfl ZK (fun w hS=>frame hS ZQ (fun B' hB hS'=>firsts_any hS' A cp l (Kd.C_grow hB hC) hl)) ?_;rintro m -)
 refine Zo J ?_
 refine oLookOk (ev:=placeV) (m:=firstOf l) keyE_str J J J ZP (r:=placeV ((firstOf l s).getD (0,0))) (by cases firstOf l s <;> rfl) ?_
 refine Zo J (oExt J ZP ?_)
 refine oExt J ZP ?_
 refine oAlloc J ZP (fun b7=>?_)
 refine Zsa ?_
 refine Zp J (Zn (Za (Zh (wDraw2 J J [4] [0,1,2,3,5,6] 7 ZK J J J (fun w0=>?_)))))
 refine Zz (n:=0) (m:=0) J J J (Zld ?_)
 refine Zz (n:=1) (m:=1) J J J (Zld ?_)
 refine Zp J (Zp J (oHead (Zp J (oNilT (Za (Zl (Zw ?_)))))))
 refine ⟨rfl,_,(ResL.cons (ResR.tmp rfl) (ResL.cons (ResR.tmp rfl) (ResL.cons (ResR.tmp rfl) ResL.nil))),?_⟩
 exact ⟨(),trivial,rfl,Lh⟩
theorem getD_of {α:Type} [Inhabited α] {l:List α}{i:Nat}{o:α}(h:l[i]?=some o):l.getD i default=o:=by rw [List.getD_eq_getElem?_getD,h];rfl
abbrev boundV (r:Int×Int×Int):Value:=.tuple #[.agg #[.int .i64 r.1,.int .i64 r.2.1],.int .i64 r.2.2]
theorem bound_bad {l:List ApiObject}{i k:Int}(h:i<0∨(l.length:Int)≤i∨k<0∨((l.getD i.toNat default).fSymbols.length:Int)≤k):boundS l i k=(0,0,2):=by
 unfold boundS
 rw [if_pos]
 unfold badAt
 simp only [Bool.or_eq_true,decide_eq_true_eq]
 rcases h with h | h | h | h
 · exact .inl (.inl (.inl h))
 · exact .inl (.inl (.inr h))
 · exact .inl (.inr h)
 · exact .inr h
theorem bound_good {l:List ApiObject}{i k:Nat}{o:ApiObject}{x:ApiSymbol}(ho:l[i]?=some o) (hx:o.fSymbols[k]?=some x):boundS l i k=if x.fDef≠-1 then ((i:Int),(k:Int),(0:Int)) else match firstOf l x.fName with
 | none=>(0,0,13)
 | some p=>if (symAt l p.1 p.2).fSort≠x.fSort∨(symAt l p.1 p.2).fKind≠x.fKind then (0,0,14) else ((p.1:Int),(p.2:Int),(0:Int)):=by
 have hi:=(List.getElem?_eq_some_iff.1 ho).1
 have hk:=(List.getElem?_eq_some_iff.1 hx).1
 have hm:(i,k,x) ∈ symsFrom 0 l:=mem_syms.2 ⟨hi,by rw [getD_of ho];exact hk,by rw [getD_of ho,getD_of hx]⟩
 obtain ⟨hs,hb⟩:=symAt_eq hm
 unfold boundS;rw [hb,hs];simp only [Bool.false_eq_true,if_false];try (cases firstOf l x.fName <;> rfl)

theorem bound_any {B:Base}{w:World}(A:Option Addr) (cp m:Nat) (l:List ApiObject) (i k:Int) (hS:St B [kmap Value.string placeV m (firstOf l)] w) (hC:kApiObject.C B.e A l) (hl:Small l) :
 CW 114 #[.slice A l.length cp,.map (some m),.int .i64 i,.int .i64 k] w (Ret B (fun _:Unit=>True) (fun _=>boundV (boundS l i k)) (fun _=>[kmap Value.string placeV m (firstOf l)])):=by
 refine ZX Tryz.func114 hS ?_
 refine Zh (Zi (oAlloc J ZP (fun b8=>?_)))
 refine Zp J (Zn (Za (Zh (Zh (Zi (Zo J (Zx J J (Zo J (ZS (ZT 16) (fun h16=>?_) (fun h16=>?_))))))))))
 refine Zr J J J J (Zr J J J J (Zr J J J J (Zr J J J J (Zt J J (Zo J (Zr J J J J (Zr J J J J (Zt J J (Zo J (Zr J J J J (Zr J J J J (Zr J J J J (Zr J J J J (Zr J J J J (Zr J J J J (Zr J J J J (Zr J J J J (Zt J J (Zn (Za (wCondT J (Zh (Zi (oBuild Parts.nil J J Built.nil (Zsa ?_)))))))))))))))))))))))))
 refine Zp J (Zzu ?_)
 exact ⟨(),trivial,by rw [bound_bad ZO];rfl,Lh⟩
 refine Zq J J (Zo J (Zq J J (Zo J (Zq J J (Zv J J (Zq J J (Z2 J J (Zu J J (Zo J (ZS (ZT 22) (fun h22=>?_) (fun h22=>?_)))))))))))
 refine Zr J J J J (Zr J J J J (Zt J J (Zo J (Zr J J J J (Zr J J J J (Zr J J J J (Zr J J J J (Zr J J J J (Zr J J J J (Zr J J J J (Zr J J J J (Zt J J (Zn (Za (wCondT J (Zh (Zi (oBuild Parts.nil J J Built.nil (Zsa ?_)))))))))))))))))))
 refine Zp J (Zzu ?_)
 exact ⟨(),trivial,by rw [bound_bad ZO];rfl,Lh⟩
 refine Zq J J (Zo J (Zq J J (Zx J J (Zu J J (Zo J (ZS (ZT 26) (fun h26=>?_) (fun h26=>?_)))))))
 refine Zr J J J J (Zr J J J J (Zr J J J J (Zr J J J J (Zr J J J J (Zr J J J J (Zr J J J J (Zr J J J J (Zt J J (Zn (Za (wCondT J (Zh (Zi (oBuild Parts.nil J J Built.nil (Zsa ?_)))))))))))))))
 refine Zp J (Zzu ?_)
 exact ⟨(),trivial,by rw [bound_bad ZO];rfl,Lh⟩
 obtain ⟨i,rfl⟩:=Int.eq_ofNat_of_zero_le (show 0≤i by omega)
 obtain ⟨k,rfl⟩:=Int.eq_ofNat_of_zero_le (show 0≤k by omega)
 refine Zq J J (Zo J (Zq J J (Zo J (Zq J J (Zo J (Zq J J (oIdx J J (hC) J ZO J J (fun e30 u30 cs30 hu30 hk30 hc30=>?_))))))))
 obtain ⟨A0,c0,A1,c1,A2,c2,rfl,l0,g0,l1,g1,l2,g2⟩:=kApiObject_open hk30
 refine Zq J J (ZF (ZT 0) (ZT 0) ?_)
 refine Zq J J (Zlx hc30 ?_)
 refine Zq J J (Zv J J (Zq J J (Z2 J J (Zu J J (Zn (Za (wC (fun h35=>?_) (fun h35=>?_))))))))
 refine Zh (Zi (oBuild Parts.nil J J Built.nil (Zsa ?_)))
 refine Zp J (Zzu ?_)
 exact ⟨(),trivial,by rw [bound_bad (by right;right;right;rw [Int.toNat_natCast,getD_of hu30];omega)];rfl,Lh⟩
 refine Zj (Za (Zh (Zi (Zo J (Zo J (oIdx J J (hC) J ZO J J (fun e39 u39 cs39 hu39 hk39 hc39=>?_)))))))
 obtain ⟨A0,c0,A1,c1,A2,c2,rfl,l0,g0,l1,g1,l2,g2⟩:=kApiObject_open hk39
 obtain rfl:=Option.some.inj (hu30.symm.trans hu39)
 refine ZF (ZT 0) (ZT 0) ?_
 refine Zlx hc39 ?_
 refine Zo J (oIdx J J (g0) J ZO J J (fun e43 u43 cs43 hu43 hk43 hc43=>?_))
 obtain rfl:=kApiSymbol_open hk43
 refine Zlx hc43 ?_
 refine oAlloc J ZP (fun b10=>?_)
 refine Zsa ?_
 refine Zn (Za (Zh (Zh (Zi (Zz (n:=4) (m:=4) J J J (Zld ?_))))))
 refine Z0 J J (Zn (Za (wC (fun h47=>?_) (fun h47=>?_))))
 refine Zh (Zi (Zo J (Zo J (oBuild (Parts.cons J (Parts.cons J Parts.nil)) J J (Built.cons (off:=0) (s:=1) J ZP J ZP (Built.cons (off:=1) (s:=1) J ZP J ZP Built.nil)) ?_))))
 refine Zsa ?_
 refine Zp J (Zzu ?_)
 exact ⟨(),trivial,by rw [bound_good hu30 hu43,if_pos h47];rfl,Lh⟩
 have hb:=bound_good hu30 hu43
 rw [if_neg h47] at hb
 refine Zj (Za (Zh (Zi (Zo J (Zz (n:=0) (m:=0) J J J (Zld ?_))))))
 refine oLookOk (ev:=placeV) (m:=firstOf l) keyE_str J J J ZP (r:=placeV ((firstOf l u43.fName).getD (0,0))) (by cases firstOf l u43.fName <;> rfl) ?_
 refine Zo J (oExt J ZP ?_)
 refine oExt J ZP ?_
 refine oAlloc J ZP (fun b11=>?_)
 refine Zsa ?_
 refine Zp J (Zn (Za (Zh (Zh (Zi (Zo J (Zno ?_)))))))
 refine Zn (Za (wC (fun h59=>?_) (fun h59=>?_)))
 refine Zh (Zi (oBuild Parts.nil J J Built.nil (Zsa ?_)))
 refine Zp J (Zzu ?_)
 exact ⟨(),trivial,by rw [hb,show firstOf l u43.fName=none by simpa using h59];rfl,Lh⟩
 have hf:firstOf l u43.fName=some ((firstOf l u43.fName).getD (0,0)):=by
  cases hq:firstOf l u43.fName with
  | none=>simp [hq] at h59
  | some p=>rfl
 obtain ⟨y,hy,hyg,hyn⟩:=first_some hf
 obtain ⟨hp1,hp2,_⟩:=mem_syms.1 hy
 refine Zj (Za (Zh (Zh (wDrawA J J [0] [1,2,3,4,5,6,7,8,9] 10 J J ZK J J J J (fun w0=>?_)))))
 refine Zz (n:=0) (m:=0) J J J (Zld ?_)
 refine oIdx J J (hC) J ZO J J (fun e64 u64 cs64 hu64 hk64 hc64=>?_)
 obtain ⟨A0,c0,A1,c1,A2,c2,rfl,l0,g0,l1,g1,l2,g2⟩:=kApiObject_open hk64
 refine ZF (ZT 0) (ZT 0) ?_
 refine Zlx hc64 ?_
 refine Zz (n:=1) (m:=1) J J J (Zld ?_)
 refine oIdx rfl rfl (g0) rfl (by rw [getD_of hu64] at hp2;exact hp2) rfl rfl (fun e69 u69 cs69 hu69 hk69 hc69=>?_)
 obtain rfl:=kApiSymbol_open hk69
 refine Zlx hc69 ?_
 have hs:symAt l ((firstOf l u43.fName).getD (0,0)).1 ((firstOf l u43.fName).getD (0,0)).2=u69:=by unfold symAt;rw [Int.toNat_natCast,Int.toNat_natCast,getD_of hu64,getD_of hu69]
 refine oHead (oAlloc J ZP (fun b13=>?_))
 refine Zsa ?_
 refine oNilT (Za (Zh (Zi (Zz (n:=2) (m:=2) J J J (Zld ?_)))))
 refine Zz (n:=2) (m:=2) J J J (Zld ?_)
 refine Z0 J J (Zo J (ZS (ZT 76) (fun h76=>?_) (fun h76=>?_)))
 refine Zr J J J J (Zr J J J J (Zr J J J J (Zr J J J J (Zr J J J J (Zt J J (Zn (Za (wCondT J (Zh (Zi (oBuild Parts.nil J J Built.nil (Zsa ?_))))))))))))
 refine Zp J (Zzu ?_)
 exact ⟨(),trivial,by rw [hb,hf];dsimp only;rw [hs,if_pos (.inl h76)];rfl,Lh⟩
 refine Zq J J (Zz (n:=3) (m:=3) J J J (Zzf ?_))
 refine Zq J J (Zz (n:=3) (m:=3) J J J (Zzf ?_))
 refine Zq J J (Z0 J J (Zu J J (Zn (Za (wC (fun h82=>?_) (fun h82=>?_))))))
 refine Zh (Zi (oBuild Parts.nil J J Built.nil (Zsa ?_)))
 refine Zp J (Zzu ?_)
 exact ⟨(),trivial,by rw [hb,hf];dsimp only;rw [hs,if_pos (.inr h82)];rfl,Lh⟩
 refine Zj (Za (Zzs ?_))
 refine Zsa ?_
 refine Zp J (Zn (Za (Zl (Zw (ZI2 ?_)))))
 exact ⟨(),trivial,by rw [hb,hf];dsimp only;rw [hs,if_neg (by rintro (h | h);exact h76 h;exact h82 h)];rfl,Lh⟩
theorem place_neq (p q:Nat×Nat) (w:World):(binOp .neq 113 (placeV p) (placeV q)).run Tryz.prog w=.ok (.bool (decide (¬ p=q))) w:=by
 obtain ⟨a,b⟩:=p
 obtain ⟨c,d⟩:=q
 simp [go_sem,binOp,Op.equal,Op.maxDepth]
 by_cases h1:a=c
 · subst h1
   by_cases h2:b=d
   · subst h2;simp
   · have:¬ (b:Int)=d:=by omega
     simp [h2,this]
 · have:¬ (a:Int)=c:=by omega
   simp [h1,this]
section
variable {c : Cx} {M : Md c} {d : Nat} {ty : TypeId} {pos : String} {af : Array Edge} {rest : List Oper} {E : Env} {D : List Deferred} {H : List Res} {x y : Operand} {t t' : TypeId}
theorem oBinV {op:BinOp}{u v r:Value}(hx:E.op x=some u) (hy:E.op y=some v) (hg:∀ w,(eqGuard op t x y u v).run c.P w=.ok () w) (hr:∀ w,(binOp op t u v).run c.P w=.ok r w) (h:O M rest ((d,r) :: E) D H) (hN:Nat.blt d c.N=true:=by rfl) :
 O M (⟨some d,.binOp op t x y t',ty,pos,af,none⟩ :: rest) E D H:=
 oC _ rfl hN (fun a w ha hw=>by simp only [execOp,ha.op hx,ha.op hy,Sem.run_bind,hg,Result.andThen_ok,hr,Sem.run_pure]) h
end
theorem twice_any {B:Base}{w:World}(hS:St B [] w) (A:Option Addr) (cp:Nat) (l:List ApiObject) (hC:kApiObject.C B.e A l) (hl:Small l) :
 CW 112 #[.slice A l.length cp] w
  (Ret B (fun _:Unit=>True) (fun _=>.tuple #[.agg #[.int .i64 (if (twiceS l).isSome then 12 else 0),.int .i64 ((twiceS l).getD (0,0)).1,.int .i64 ((twiceS l).getD (0,0)).2],.bool (twiceS l).isSome]) (fun _=>[])):=by
 (refine enterM Tryz.func112 J J hS ?_;simp only [List.zipIdx_cons,List.zipIdx_nil,List.map_cons,List.map_nil,Nat.reduceAdd,Nat.zero_add])
 refine Zh (Zi (oAlloc J ZP (fun b2=>?_)))
 refine oAlloc J ZP (fun b3=>?_)
 refine Zn (Zzm ?_)
 (refine ZC0 rfl ZK (fun w hS=>frame hS ZQ (fun B' hB hS'=>firsts_any hS' A cp l (Kd.C_grow hB hC) hl)) ?_;rintro m -)
 refine oAlloc J ZP (fun b4=>?_)
 refine Zst ?_
 refine Zn (Za (Zh (Zh (Zi (Zo J ?_)))))
 (refine ZC0 rfl ZK (fun w hS=>frame hS ZQ (fun B' hB hS'=>all_any hS' A l.length cp)) ?_;rintro bl -)
 refine Zn (Za (Zk ?_))
 refine wRange rfl rfl ZK (all1 l A cp bl hC hl) (by rintro _ h;obtain ⟨y,_,rfl⟩:=List.mem_map.1 h;rfl) rfl (ι:=Nat) (κ:=Nat×Nat) (fun j z=>z=j∧NoneTo (twiceP l) (symsFrom 0 l) z) (fun z=>[blk b2 45 [.int .i64 0,.int .i64 0,.int .i64 0],blk b3 4 [.bool false],blk b4 115 [.map (some m)],kmap Value.string placeV m (firstOf l)]) (fun x z=>x=.ret∧twiceS l=some z) (fun x z=>[blk b2 45 [.int .i64 12,.int .i64 (z.1:Int),.int .i64 (z.2:Int)],blk b3 4 [.bool true]]) 0 ⟨rfl,.zero _ _⟩ (Leads.has ZQ) ?_ ?_ ?_
 intro lp0 B' R1 R2 j hj
 rintro i hB ⟨rfl,hn⟩
 have hj':i<(symsFrom 0 l).length:=by simpa using hj
 have hnext:=hn.next hj'
 have hfound:=hn.found hj'
 rw [List.getElem_map]
 generalize (symsFrom 0 l)[i]=y at *
 obtain ⟨yi,yk,x⟩:=y
 dsimp only [hand,symArgs]
 refine Zh (Zi (oAlloc J ZP (fun b5=>?_)))
 refine Zsa ?_
 refine Zn (Za (Zi (oAlloc J ZP (fun b6=>?_))))
 refine Zsa ?_
 refine Zn (aq_n ZP ?_)
 refine Zk (Zzs ?_)
 (refine ZC0 rfl ZK (fun w hS=>frame hS ZQ (fun B' hB hS'=>global_any hS' x)) ?_;rintro ⟨⟩ -)
 refine Zo J (ZS (ZT 15) (fun h15=>?_) (fun h15=>?_))
 refine Zq J J (Zld ?_)
 refine Zq J J (Zz (n:=0) (m:=0) J J J (Zzf ?_))
 refine Zq J J ?_
 refine oLook (ev:=placeV) (m:=firstOf l) keyE_str J J J ZP (r:=placeV ((firstOf l x.fName).getD (0,0))) (by cases firstOf l x.fName <;> rfl) ?_
 refine Zq J J (Zla ?_)
 refine Zq J J (oBinV (r:=.bool (decide (¬ (firstOf l x.fName).getD (0,0)=(yi,yk)))) J J (fun w=>run_eqGuard_agg w .neq _ _ _ _ _ Tryz.eqGuardType113) (fun w=>place_neq _ (yi,yk) w) ?_)
 refine Zt J J (Zn (Za (wC (fun h22=>?_) (fun h22=>?_))))
 refine Zh (Zi (Zz (n:=0) (m:=0) J J J (Zld ?_)))
 refine Zz (n:=1) (m:=1) J J J (Zld ?_)
 refine oBuild (Parts.cons J (Parts.cons J (Parts.cons J Parts.nil))) J J (Built.cons (off:=0) (s:=1) J ZP J ZP (Built.cons (off:=1) (s:=1) J ZP J ZP (Built.cons (off:=2) (s:=1) J ZP J ZP Built.nil))) ?_
 refine Zsa ?_
 refine Zst ?_
 refine Zn (Za (Zl (Zf (rq_r ?_))))
 exact ⟨(yi,yk),⟨rfl,by unfold twiceS;rw [hfound (by simp_all [twiceP])];rfl⟩,Lh⟩
 refine Zj (Zd (rq_n ?_))
 exact ⟨i+1,⟨rfl,hnext (by simp_all [twiceP])⟩,Lh⟩
 refine Zr J J J J (Zr J J J J (Zr J J J J (Zr J J J J (Zr J J J J (Zr J J J J (Zu J J (Zn (Za (wCondF J (Zj (Zd (rq_n ?_))))))))))))
 exact ⟨i+1,⟨rfl,hnext (by simp_all [twiceP])⟩,Lh⟩
 rintro i Dm0 ⟨rfl,hn⟩
 rw [List.length_map] at hn
 have hno:twiceS l=none:=by unfold twiceS;rw [hn.all];rfl
 try dsimp only
 refine Zd (Za (Zh (Zi (oBuild Parts.nil J J Built.nil (Zsa ?_)))))
 refine Zst ?_
 refine Zn (Za (Zl ?_))
 refine finM_r (Ds:=[Dm0]) rfl ZQ (ResL.cons (by first | exact ResR.cell rfl ZP rfl | exact ResR.agg rfl ZP rfl rfl) (ResL.cons (by first | exact ResR.cell rfl ZP rfl | exact ResR.agg rfl ZP rfl rfl) ResL.nil)) ?_
 exact ⟨(),trivial,by rw [hno];rfl,Lh⟩
 rintro x ⟨y1,y2⟩ Dm0 ⟨rfl,hy⟩
 try dsimp only
 refine Zl (Zf (Zc ?_))
 refine finM_r (Ds:=[Dm0]) rfl ZQ (ResL.cons (by first | exact ResR.cell rfl ZP rfl | exact ResR.agg rfl ZP rfl rfl) (ResL.cons (by first | exact ResR.cell rfl ZP rfl | exact ResR.agg rfl ZP rfl rfl) ResL.nil)) ?_
 exact ⟨(),trivial,by rw [hy];rfl,Lh⟩
theorem boundx_any {B:Base}{w:World}(hS:St B [] w) (A:Option Addr) (cp:Nat) (l:List ApiObject) (i k:Int) (hC:kApiObject.C B.e A l) (hl:Small l) :
 CW 83 #[.slice A l.length cp,.int .i64 i,.int .i64 k] w
  (Ret B (fun _:Unit=>True) (fun _=>.tuple #[.int .i64 (boundS l i k).1,.int .i64 (boundS l i k).2.1,.int .i64 (boundS l i k).2.2]) (fun _=>[])):=by
 refine ZX Tryz.func83 hS ?_
 refine Zh (Zi (Zp J (Zp J (Zp J (Zn (Zzv ?_))))))
 (refine ZC0 rfl ZK (fun w hS=>frame hS ZQ (fun B' hB hS'=>firsts_any hS' A cp l (Kd.C_grow hB hC) hl)) ?_;rintro m -)
 refine Zo J (Zo J ?_)
 (refine ZC0 rfl ZK (fun w hS=>frame hS ZQ (fun B' hB hS'=>bound_any A cp m l i k hS' (Kd.C_grow hB hC) hl)) ?_;rintro ⟨⟩ -)
 refine Zo J (oExt J ZP ?_)
 refine oExt J ZP ?_
 refine oAlloc J ZP (fun b9=>?_)
 refine Zsa ?_
 refine Zp J (Zn (Za (Zh (wDraw2 J J [4] [0,1,2,3,5,6] 7 ZK J J J (fun w0=>?_)))))
 refine Zz (n:=0) (m:=0) J J J (Zld ?_)
 refine Zz (n:=1) (m:=1) J J J (Zld ?_)
 refine Zp J (Zp J (oHead (Zp J (oNilT (Za (Zl (Zw ?_)))))))
 refine ⟨rfl,_,(ResL.cons (ResR.tmp rfl) (ResL.cons (ResR.tmp rfl) (ResL.cons (ResR.tmp rfl) ResL.nil))),?_⟩
 exact ⟨(),trivial,rfl,Lh⟩
theorem check_many {l:List ApiObject}(h:l.length=0∨6<l.length):checkS l=(19,-1,-1):=by unfold checkS;rw [if_pos h]
theorem check_twice {l:List ApiObject}(h0:¬ (l.length:Int)=0) (h1:¬ (l.length:Int) > 6) (h:(twiceS l).isSome=true):checkS l=((if (twiceS l).isSome then 12 else 0),(((twiceS l).getD (0,0)).1:Int),(((twiceS l).getD (0,0)).2:Int)):=by
 obtain ⟨p,hp⟩:=Option.isSome_iff_exists.1 h
 unfold checkS;rw [if_neg ZO,hp];rfl
theorem check_none {l:List ApiObject}(h0:¬ (l.length:Int)=0) (h1:¬ (l.length:Int) > 6) (h:(twiceS l).isSome=false) (h2:(symsFrom 0 l).find? (unboundP l)=none):checkS l=(0,0,0):=by
 have ht:twiceS l=none:=by simpa using h
 unfold checkS;rw [if_neg ZO,ht];dsimp only;rw [h2]
theorem check_some {l:List ApiObject}{y1 y2:Nat}{x:ApiSymbol}(h0:¬ (l.length:Int)=0) (h1:¬ (l.length:Int) > 6) (h:(twiceS l).isSome=false) (h2:(symsFrom 0 l).find? (unboundP l)=some (y1,y2,x)):checkS l=((boundS l y1 y2).2.2,(y1:Int),(y2:Int)):=by
 have ht:twiceS l=none:=by simpa using h
 unfold checkS;rw [if_neg ZO,ht];dsimp only;rw [h2]
abbrev rejV (r:Int×Int×Int):Value:=.agg #[.int .i64 r.1,.int .i64 r.2.1,.int .i64 r.2.2]
theorem check_any {B:Base}{w:World}(hS:St B [] w) (A:Option Addr) (cp:Nat) (l:List ApiObject) (hC:kApiObject.C B.e A l) (hl:Small l) :
 CW 76 #[.slice A l.length cp] w (Ret B (fun _:Unit=>True) (fun _=>rejV (checkS l)) (fun _=>[])):=by
 have hl1:=hl.1
 (refine enterM Tryz.func76 J J hS ?_;simp only [List.zipIdx_cons,List.zipIdx_nil,List.map_cons,List.map_nil,Nat.reduceAdd,Nat.zero_add])
 refine Zh (Zi (oBox J ZP (fun b1=>?_)))
 refine oAlloc J ZP (fun b2=>?_)
 refine Zn (Za (Zh (Zh (Zi (Zld ?_)))))
 refine Zv J J (Zy J J (Zo J (ZS (ZT 12) (fun h12=>?_) (fun h12=>?_))))
 refine Zr J J J J (Zr J J J J (Zr J J J J (Zt J J (Zn (Za (wCondT J (Zh (Zi (oBuild (Parts.cons J (Parts.cons J (Parts.cons J Parts.nil))) J J (Built.cons (off:=0) (s:=1) J ZP J ZP (Built.cons (off:=1) (s:=1) J ZP J ZP (Built.cons (off:=2) (s:=1) J ZP J ZP Built.nil))) ?_)))))))))
 refine Zsa ?_
 refine Zn (Za (Zl (Zc ?_)))
 refine finM_r (Ds:=[]) rfl ZQ (ResL.cons (by first | exact ResR.cell rfl ZP rfl | exact ResR.agg rfl ZP rfl rfl) ResL.nil) ?_
 exact ⟨(),trivial,by rw [check_many (.inl ZO)];rfl,Lh⟩
 refine Zq J J (Zld ?_)
 refine Zq J J (Zv J J (Zq J J (Z1 J J (Zu J J (Zn (Za (wC (fun h16=>?_) (fun h16=>?_))))))))
 refine Zh (Zi (oBuild (Parts.cons J (Parts.cons J (Parts.cons J Parts.nil))) J J (Built.cons (off:=0) (s:=1) J ZP J ZP (Built.cons (off:=1) (s:=1) J ZP J ZP (Built.cons (off:=2) (s:=1) J ZP J ZP Built.nil))) ?_))
 refine Zsa ?_
 refine Zn (Za (Zl (Zc ?_)))
 refine finM_r (Ds:=[]) rfl ZQ (ResL.cons (by first | exact ResR.cell rfl ZP rfl | exact ResR.agg rfl ZP rfl rfl) ResL.nil) ?_
 exact ⟨(),trivial,by rw [check_many (.inr ZO)];rfl,Lh⟩
 refine Zj (Za (Zh (Zh (Zi (Zld ?_)))))
 (refine ZC0 rfl ZK (fun w hS=>frame hS ZQ (fun B' hB hS'=>twice_any hS' A cp l (Kd.C_grow hB hC) hl)) ?_;rintro ⟨⟩ -)
 refine Zo J (oExt J ZP ?_)
 refine oExt J ZP ?_
 refine oAlloc J ZP (fun b3=>?_)
 refine Zsa ?_
 refine Zp J (Zn (Za (Zh (Zi (Zo J (Zn (Za (wC (fun h23=>?_) (fun h23=>?_)))))))))
 refine Zh (Zi (Zla ?_))
 refine Zsa ?_
 refine Zn (Za (Zl (Zc ?_)))
 refine finM_r (Ds:=[]) rfl ZQ (ResL.cons (by first | exact ResR.cell rfl ZP rfl | exact ResR.agg rfl ZP rfl rfl) ResL.nil) ?_
 exact ⟨(),trivial,by rw [check_twice h12 h16 h23];rfl,Lh⟩
 refine Zj (Za (Zh (Zi (Zld ?_))))
 (refine ZC0 rfl ZK (fun w hS=>frame hS ZQ (fun B' hB hS'=>firsts_any hS' A cp l (Kd.C_grow hB hC) hl)) ?_;rintro m -)
 refine oAlloc J ZP (fun b5=>?_)
 refine Zst ?_
 refine Zn (Za (Zh (Zh (Zi (Zld ?_)))))
 (refine ZC0 rfl ZK (fun w hS=>frame hS ZQ (fun B' hB hS'=>all_any hS' A l.length cp)) ?_;rintro bl -)
 refine Zn (Za (Zk ?_))
 refine wRange rfl rfl ZK (all1 l A cp bl hC hl) (by rintro _ h;obtain ⟨y,_,rfl⟩:=List.mem_map.1 h;rfl) rfl (ι:=Nat) (κ:=Nat×Nat) (fun j z=>z=j∧NoneTo (unboundP l) (symsFrom 0 l) z) (fun z=>[blk b1 38 [.slice A l.length cp],blk b2 45 [.int .i64 0,.int .i64 0,.int .i64 0],blk b5 115 [.map (some m)],kmap Value.string placeV m (firstOf l)]) (fun x z=>x=.ret∧∃ y,(symsFrom 0 l).find? (unboundP l)=some (z.1,z.2,y)) (fun x z=>[blk b2 45 [.int .i64 (boundS l z.1 z.2).2.2,.int .i64 (z.1:Int),.int .i64 (z.2:Int)]]) 0 ⟨rfl,.zero _ _⟩ (Leads.has ZQ) ?_ ?_ ?_
 intro lp0 B' R1 R2 j hj
 rintro i hB ⟨rfl,hn⟩
 have hC:=Kd.C_grow hB hC
 have hj':i<(symsFrom 0 l).length:=by simpa using hj
 have hnext:=hn.next hj'
 have hfound:=hn.found hj'
 rw [List.getElem_map]
 generalize (symsFrom 0 l)[i]=y at *
 obtain ⟨yi,yk,x⟩:=y
 dsimp only [hand,symArgs]
 refine Zi (oAlloc J ZP (fun b6=>?_))
 refine Zsa ?_
 refine Zn (aq_n ZP ?_)
 refine Zk (Zh (Zi (Zld ?_)))
 refine Zld ?_
 refine Zz (n:=0) (m:=0) J J J (Zld ?_)
 refine Zz (n:=1) (m:=1) J J J (Zld ?_)
 (refine ZC0 rfl ZK (fun w hS=>frame hS ZQ (fun B' hB hS'=>bound_any A cp m l yi yk hS' (Kd.C_grow hB hC) hl)) ?_;rintro ⟨⟩ -)
 refine Zo J (oExt J ZP ?_)
 refine oExt J ZP ?_
 refine oAlloc J ZP (fun b7=>?_)
 refine Zsa ?_
 refine Zp J (Zn (Za (Zh (Zi (Zo J (Z0 J J (Zn (Za (wC (fun h42=>?_) (fun h42=>?_))))))))))
 refine Zh (Zi (Zo J (Zz (n:=0) (m:=0) J J J (Zld ?_))))
 refine Zz (n:=1) (m:=1) J J J (Zld ?_)
 refine oBuild (Parts.cons J (Parts.cons J (Parts.cons J Parts.nil))) J J (Built.cons (off:=0) (s:=1) J ZP J ZP (Built.cons (off:=1) (s:=1) J ZP J ZP (Built.cons (off:=2) (s:=1) J ZP J ZP Built.nil))) ?_
 refine Zsa ?_
 refine Zn (Za (Zl (Zf (rq_r ?_))))
 exact ⟨(yi,yk),⟨rfl,x,hfound (by simp_all [unboundP])⟩,Lh⟩
 refine Zj (Zd (rq_n ?_))
 exact ⟨i+1,⟨rfl,hnext (by simp_all [unboundP])⟩,Lh⟩
 rintro i Dm0 ⟨rfl,hn⟩
 rw [List.length_map] at hn
 have hno:=hn.all
 try dsimp only
 refine Zd (Za (Zh (Zi (oBuild Parts.nil J J Built.nil (Zsa ?_)))))
 refine Zn (Za (Zl ?_))
 refine finM_r (Ds:=[Dm0]) rfl ZQ (ResL.cons (by first | exact ResR.cell rfl ZP rfl | exact ResR.agg rfl ZP rfl rfl) ResL.nil) ?_
 exact ⟨(),trivial,by rw [check_none h12 h16 h23 hno];rfl,Lh⟩
 rintro x ⟨y1,y2⟩ Dm0 ⟨rfl,x,hy⟩
 try dsimp only
 refine Zl (Zf (Zc ?_))
 refine finM_r (Ds:=[Dm0]) rfl ZQ (ResL.cons (by first | exact ResR.cell rfl ZP rfl | exact ResR.agg rfl ZP rfl rfl) ResL.nil) ?_
 exact ⟨(),trivial,by rw [check_some h12 h16 h23 hy];rfl,Lh⟩
end Go.Proofs.YtafiabekcekdbaaGreatS
namespace Go.Proofs.YtafiabekcekdbaaGreatO
set_option maxRecDepth 100000
set_option maxHeartbeats 4000000
open Go.RowKit Go.Proofs.YtafiabekcekdbaaGreatK Go.Proofs.YtafiabekcekdbaaGreatT Go.Proofs.YtafiabekcekdbaaGreatL Go.Proofs.YtafiabekcekdbaaGreatV Go.Proofs.YtafiabekcekdbaaGreatG Go.Proofs.YtafiabekcekdbaaGreatW
open Go.Proofs.YtafiabekcekdbaaGreatS (symsFrom mem_syms fileSyms)

theorem syms_sorted:∀ (i:Nat) (l:List ApiObject),(symsFrom i l).Pairwise (fun y z=>y.1<z.1∨y.1=z.1∧y.2.1<z.2.1)
 | _,[]=>by simp [symsFrom]
 | i,o :: l=>by
  unfold symsFrom
  rw [List.pairwise_append]
  refine ⟨?_,syms_sorted (i+1) l,?_⟩
  · unfold fileSyms
    rw [List.pairwise_iff_getElem]
    intro a b ha hb hab
    simp only [List.getElem_mapIdx]
    exact .inr ⟨trivial,hab⟩
  · intro y hy z hz
    obtain ⟨k,hk,rfl⟩:=List.mem_mapIdx.1 hy
    obtain ⟨j,h1,-⟩:=(Go.Proofs.YtafiabekcekdbaaGreatS.mem_symsFrom (i+1) l).1 hz
    exact .inl (by simp only;omega)
theorem first_of {α:Type}{P:α→Bool}{R:α→α→Prop}{l:List α}{y:α}(hp:l.Pairwise R) (h:l.find? P=some y):y ∈ l∧P y=true∧∀ z ∈ l,P z=true→z=y∨R y z:=by
 induction l with
 | nil=>cases h
 | cons a l ih=>
  rw [List.pairwise_cons] at hp
  rw [List.find?_cons] at h
  cases ha:P a with
  | true=>
   rw [ha] at h
   obtain rfl:=Option.some.inj h
   exact ⟨List.mem_cons_self ..,ha,fun z hz hzp=>(List.mem_cons.1 hz).elim .inl (fun hz=>.inr (hp.1 z hz))⟩
  | false=>
   rw [ha] at h
   obtain ⟨h1,h2,h3⟩:=ih hp.2 h
   exact ⟨List.mem_cons_of_mem _ h1,h2,fun z hz hzp=>(List.mem_cons.1 hz).elim (fun e=>by rw [e,ha] at hzp;cases hzp) (fun hz=>h3 z hz hzp)⟩
theorem find_some {l:List ApiObject}{P:Nat×Nat×ApiSymbol→Bool}{p:Nat→Nat→Bool}(hpp:∀ i k x,(i,k,x) ∈ symsFrom 0 l→p i k=P (i,k,x)) {y:Nat×Nat×ApiSymbol}(h:(symsFrom 0 l).find? P=some y) :
 fI l p=(y.1:Int)∧fK l p=(y.2.1:Int):=by
 obtain ⟨hm,hy,hf⟩:=first_of (syms_sorted 0 l) h
 obtain ⟨i,k,x⟩:=y
 obtain ⟨hi,hk,hx⟩:=mem_syms.1 hm
 obtain ⟨o,ho⟩:∃ o,l[i]?=some o:=⟨_,List.getElem?_eq_getElem hi⟩
 have hg:l.getD i default=o:=by rw [List.getD_eq_getElem?_getD,ho];rfl
 rw [hg] at hk hx
 have key:∀ (j m:Nat) (o2:ApiObject),l[j]?=some o2→m<o2.fSymbols.length→(j<i∨j=i∧m<k)→p j m=false:=by
  intro j m o2 ho2 hm2 hlt
  have hg2:l.getD j default=o2:=by rw [List.getD_eq_getElem?_getD,ho2];rfl
  have hm3:(j,m,o2.fSymbols.getD m default) ∈ symsFrom 0 l:=mem_syms.2 ⟨(List.getElem?_eq_some_iff.1 ho2).1,by rw [hg2];exact hm2,by rw [hg2]⟩
  rw [hpp _ _ _ hm3]
  cases hc:P (j,m,o2.fSymbols.getD m default) with
  | false=>rfl
  | true=>
   rcases hf _ hm3 hc with e | e | ⟨e,e2⟩
   · injection e with e1 e2;injection e2 with e2 e3;omega
   · simp only at e;omega
   · simp only at e e2;omega
 show fI l p=(i:Int)∧fK l p=(k:Int)
 refine fI_stop (fun j hj=>?_) ho (fun m hm2=>?_) hk (by rw [hpp _ _ _ hm];exact hy)
 · have hji : j < i := by
    rw [List.take_range] at hj
    have:=List.mem_range.1 hj
    omega
   obtain ⟨o2,ho2⟩:∃ o2,l[j]?=some o2:=⟨_,List.getElem?_eq_getElem ZO⟩
   unfold rowP
   rw [symsAt_eq ho2,List.any_eq_false]
   intro m hm2
   rw [key j m o2 ho2 (List.mem_range.1 hm2) (.inl hji)];simp
 · rw [List.take_range] at hm2
   have:=List.mem_range.1 hm2
   have hmk:m<k:=by omega
   exact key i m o ho ZO (.inr ⟨rfl,hmk⟩)
theorem find_none {l:List ApiObject}{P:Nat×Nat×ApiSymbol→Bool}{p:Nat→Nat→Bool}(hpp:∀ i k x,(i,k,x) ∈ symsFrom 0 l→p i k=P (i,k,x)) (h:(symsFrom 0 l).find? P=none):fI l p = -1:=by
 refine fI_none (fun j hj=>?_)
 have hjl:=List.mem_range.1 hj
 obtain ⟨o2,ho2⟩:∃ o2,l[j]?=some o2:=⟨_,List.getElem?_eq_getElem hjl⟩
 have hg2:l.getD j default=o2:=by rw [List.getD_eq_getElem?_getD,ho2];rfl
 unfold rowP
 rw [symsAt_eq ho2,List.any_eq_false]
 intro m hm
 have hm3:(j,m,o2.fSymbols.getD m default) ∈ symsFrom 0 l:=mem_syms.2 ⟨hjl,by rw [hg2];exact List.mem_range.1 hm,by rw [hg2]⟩
 rw [hpp _ _ _ hm3]
 exact List.find?_eq_none.1 h _ hm3
theorem isG_eq (s:ByteArray) (y:Nat×Nat×ApiSymbol):Go.Proofs.YtafiabekcekdbaaGreatS.isFirst s y=isG s y.2.2:=by
 unfold Go.Proofs.YtafiabekcekdbaaGreatS.isFirst Go.Proofs.YtafiabekcekdbaaGreatS.isGlobal isG
 simp
theorem fnd_eq (l:List ApiObject) (s:ByteArray):fnd l s=match Go.Proofs.YtafiabekcekdbaaGreatS.firstOf l s with | some q=>((q.1:Int),(q.2:Int),true) | none=>(0,0,false):=by
 rw [Go.Proofs.YtafiabekcekdbaaGreatS.firstOf_eq]
 cases h:(symsFrom 0 l).find? (Go.Proofs.YtafiabekcekdbaaGreatS.isFirst s) with
 | none=>
  show fnd l s=(0,0,false)
  unfold fnd findI
  rw [if_neg]
  intro h0
  obtain ⟨i,o,hi,ho,hg⟩:=idxI_at h0
  obtain ⟨x,hx,hxg⟩:=List.any_eq_true.1 hg
  obtain ⟨k,hk⟩:=List.mem_iff_getElem?.1 hx
  have hgd:l.getD i default=o:=by rw [List.getD_eq_getElem?_getD,ho];rfl
  have hm:(i,k,x) ∈ symsFrom 0 l:=mem_syms.2 ⟨(List.getElem?_eq_some_iff.1 ho).1,by rw [hgd];exact (List.getElem?_eq_some_iff.1 hk).1,by rw [hgd,List.getD_eq_getElem?_getD,hk];rfl⟩
  exact List.find?_eq_none.1 h _ hm (by rw [isG_eq];exact hxg)
 | some y=>
  obtain ⟨hm,hy,hf⟩:=first_of (syms_sorted 0 l) h
  obtain ⟨i,k,x⟩:=y
  show fnd l s=((i:Int),(k:Int),true)
  obtain ⟨hi,hk,hx⟩:=mem_syms.1 hm
  obtain ⟨o,ho⟩:∃ o,l[i]?=some o:=⟨_,List.getElem?_eq_getElem hi⟩
  have hg:l.getD i default=o:=by rw [List.getD_eq_getElem?_getD,ho];rfl
  rw [hg] at hk hx
  have hxx:o.fSymbols[k]?=some x:=by rw [← hx,List.getD_eq_getElem?_getD,List.getElem?_eq_getElem hk];rfl
  rw [isG_eq] at hy
  have h1:findI l s=(i:Int):=by
   refine idxI_stop (fun o2 ho2=>?_) ho (List.any_eq_true.2 ⟨x,List.mem_of_getElem? hxx,hy⟩)
   rw [Bool.eq_false_iff]
   intro hc
   obtain ⟨z,hz,hzg⟩:=List.any_eq_true.1 hc
   obtain ⟨j,hj⟩:=List.mem_iff_getElem?.1 ho2
   obtain ⟨m,hmz⟩:=List.mem_iff_getElem?.1 hz
   have hji:j<i:=by
    have:=(List.getElem?_eq_some_iff.1 hj).1
    rw [List.length_take] at this;omega
   rw [List.getElem?_take,if_pos hji] at hj
   have hg2:l.getD j default=o2:=by rw [List.getD_eq_getElem?_getD,hj];rfl
   have hm3:(j,m,z) ∈ symsFrom 0 l:=mem_syms.2 ⟨by omega,by rw [hg2];exact (List.getElem?_eq_some_iff.1 hmz).1,by rw [hg2,List.getD_eq_getElem?_getD,hmz];rfl⟩
   rcases hf _ hm3 (by rw [isG_eq];exact hzg) with e | e | ⟨e,e2⟩
   · injection e with e1 e2;omega
   · simp only at e;omega
   · simp only at e e2;omega
  have h2:findK l s=(k:Int):=by
   unfold findK
   rw [h1,symsAt_eq ho]
   refine idxI_stop (fun z hz=>?_) hxx hy
   rw [Bool.eq_false_iff]
   intro hzg
   obtain ⟨m,hmz⟩:=List.mem_iff_getElem?.1 hz
   have hmk:m<k:=by
    have:=(List.getElem?_eq_some_iff.1 hmz).1
    rw [List.length_take] at this;omega
   rw [List.getElem?_take,if_pos hmk] at hmz
   have hm3:(i,m,z) ∈ symsFrom 0 l:=mem_syms.2 ⟨hi,by rw [hg];exact (List.getElem?_eq_some_iff.1 hmz).1,by rw [hg,List.getD_eq_getElem?_getD,hmz];rfl⟩
   rcases hf _ hm3 (by rw [isG_eq];exact hzg) with e | e | ⟨e,e2⟩
   · injection e with e1 e2;injection e2 with e2 e3;omega
   · simp only at e;omega
   · simp only at e e2;omega
  unfold fnd
  rw [h1,h2,if_pos ZO]
theorem bnd_eq (l:List ApiObject) (i k:Int):bndF l i k=Go.Proofs.YtafiabekcekdbaaGreatS.boundS l i k:=by
 unfold bndF Go.Proofs.YtafiabekcekdbaaGreatS.boundS
 have hb:(Go.Proofs.YtafiabekcekdbaaGreatS.badAt l i k=true)↔(i<0∨(l.length:Int)≤i∨k<0∨((symsAt l i).length:Int)≤k):=by
  unfold Go.Proofs.YtafiabekcekdbaaGreatS.badAt symsAt
  simp [or_assoc]
 by_cases h1:i<0∨(l.length:Int)≤i∨k<0∨((symsAt l i).length:Int)≤k
 · rw [if_pos h1,if_pos (hb.2 h1)]
 · rw [if_neg h1,if_neg (fun h=>h1 (hb.1 h)),show Go.Proofs.YtafiabekcekdbaaGreatS.symAt l i k=symOf l i k from rfl]
   by_cases h2:(symOf l i k).fDef≠-1
   · rw [if_pos h2,if_pos h2]
   · rw [if_neg h2,if_neg h2,fnd_eq]
     cases Go.Proofs.YtafiabekcekdbaaGreatS.firstOf l (symOf l i k).fName with
     | none=>rfl
     | some q=>rfl
theorem syms_sym {l:List ApiObject}{i k:Nat}{x:ApiSymbol}(h:(i,k,x) ∈ symsFrom 0 l):symOf l (i:Int) (k:Int)=x:=by
 obtain ⟨h1,h2,h3⟩:=mem_syms.1 h
 unfold symOf symsAt
 rw [Int.toNat_natCast,Int.toNat_natCast]
 exact h3
theorem twice_eq {l:List ApiObject}{i k:Nat}{x:ApiSymbol}(h:(i,k,x) ∈ symsFrom 0 l):twP l i k=Go.Proofs.YtafiabekcekdbaaGreatS.twiceP l (i,k,x):=by
 unfold twP Go.Proofs.YtafiabekcekdbaaGreatS.twiceP
 rw [syms_sym h,fnd_eq]
 have hg:glob x=Go.Proofs.YtafiabekcekdbaaGreatS.isGlobal x:=by unfold glob Go.Proofs.YtafiabekcekdbaaGreatS.isGlobal;simp
 rw [hg]
 congr 1
 cases Go.Proofs.YtafiabekcekdbaaGreatS.firstOf l x.fName with
 | none=>
  rw [Bool.eq_iff_iff]
  simp [Prod.ext_iff]
  omega
 | some q=>
  rw [Bool.eq_iff_iff]
  simp [Prod.ext_iff]
  omega
theorem unbound_eq {l:List ApiObject}{i k:Nat}{x:ApiSymbol}(h:(i,k,x) ∈ symsFrom 0 l):unP l i k=Go.Proofs.YtafiabekcekdbaaGreatS.unboundP l (i,k,x):=by
 unfold unP Go.Proofs.YtafiabekcekdbaaGreatS.unboundP
 rw [bnd_eq]
 simp
theorem chk_eq (l:List ApiObject):Go.Proofs.YtafiabekcekdbaaGreatS.checkS l=chk23 l:=by
 unfold Go.Proofs.YtafiabekcekdbaaGreatS.checkS chk23
 by_cases h0:l.length=0∨6<l.length
 · rw [if_pos h0,if_pos h0]
 · rw [if_neg h0,if_neg h0]
   unfold Go.Proofs.YtafiabekcekdbaaGreatS.twiceS
   cases h1:(symsFrom 0 l).find? (Go.Proofs.YtafiabekcekdbaaGreatS.twiceP l) with
   | some y=>
    obtain ⟨e1,e2⟩:=find_some (p:=twP l) (fun i k x hm=>twice_eq hm) h1
    rw [if_pos (by rw [e1];omega),e1,e2];rfl
   | none=>
    have e1:=find_none (p:=twP l) (fun i k x hm=>twice_eq hm) h1
    rw [if_neg (by rw [e1];omega)]
    show (match (symsFrom 0 l).find? (Go.Proofs.YtafiabekcekdbaaGreatS.unboundP l) with | some y=>((Go.Proofs.YtafiabekcekdbaaGreatS.boundS l y.1 y.2.1).2.2,(y.1:Int),(y.2.1:Int)) | none=>(0,0,0))=_
    cases h2:(symsFrom 0 l).find? (Go.Proofs.YtafiabekcekdbaaGreatS.unboundP l) with
    | some y=>
     obtain ⟨e3,e4⟩:=find_some (p:=unP l) (fun i k x hm=>unbound_eq hm) h2
     rw [if_pos (by rw [e3];omega),e3,e4,bnd_eq]
    | none=>
     have e3:=find_none (p:=unP l) (fun i k x hm=>unbound_eq hm) h2
     rw [if_neg (by rw [e3];omega)]
noncomputable def wrongR (l:List ApiObject):Int×Int×Int:=
  if l.length=0∨6<l.length then (19,-1,-1) else
  if 0≤idxI badB l then (objE (objAt l (idxI badB l).toNat),idxI badB l,objI (objAt l (idxI badB l).toNat)) else chk23 l
theorem bind_wrong {B:Base}{w:World}(hS:St B [] w) (A:Option Addr) (cp:Nat) (l:List ApiObject) (hC:kApiObject.C B.e A l) (hg:∀ o ∈ l,GoodO o) (hl:l.length≤1000) :
 CW 39 #[.slice A l.length cp] w (Ret B (fun _:Unit=>True) (fun _=>.agg #[.int .i64 (wrongR l).1,.int .i64 (wrongR l).2.1,.int .i64 (wrongR l).2.2]) (fun _=>[])):=by
 have hsm:Go.Proofs.YtafiabekcekdbaaGreatS.Small l:=⟨hl,fun o ho=>by have:=(hg o ho).syms;omega⟩
 refine ZX Tryz.func39 hS ?_
 refine Zh (Zi (oAlloc J ZP (fun b2=>?_)))
 refine Zn (Za (Zh (Zh (Zi (Zo J (Zv J J (Zy J J (Zo J (ZS (ZT 10) (fun h10=>?_) (fun h10=>?_))))))))))
 refine Zr J J J J (Zr J J J J (Zr J J J J (Zt J J (Zn (Za (wCondT J (Zh (Zi (oBuild (Parts.cons J (Parts.cons J (Parts.cons J Parts.nil))) J J (Built.cons (off:=0) (s:=1) J ZP J ZP (Built.cons (off:=1) (s:=1) J ZP J ZP (Built.cons (off:=2) (s:=1) J ZP J ZP Built.nil))) ?_)))))))))
 refine Zsa ?_
 refine Zn (Za (Zl (Zc (Zw (ZI ?_)))))
 have hw:wrongR l=(19,-1,-1):=by unfold wrongR;rw [if_pos ZO]
 exact ⟨(),trivial,by rw [hw];rfl,Lh⟩
 refine Zq J J (Zo J (Zq J J (Zv J J (Zq J J (Z1 J J (Zu J J (Zn (Za (wC (fun h14=>?_) (fun h14=>?_))))))))))
 refine Zh (Zi (oBuild (Parts.cons J (Parts.cons J (Parts.cons J Parts.nil))) J J (Built.cons (off:=0) (s:=1) J ZP J ZP (Built.cons (off:=1) (s:=1) J ZP J ZP (Built.cons (off:=2) (s:=1) J ZP J ZP Built.nil))) ?_))
 refine Zsa ?_
 refine Zn (Za (Zl (Zc (Zw (ZI ?_)))))
 have hw:wrongR l=(19,-1,-1):=by unfold wrongR;rw [if_pos ZO]
 exact ⟨(),trivial,by rw [hw];rfl,Lh⟩
 have hlen:¬ (l.length=0∨6<l.length):=by omega
 refine Zj (Za (Zh (Zh (Zi (Zo J (Zv J J (Zo J (Zn (Za (Zk (wLoop (ι:=Nat) (fun i=>[(0,.slice A l.length cp),(2,.pointer (some ⟨b2,0,none⟩)),(16,.slice A l.length cp),(17,.int .i64 (l.length:Int)),(18,.int .i64 (i:Int))]) (fun i=>[blk b2 45 [.int .i64 0,.int .i64 0,.int .i64 0]]) (fun i=>i≤l.length∧∀ o ∈ l.take i,badB o=false) (fun i=>l.length-i) 0 ?_ cv (Leads.has ZQ) ?_)))))))))))
 exact ⟨Nat.zero_le _,by simp⟩
 rintro i ⟨hi,hs⟩
 try dsimp only
 refine Zh (Zi (Zx J J (Zn (Za (Zh (wC (fun h19=>?_) (fun h19=>?_)))))))
 obtain ⟨o,ho⟩:∃ o,l[i]?=some o:=⟨_,List.getElem?_eq_getElem ZO⟩
 have hgo:=hg o (List.mem_of_getElem? ho)
 obtain ⟨e1,cs1,hE⟩:=hC.elm ho
 obtain ⟨A0,c0,A1,c1,A2,c2,rfl,m0,q0,m1,q1,m2,q2⟩:=kApiObject_open hE.K
 have hoK:=hE.K
 refine Zj (Za (Zh (Zk (Zh (Zi (Zo J (oIdxE J J (hE) ZO J J ?_)))))))
 have hc21:=(hE).cell
 refine Zlx hc21 ?_
 refine oAlloc J ZP (fun b4=>?_)
 refine Zp J (Zsa ?_)
 refine Zn (Za (Zzs ?_))
 (refine ZC0 rfl ZK (fun w hS=>frame hS ZQ (fun B' hB hS'=>obj_Check hS' o _ (kApiObject.K_grow hB hoK) hgo)) ?_;rintro ⟨⟩ -)
 refine Zo J (oExt J ZP ?_)
 refine oExt J ZP ?_
 refine Zp J (Zp J (Zn (Za (Zh (Zi (Zo J (Z0 J J (Zn (Za (wC (fun h29=>?_) (fun h29=>?_)))))))))))
 refine Zh (Zi (Zo J (Zo J (Zo J (oBuild (Parts.cons J (Parts.cons J (Parts.cons J Parts.nil))) J J (Built.cons (off:=0) (s:=1) J ZP J ZP (Built.cons (off:=1) (s:=1) J ZP J ZP (Built.cons (off:=2) (s:=1) J ZP J ZP Built.nil))) ?_)))))
 refine Zsa ?_
 refine Zn (Za (Zl (Zf (Zc (Zc (Zf (Zc (Zw (ZI ?_)))))))))
 have hx:=idxI_stop (p:=badB) hs ho (by unfold badB;simpa using h29)
 have hw:wrongR l=(objE o,(i:Int),objI o):=by unfold wrongR;rw [if_neg hlen,hx,if_pos ZO,Int.toNat_natCast,objAt_eq ho]
 exact ⟨(),trivial,by rw [hw];rfl,Lh⟩
 refine Zj (Zzi ?_)
 refine Zo J (Zn (Za ?_))
 exact ⟨rfl,i+1,⟨by omega,take_not hs ho (by unfold badB;simpa using h29)⟩,by omega,cv,Lh⟩
 obtain rfl:i=l.length:=by omega
 rw [List.take_length] at hs
 have hw:wrongR l=chk23 l:=by unfold wrongR;rw [if_neg hlen,idxI_none hs,if_neg ZO]
 refine Zm (Zb (Zb (Ze (Zzm ?_))))
 (refine ZC0 rfl ZK (fun w hS=>frame hS ZQ (fun B' hB hS'=>Go.Proofs.YtafiabekcekdbaaGreatS.check_any hS' A cp l (Kd.C_grow hB hC) hsm)) ?_;rintro ⟨⟩ -)
 refine Zsa ?_
 refine Zn (Za (Zl (Zw (ZI ?_))))
 exact ⟨(),trivial,by rw [hw,← chk_eq];rfl,Lh⟩
abbrev itemV (p:Int×Int×Int):Value:=.agg #[.int .i64 p.1,.int .i64 p.2.1,.int .i64 p.2.2]
def itemD:TypeDesc:=.struct #[{ name:="sort",type:=3,offset:=0,embedded:=false,tag:="",pkgPath:="sheerleg/bind",byteOffset:=0 },{ name:="file",type:=3,offset:=1,embedded:=false,tag:="",pkgPath:="sheerleg/bind",byteOffset:=8 },{ name:="def",type:=3,offset:=2,embedded:=false,tag:="",pkgPath:="sheerleg/bind",byteOffset:=16 }]
theorem itemD_is:Tryz.prog.underlying 121=some itemD:=Tryz.underlying121
theorem item_eq (p q:Int×Int×Int) (w:World):(Op.equal 121 (itemV p) (itemV q)).run Tryz.prog w=.ok (decide (p=q)) w:=by
 obtain ⟨a,b,e⟩:=p
 obtain ⟨c,d,f⟩:=q
 simp [go_sem,Op.equal,Op.maxDepth]
 by_cases h1:a=c
 · subst h1
   by_cases h2:b=d
   · subst h2
     by_cases h3:e=f
     · subst h3;simp
     · simp [h3]
   · simp [h2]
 · simp [h1]
theorem item_bits (p:Int×Int×Int):Instr.sameBits 10000 (itemV p) (itemV p)=true:=by
 rw [Instr.sameBits.eq_def]
 simp
 simp [Instr.sameBits.eq_def]
theorem int_check (e:Bool) (n:Nat) (a:Int) (w:World):(Instr.checkKey e (n+1) 3 (.int .i64 a)).run Tryz.prog w=.ok () w:=by
 rw [Instr.checkKey.eq_def]
 simp only []
 rw [Sem.run_bind,run_underlying Tryz.underlying3]
 rfl
theorem item_check (e:Bool) (p:Int×Int×Int) (w:World):(Instr.checkKey e 10000 121 (itemV p)).run Tryz.prog w=.ok () w:=by
 rw [Instr.checkKey.eq_def]
 simp only []
 rw [Sem.run_bind,run_underlying itemD_is]
 unfold itemD
 simp [go_sem,int_check e 9998]
theorem keyS_item:KeyS Tryz.prog 121 (Int×Int×Int) itemV itemD where
 now a b:=rfl
 eq:=item_eq
 bits:=item_bits
 check e a w:=item_check e a w
def numM (l:List ApiObject) (n f d:Nat) (q:Int×Int×Int):Option Int:=
  if q.1=1∧0≤q.2.1∧0≤q.2.2∧((q.2.1<n∧q.2.2<((objAt l q.2.1.toNat).fFuncs.length:Int))∨(q.2.1=n∧q.2.2<f)) then some ((sumO true l q.2.1.toNat:Int)+q.2.2) else
  if q.1=2∧0≤q.2.1∧0≤q.2.2∧((q.2.1<n∧q.2.2<((objAt l q.2.1.toNat).fDatas.length:Int))∨(q.2.1=n∧q.2.2<d)) then some ((sumO false l q.2.1.toNat:Int)+q.2.2) else none
theorem numM_zero (l:List ApiObject):numM l 0 0 0=fun _=>none:=by
 funext q
 obtain ⟨s,a,b⟩:=q
 unfold numM
 simp only
 repeat' split
 all_goals first | rfl | (exfalso;omega)
theorem numM_f (l:List ApiObject) (n f d:Nat):numM l n (f+1) d=fun q=>if q=((1:Int),(n:Int),(f:Int)) then some (((sumO true l n+f:Nat):Nat):Int) else numM l n f d q:=by
 funext q
 obtain ⟨s,a,b⟩:=q
 by_cases h:s=1∧a=n∧b=f
 · obtain ⟨rfl,rfl,rfl⟩:=h
   rw [if_pos rfl]
   unfold numM
   simp only
   repeat' split
   all_goals first | (simp;done) | (exfalso;omega) | (exfalso;simp_all;done) | (exfalso;simp_all;omega)
 · rw [if_neg (by simp only [Prod.mk.injEq];exact h)]
   unfold numM
   simp only
   repeat' split
   all_goals first | rfl | (exfalso;omega)
theorem numM_d (l:List ApiObject) (n f d:Nat):numM l n f (d+1)=fun q=>if q=((2:Int),(n:Int),(d:Int)) then some (((sumO false l n+d:Nat):Nat):Int) else numM l n f d q:=by
 funext q
 obtain ⟨s,a,b⟩:=q
 by_cases h:s=2∧a=n∧b=d
 · obtain ⟨rfl,rfl,rfl⟩:=h
   rw [if_pos rfl]
   unfold numM
   simp only
   repeat' split
   all_goals first | (simp;done) | (exfalso;omega) | (exfalso;simp_all;done) | (exfalso;simp_all;omega)
 · rw [if_neg (by simp only [Prod.mk.injEq];exact h)]
   unfold numM
   simp only
   repeat' split
   all_goals first | rfl | (exfalso;omega)
theorem numM_next {l:List ApiObject}{n:Nat}{o:ApiObject}(h:l[n]?=some o):numM l n o.fFuncs.length o.fDatas.length=numM l (n+1) 0 0:=by
 funext q
 obtain ⟨s,a,b⟩:=q
 unfold numM
 simp only
 by_cases ha:a=(n:Int)
 · subst ha
   rw [Int.toNat_natCast,objAt_eq h]
   repeat' split
   all_goals first | rfl | (exfalso;omega)
 · repeat' split
   all_goals first | rfl | (exfalso;omega)
theorem bind_number {B:Base}{w:World}(hS:St B [] w) (A:Option Addr) (cp:Nat) (l:List ApiObject) (hC:kApiObject.C B.e A l) (hf:FewO l) :
 CW 41 #[.slice A l.length cp] w (Ret B (fun _:Nat×Nat=>True) (fun z=>.pointer (some ⟨z.1,0,none⟩)) (fun z=>[blk z.1 119 [.slice A l.length cp,.map (some z.2)],kmap itemV (Value.int .i64) z.2 (numM l l.length 0 0)])):=by
 have hll:=hf.len
 refine ZX Tryz.func41 hS ?_
 refine Zh (Zi (Zp J (Zn (Za (Zh (Zi (Zo J (oMakeMap itemV (Value.int .i64) (fun b11=>?_)))))))))
 rw [← numM_zero l]
 refine oBuild (Parts.cons J (Parts.cons J Parts.nil)) J J (Built.cons (off:=0) (s:=1) J ZP J ZP (Built.cons (off:=1) (s:=1) J ZP J ZP Built.nil)) ?_
 refine oBox J ZP (fun b13=>?_)
 refine Zp J (Zn (Za (Zh (Zi (Zp J (Zp J (Zn (Za (Zh (Zh (Zi (Zo J (Zv J J (Zo J (Zn (Za (Zk (wLoop (ι:=Nat) (fun i=>[(3,.pointer (some ⟨b13,0,none⟩)),(4,.int .i64 ((sumO true l i:Nat):Int)),(5,.int .i64 ((sumO false l i:Nat):Int)),(14,.slice A l.length cp),(15,.int .i64 (l.length:Int)),(16,.int .i64 (i:Int))]) (fun i=>[blk b13 119 [.slice A l.length cp,.map (some b11)],kmap itemV (Value.int .i64) b11 (numM l i 0 0)]) (fun i=>i≤l.length) (fun i=>l.length-i) 0 ?_ cv (Leads.has ZQ) ?_))))))))))))))))))
 exact Nat.zero_le _
 rintro i hi
 have hs1:=sumO_le (fn:=true) hf i
 have hs2:=sumO_le (fn:=false) hf i
 try dsimp only
 refine Zh (Zi (Zx J J (Zn (Za (Zh (wC (fun h17=>?_) (fun h17=>?_)))))))
 obtain ⟨o,ho⟩:∃ o,l[i]?=some o:=⟨_,List.getElem?_eq_getElem ZO⟩
 have hn1:=hf.funcs o (List.mem_of_getElem? ho)
 have hn2:=hf.datas o (List.mem_of_getElem? ho)
 obtain ⟨e1,cs1,hE⟩:=hC.elm ho
 obtain ⟨A0,c0,A1,c1,A2,c2,rfl,m0,q0,m1,q1,m2,q2⟩:=kApiObject_open hE.K
 refine Zj (Za (Zh (Zk (Zh (Zi (Zo J (oIdxE J J (hE) ZO J J ?_)))))))
 have hc19:=(hE).cell
 refine Zlx hc19 ?_
 refine oAlloc J ZP (fun b7=>?_)
 refine Zp J (Zsa ?_)
 refine Zn (Za (Zh (Zh (Zi (Zz (n:=1) (m:=1) J J J (Zld ?_))))))
 refine Zv J J (Zo J (Zn (Za (Zk (wLoop (ι:=Nat) (fun j=>[(3,.pointer (some ⟨b13,0,none⟩)),(4,.int .i64 ((sumO true l i+j:Nat):Int)),(5,.int .i64 ((sumO false l i:Nat):Int)),(6,.int .i64 (i:Int)),(7,.pointer (some ⟨b7,0,none⟩)),(14,.slice A l.length cp),(15,.int .i64 (l.length:Int)),(16,.int .i64 (i:Int)),(23,.int .i64 (o.fFuncs.length:Int)),(24,.int .i64 (j:Int))]) (fun j=>[blk b7 26 [.slice A0 o.fSymbols.length c0,.slice A1 o.fFuncs.length c1,.slice A2 o.fDatas.length c2],blk b13 119 [.slice A l.length cp,.map (some b11)],kmap itemV (Value.int .i64) b11 (numM l i j 0)]) (fun j=>j≤o.fFuncs.length) (fun j=>o.fFuncs.length-j) 0 ?_ cv (Leads.has ZQ) ?_)))))
 exact Nat.zero_le _
 rintro j hj
 try dsimp only
 refine Zh (Zi (Zx J J (Zn (Za (Zh (wC (fun h25=>?_) (fun h25=>?_)))))))
 refine Zj (Za (Zh (Zk (Zh (Zi (Zo J (Zp J (Zn (Za (Zh (Zi (Zo J (Z3 J (Zz (n:=1) (m:=1) J J J (Zld ?_)))))))))))))))
 refine Zo J (Zo J (oBuild (Parts.cons J (Parts.cons J (Parts.cons J Parts.nil))) J J (Built.cons (off:=0) (s:=1) J ZP J ZP (Built.cons (off:=1) (s:=1) J ZP J ZP (Built.cons (off:=2) (s:=1) J ZP J ZP Built.nil))) ?_))
 refine Zo J (oMapUpdS (ev:=Value.int .i64) (k:=((1:Int),(i:Int),(j:Int))) keyS_item J J J J ZP ?_)
 refine Zn (Za (Zi (Zo J (Zsu ?_))))
 refine Zp J (Zn (Zzi ?_))
 refine Zo J (Zn (Za ?_))
 exact ⟨rfl,j+1,by omega,by omega,cv,by rw [numM_f];exact Lh⟩
 obtain rfl:j=o.fFuncs.length:=by omega
 refine Zm (Zb (Zb (Ze (Za (Zh (Zi (Zz (n:=2) (m:=2) J J J (Zld ?_))))))))
 refine Zv J J (Zo J (Zn (Za (Zk (wLoop (ι:=Nat) (fun m=>[(3,.pointer (some ⟨b13,0,none⟩)),(4,.int .i64 ((sumO true l i+o.fFuncs.length:Nat):Int)),(5,.int .i64 ((sumO false l i+m:Nat):Int)),(6,.int .i64 (i:Int)),(7,.pointer (some ⟨b7,0,none⟩)),(14,.slice A l.length cp),(15,.int .i64 (l.length:Int)),(16,.int .i64 (i:Int)),(40,.int .i64 (o.fDatas.length:Int)),(41,.int .i64 (m:Int))]) (fun m=>[blk b7 26 [.slice A0 o.fSymbols.length c0,.slice A1 o.fFuncs.length c1,.slice A2 o.fDatas.length c2],blk b13 119 [.slice A l.length cp,.map (some b11)],kmap itemV (Value.int .i64) b11 (numM l i o.fFuncs.length m)]) (fun m=>m≤o.fDatas.length) (fun m=>o.fDatas.length-m) 0 ?_ cv (Leads.has ZQ) ?_)))))
 exact Nat.zero_le _
 rintro m hm
 try dsimp only
 refine Zh (Zi (Zx J J (Zn (Za (Zh (wC (fun h42=>?_) (fun h42=>?_)))))))
 refine Zj (Za (Zh (Zk (Zh (Zi (Zo J (Zp J (Zn (Za (Zh (Zi (Zo J (Z3 J (Zz (n:=1) (m:=1) J J J (Zld ?_)))))))))))))))
 refine Zo J (Zo J (oBuild (Parts.cons J (Parts.cons J (Parts.cons J Parts.nil))) J J (Built.cons (off:=0) (s:=1) J ZP J ZP (Built.cons (off:=1) (s:=1) J ZP J ZP (Built.cons (off:=2) (s:=1) J ZP J ZP Built.nil))) ?_))
 refine Zo J (oMapUpdS (ev:=Value.int .i64) (k:=((2:Int),(i:Int),(m:Int))) keyS_item J J J J ZP ?_)
 refine Zn (Za (Zi (Zo J (Zsu ?_))))
 refine Zp J (Zn (Zzi ?_))
 refine Zo J (Zn (Za ?_))
 exact ⟨rfl,m+1,by omega,by omega,cv,by rw [numM_d];exact Lh⟩
 obtain rfl:m=o.fDatas.length:=by omega
 refine Zm (Zb (Zb (Ze (Zzi ?_))))
 refine Zo J (Zn (Za ?_))
 exact ⟨rfl,i+1,by omega,by omega,by rw [sumO_succ ho,sumO_succ ho];exact cv,by rw [← numM_next ho];exact Lh⟩
 obtain rfl:i=l.length:=by omega
 refine Zm (Zzr ?_)
 exact ⟨(b13,b11),trivial,rfl,Lh⟩
theorem numM_sym {l:List ApiObject}{i2:Nat}{o2:ApiObject}{y:ApiSymbol}(ho:l[i2]?=some o2) (hs:y.fSort=1∨y.fSort=2) (h0:0≤y.fDef) (h1:y.fDef<(mostN o2 y:Int)) :
 numM l l.length 0 0 (y.fSort,(i2:Int),y.fDef)=some (y.fDef+(sumO (decide (y.fSort=1)) l i2:Int)):=by
 have hl:=(List.getElem?_eq_some_iff.1 ho).1
 unfold mostN at h1
 unfold numM
 simp only
 rw [Int.toNat_natCast,objAt_eq ho]
 rcases hs with e | e
 · rw [if_neg ZO] at h1
   rw [if_pos ⟨e,by omega,h0,.inl ⟨by omega,h1⟩⟩,e]
   simp [Int.add_comm]
 · rw [if_pos e] at h1
   rw [if_neg (fun h=>by omega),if_pos ⟨e,by omega,h0,.inl ⟨by omega,h1⟩⟩,e]
   simp [Int.add_comm]
theorem binder_of {B:Base}{w:World}(A:Option Addr) (cp:Nat) (l:List ApiObject) (b13 b11:Nat) (hS:St B [blk b13 119 [.slice A l.length cp,.map (some b11)],kmap itemV (Value.int .i64) b11 (numM l l.length 0 0)] w) (hC:kApiObject.C B.e A l) (hsm:Go.Proofs.YtafiabekcekdbaaGreatS.Small l) (i k i2 k2:Nat) (o2:ApiObject) (y:ApiSymbol) (hb:bndF l i k=((i2:Int),(k2:Int),0)) (ho:l[i2]?=some o2) (hy:o2.fSymbols[k2]?=some y) (hs:y.fSort=1∨y.fSort=2) (h0:0≤y.fDef) (h1:y.fDef<(mostN o2 y:Int)) :
 CW 43 #[.pointer (some ⟨b13,0,none⟩),.int .i64 (i:Int),.int .i64 (k:Int)] w (Ret B (fun _:Unit=>True) (fun _=>.int .i64 (numberF l i k)) (fun _=>[blk b13 119 [.slice A l.length cp,.map (some b11)],kmap itemV (Value.int .i64) b11 (numM l l.length 0 0)])):=by
 have hil:=(List.getElem?_eq_some_iff.1 ho).1
 have hkl:=(List.getElem?_eq_some_iff.1 hy).1
 have hnum:numberF l i k=y.fDef+(sumO (decide (y.fSort=1)) l i2:Int):=by
  unfold numberF
  rw [hb]
  simp only
  rw [symOf_eq ho hy,Int.toNat_natCast]
 rw [hnum]
 obtain ⟨e1,cs1,hE⟩:=hC.elm ho
 obtain ⟨A0,c0,A1,c1,A2,c2,rfl,m0,q0,m1,q1,m2,q2⟩:=kApiObject_open hE.K
 obtain ⟨e2,cs2,hE2⟩:=q0.elm hy
 obtain rfl:=kApiSymbol_open hE2.K
 have hnm:=numM_sym ho hs h0 h1
 refine ZX Tryz.func43 hS ?_
 refine Zh (Zi (Zp J (Zn (Za (Zh (Zi (Zo J (Z3 J (Zz (n:=0) (m:=0) J J J (Zld ?_))))))))))
 refine Zo J (Zo J ?_)
 (refine ZC0 rfl ZK (fun w hS=>frame hS ZQ (fun B' hB hS'=>Go.Proofs.YtafiabekcekdbaaGreatS.boundx_any hS' A cp l (i:Int) (k:Int) (Kd.C_grow hB hC) hsm)) ?_;rintro ⟨⟩ -)
 rw [← bnd_eq,hb];try dsimp only
 refine Zo J (oExt J ZP ?_)
 refine oExt J ZP ?_
 refine oExt J ZP ?_
 refine Zp J (Zp J (Zp J (Zn (Za (Zh (Zi (Zo J (Z3 J (Zz (n:=0) (m:=0) J J J (Zld ?_))))))))))
 refine Zo J (oIdxE J J (hE) ZO J J ?_)
 have hc27:=(hE).cell
 refine ZF (ZT 0) (ZT 0) ?_
 refine Zlx hc27 ?_
 refine Zo J (oIdxE J J (hE2) ZO J J ?_)
 have hc31:=(hE2).cell
 refine Zlx hc31 ?_
 refine oAlloc J ZP (fun b10=>?_)
 refine Zsa ?_
 refine Zn (Za (Zh (wDrawG J [0,1,2,3,4,5,6,7,8,9,10] [] [11] 24 ZK J J (fun w0=>?_))))
 refine Zo J (Z3 J (Zz (n:=1) (m:=1) J J J (Zld ?_)))
 refine Zz (n:=2) (m:=2) J J J (Zld ?_)
 refine Zo J (Zz (n:=4) (m:=4) J J J (Zld ?_))
 refine oBuild (Parts.cons J (Parts.cons J (Parts.cons J Parts.nil))) J J (Built.cons (off:=0) (s:=1) J ZP J ZP (Built.cons (off:=1) (s:=1) J ZP J ZP (Built.cons (off:=2) (s:=1) J ZP J ZP Built.nil))) ?_
 refine oLookS (ev:=Value.int .i64) (m:=numM l l.length 0 0) (k:=(y.fSort,(i2:Int),y.fDef)) keyS_item rfl rfl rfl ZP (r:=.int .i64 (y.fDef+(sumO (decide (y.fSort=1)) l i2:Int))) (by rw [hnm];rfl) ?_
 refine Z6 (Zza ?_)
 exact ⟨(),trivial,rfl,Lh⟩
end Go.Proofs.YtafiabekcekdbaaGreatO
namespace Go.Proofs.YtafiabekcekdbaaGreatU
set_option maxRecDepth 100000
set_option maxHeartbeats 4000000
open Go.RowKit Go.Proofs.YtafiabekcekdbaaGreatK Go.Proofs.YtafiabekcekdbaaGreatT Go.Proofs.YtafiabekcekdbaaGreatL Go.Proofs.YtafiabekcekdbaaGreatV

theorem src_Cs {α:Type}{enc:α→Value}{h1:∀ x,(enc x).oneCell'=true}{W W' w:World}{A:Option Addr}{xs:List α}(hC:(Kd.scalar enc h1).C W' A xs) (g:Grow W' w):Src (Kd.scalar enc h1) W w A xs:=by
 obtain ⟨s1,s2⟩:=src_C hC g
 refine ⟨s1,fun ad e=>?_⟩
 obtain ⟨news,hc,hn⟩:=s2 ad e
 exact ⟨news,cat_scalar.2 (cat_scalar.1 hc),hn⟩
theorem clone_int {B:Base}{w:World}(hS:St B [] w) (l:List Int) (A:Option Addr) (cp:Nat) (hC:(Kd.int .i64).C B.e A l) (hl:l.length≤1000000) (W0:World) :
 CW 116 #[.slice A l.length cp] w (Ret B (fun _:Option Addr×Nat=>True) (fun z=>.slice z.1 l.length z.2) (fun z=>[row (Kd.int .i64) W0 3 (.slice z.1 l.length z.2) l])):=by
 refine ZX Tryz.func116 hS ?_
 refine Zh (Zi (Zp J (Zn (Za (Zh (Zh (Zi (Zo J (oEqlS J J J (Zn (Za (wC (fun h4=>?_) (fun h4=>?_)))))))))))))
 refine Zh (Zi (Zzc ?_))
 have hl0:l=[]:=by
  cases l with
  | nil=>rfl
  | cons x t=>obtain ⟨ad,e,_⟩:=hC.2 (by simp);rw [h4] at e;cases e
 subst hl0
 exact ⟨(none,0),trivial,rfl,(Leads.nilrow.trans Lh)⟩
 refine Zj (Za (Zh (Zi (oBuildSlice0 (Kd.int .i64) W0 J (fun b5=>?_)))))
 refine Zo J ?_
 refine oAppA (kd:=Kd.int .i64) (W:=W0) (xs:=[]) (ys:=l) J J J J ZP J (fun w hw=>src_Cs hC (Base.grow hw.ok)) (by simp;omega) J (fun A7 c7 hc7=>?_)
 refine ZS0 (t:=7) (v':=.slice A7 l.length c7) J (by simp) ?_
 rw [List.length_nil,Nat.zero_add,List.nil_append]
 refine Zp J (Zzk ?_)
 exact ⟨(A7,c7),trivial,rfl,Lh⟩
def leftL (p:Int→Bool) (l:List Int):List Int:=l.filter fun x=>!p x
theorem left_none {p:Int→Bool}{l:List Int}(h:∀ y ∈ l,p y=false):leftL p l=l:=by
 unfold leftL
 rw [List.filter_eq_self]
 intro a ha;rw [h a ha];rfl
theorem left_succ {p:Int→Bool}{l:List Int}{j:Nat}{x:Int}(h:l[j]?=some x):leftL p (l.take (j+1))=leftL p (l.take j)++(if p x=true then [] else [x]):=by
 unfold leftL
 rw [List.take_add_one,h,List.filter_append]
 congr 1
 show List.filter _ [x]=_
 cases hp:p x <;> simp [hp]
theorem left_le (p:Int→Bool) (l:List Int):(leftL p l).length≤l.length:=List.length_filter_le _ _
structure Part (p:Int→Bool) (l xs:List Int) (j:Nat):Prop where
  len:xs.length=l.length
  fst:xs.take (leftL p (l.take j)).length=leftL p (l.take j)
  rest:∀ k,j≤k→xs[k]?=l[k]?
theorem Part.start {p:Int→Bool}{l:List Int}{i:Nat}{x:Int}(h:∀ y ∈ l.take i,p y=false) (hi:l[i]?=some x) (hp:p x=true):(leftL p (l.take (i+1))).length=i∧Part p l l (i+1):=by
 have hl:=(List.getElem?_eq_some_iff.1 hi).1
 have e:leftL p (l.take (i+1))=l.take i:=by rw [left_succ hi,if_pos hp,List.append_nil,left_none h]
 have en:(leftL p (l.take (i+1))).length=i:=by rw [e,List.length_take];omega
 refine ⟨en,rfl,by rw [en,e],fun k hk=>rfl⟩
theorem Part.out {p:Int→Bool}{l xs:List Int}{j:Nat}{x:Int}(h:Part p l xs j) (hx:l[j]?=some x) (hp:p x=true):leftL p (l.take (j+1))=leftL p (l.take j)∧Part p l xs (j+1):=by
 have e:leftL p (l.take (j+1))=leftL p (l.take j):=by rw [left_succ hx,if_pos hp,List.append_nil]
 exact ⟨e,h.len,by rw [e];exact h.fst,fun k hk=>h.rest k ZO⟩
theorem Part.put {p:Int→Bool}{l xs:List Int}{j:Nat}{x:Int}(h:Part p l xs j) (hx:l[j]?=some x) (hp:p x=false):(leftL p (l.take (j+1))).length=(leftL p (l.take j)).length+1∧Part p l (xs.set (leftL p (l.take j)).length x) (j+1):=by
 have hjl:=(List.getElem?_eq_some_iff.1 hx).1
 have e:leftL p (l.take (j+1))=leftL p (l.take j)++[x]:=by rw [left_succ hx,if_neg (by rw [hp];simp)]
 have hn:(leftL p (l.take j)).length≤j:=Nat.le_trans (left_le _ _) (by rw [List.length_take];omega)
 have en:(leftL p (l.take (j+1))).length=(leftL p (l.take j)).length+1:=by rw [e,List.length_append];rfl
 refine ⟨en,by rw [List.length_set,h.len],?_,fun k hk=>?_⟩
 · rw [en,List.take_add_one,List.take_set_of_le (Nat.le_refl _),h.fst,List.getElem?_set_self (by rw [h.len];omega),e];rfl
 · rw [List.getElem?_set_ne ZO,h.rest k ZO]
end Go.Proofs.YtafiabekcekdbaaGreatU
namespace Go.Proofs.YtafiabekcekdbaaGreatO
set_option maxRecDepth 100000
set_option maxHeartbeats 4000000
open Go.RowKit Go.Proofs.YtafiabekcekdbaaGreatK Go.Proofs.YtafiabekcekdbaaGreatT Go.Proofs.YtafiabekcekdbaaGreatL Go.Proofs.YtafiabekcekdbaaGreatV Go.Proofs.YtafiabekcekdbaaGreatG Go.Proofs.YtafiabekcekdbaaGreatW

def BoOk (l:List ApiObject) (i:Nat) (s:Int):Prop:=s<0∧s = -1∨∃ (k i2 k2:Nat) (o2:ApiObject) (y:ApiSymbol),s=(k:Int)∧bndF l i k=((i2:Int),(k2:Int),0)∧l[i2]?=some o2∧o2.fSymbols[k2]?=some y∧(y.fSort=1∨y.fSort=2)∧0≤y.fDef∧y.fDef<(mostN o2 y:Int)
theorem boundL_at {l:List ApiObject}{i:Int}{syms:List Int}{j:Nat}{s:Int}(h:syms[j]?=some s):(boundL l i syms)[j]?=some (boundE l i s):=by
 unfold boundL;rw [List.getElem?_map,h];rfl
theorem binder_refs {B:Base}{w:World}(A:Option Addr) (cp:Nat) (l:List ApiObject) (b13 b11:Nat) (hS:St B [blk b13 119 [.slice A l.length cp,.map (some b11)],kmap itemV (Value.int .i64) b11 (numM l l.length 0 0)] w) (hC:kApiObject.C B.e A l) (hsm:Go.Proofs.YtafiabekcekdbaaGreatS.Small l) (i:Nat) (syms:List Int) (A1:Option Addr) (cp1:Nat) (hC1:(Kd.int .i64).C B.e A1 syms) (hl1:syms.length≤4000) (hok:∀ s ∈ syms,BoOk l i s) (W0:World) :
 CW 80 #[.pointer (some ⟨b13,0,none⟩),.int .i64 (i:Int),.slice A1 syms.length cp1] w (Ret B (fun _:Option Addr×Nat=>True) (fun z=>.slice z.1 syms.length z.2) (fun z=>[row (Kd.int .i64) W0 3 (.slice z.1 syms.length z.2) (boundL l i syms),blk b13 119 [.slice A l.length cp,.map (some b11)],kmap itemV (Value.int .i64) b11 (numM l l.length 0 0)])):=by
 have hrl:=boundL_len l i syms
 refine ZX Tryz.func80 hS ?_
 refine Zh (Zi (Zp J (Zn (Zzm ?_))))
 (refine ZC0 rfl ZK (fun w hS=>frame hS ZQ (fun B' hB hS'=>Go.Proofs.YtafiabekcekdbaaGreatU.clone_int hS' syms A1 cp1 (Kd.C_grow hB hC1) ZO W0)) ?_;rintro ⟨A11,c11⟩ -)
 refine Zp J (Zn (Za (Zh (Zh (Zi (Zo J (Zv J J (Zo J (Zn (Za (Zk ?_)))))))))))
 refine wLoop (ι:=Nat) (fun j=>[(0,.pointer (some ⟨b13,0,none⟩)),(1,.int .i64 (i:Int)),(7,.slice A11 syms.length c11),(12,.slice A11 syms.length c11),(13,.int .i64 (syms.length:Int)),(14,.int .i64 (j:Int))]) (fun j=>[row (Kd.int .i64) W0 3 (.slice A11 syms.length c11) (mix (boundL l i syms) syms j),blk b13 119 [.slice A l.length cp,.map (some b11)],kmap itemV (Value.int .i64) b11 (numM l l.length 0 0)]) (fun j=>j≤syms.length) (fun j=>syms.length-j) 0 ?_ cv (by rw [mix_zero];exact Lh) ?_
 exact Nat.zero_le _
 rintro j hj
 have hxl:(mix (boundL l i syms) syms j).length=syms.length:=mix_len hrl j
 try dsimp only
 refine Zh (Zi (Zx J J (Zn (Za (Zh (wC (fun h15=>?_) (fun h15=>?_)))))))
 refine Zj (Za (Zh (Zk (Zh (Zi (Zo J (ZR J J ZP ZO J J (fun g17 hg17=>?_))))))))
 first | subst hg17 | (injection hg17 with hg17;injection hg17 with hg17;subst hg17)
 refine ZR1 J ZP ZO J (fun u18 hu18=>?_)
 rw [mix_get hrl,if_neg (Nat.lt_irrefl j)] at hu18
 refine Zp J (Zp J (Zn (Za (Zh (Zi (Zo J (Z2 J J (Zn (Za (wC (fun h20=>?_) (fun h20=>?_)))))))))))
 obtain ⟨k,i2,k2,o2,y,hk,hb,ho,hy,hs,h0,h1⟩:∃ (k i2 k2:Nat) (o2:ApiObject) (y:ApiSymbol),u18=(k:Int)∧bndF l i k=((i2:Int),(k2:Int),0)∧l[i2]?=some o2∧o2.fSymbols[k2]?=some y∧(y.fSort=1∨y.fSort=2)∧0≤y.fDef∧y.fDef<(mostN o2 y:Int):=(hok _ (List.mem_of_getElem? hu18)).elim (fun h=>absurd h.1 ZO) id
 subst hk
 refine Zi (Zo J (Zo J (Zo J (Zo J (Zo J ?_)))))
 (refine ZC0 rfl ZK (fun w hS=>frame hS ZQ (fun B' hB hS'=>binder_of A cp l b13 b11 hS' (Kd.C_grow hB hC) hsm i k i2 k2 o2 y hb ho hy hs h0 h1)) ?_;rintro ⟨⟩ -)
 refine ZR J J ZP ZO J J (fun g27 hg27=>?_)
 first | subst hg27 | (injection hg27 with hg27;injection hg27 with hg27;subst hg27)
 refine oStR (enc:=Value.int .i64) (numberF l i k) J J J J ZP ZO ?_
 rw [mix_set hrl (by rw [boundL_at hu18];unfold boundE;rw [if_pos ZO])]
 refine Zn (Zzi ?_)
 refine Zo J (Zn (Za ?_))
 exact ⟨rfl,j+1,by omega,by omega,cv,Lh⟩
 refine Zj (Zzi ?_)
 refine Zo J (Zn (Za ?_))
 exact ⟨rfl,j+1,by omega,by omega,cv,by rw [mix_same hrl (by rw [boundL_at hu18];unfold boundE;rw [if_neg ZO];rcases hok _ (List.mem_of_getElem? hu18) with h | ⟨k,_,_,_,_,h,_⟩;rw [hu18,h.2];omega)];exact Lh⟩
 obtain rfl:j=syms.length:=by omega
 rw [mix_all hrl]
 refine Zm (Zzr ?_)
 exact ⟨(A11,c11),trivial,rfl,Lh⟩
open Go.Proofs.YtafiabekcekdbaaGreatU
theorem cat_flat {α:Type}{kd:Kd α}{W W':World}(hf:∀ x cs,kd.K W' x cs→kd.K W x cs):∀ {xs:List α}{cs:List Value},Cat kd W' xs cs→Cat kd W xs cs
 | [],cs,h=>h
 | x :: xs,cs,⟨a,rest,e,hK,h⟩=>⟨a,rest,e,hf _ _ hK,cat_flat hf h⟩
theorem src_Cf {α:Type}{kd:Kd α}{W W' w:World}{A:Option Addr}{xs:List α}(hC:kd.C W' A xs) (g:Grow W' w) (hf:∀ x cs,kd.K W' x cs→kd.K W x cs):Src kd W w A xs:=by
 obtain ⟨s1,s2⟩:=src_C hC g
 refine ⟨s1,fun ad e=>?_⟩
 obtain ⟨news,hc,hn⟩:=s2 ad e
 exact ⟨news,cat_flat hf hc,hn⟩
theorem clone_w {B:Base}{w:World}(hS:St B [] w) (l:List Int) (A:Option Addr) (cp:Nat) (hC:(Kd.int .i64).C B.e A l) (hl:l.length≤1000000) (W0:World) :
 CW 120 #[.slice A l.length cp] w (Ret B (fun _:Option Addr×Nat=>True) (fun z=>.slice z.1 l.length z.2) (fun z=>[row (Kd.int .i64) W0 2 (.slice z.1 l.length z.2) l])):=by
 refine ZX Tryz.func120 hS ?_
 refine Zh (Zi (Zp J (Zn (Za (Zh (Zh (Zi (Zo J (oEqlS J J J (Zn (Za (wC (fun h4=>?_) (fun h4=>?_)))))))))))))
 refine Zh (Zi (Zzc ?_))
 have hl0:l=[]:=by
  cases l with
  | nil=>rfl
  | cons x t=>obtain ⟨ad,e,_⟩:=hC.2 (by simp);rw [h4] at e;cases e
 subst hl0
 exact ⟨(none,0),trivial,rfl,(Leads.nilrow.trans Lh)⟩
 refine Zj (Za (Zh (Zi (oBuildSlice0 (Kd.int .i64) W0 J (fun b5=>?_)))))
 refine Zo J ?_
 refine oAppA (kd:=(Kd.int .i64)) (W:=W0) (xs:=[]) (ys:=l) J J J J ZP J (fun w hw=>src_Cf hC (Base.grow hw.ok) (fun _ _ h=>h)) (by simp;omega) J (fun A7 c7 hc7=>?_)
 refine ZS0 (t:=7) (v':=.slice A7 l.length c7) J (by simp) ?_
 rw [List.length_nil,Nat.zero_add,List.nil_append]
 refine Zp J (Zzk ?_)
 exact ⟨(A7,c7),trivial,rfl,Lh⟩
theorem clone_rel {B:Base}{w:World}(hS:St B [] w) (l:List ApiReloc) (A:Option Addr) (cp:Nat) (hC:kApiReloc.C B.e A l) (hl:l.length≤1000000) (W0:World) :
 CW 119 #[.slice A l.length cp] w (Ret B (fun _:Option Addr×Nat=>True) (fun z=>.slice z.1 l.length z.2) (fun z=>[row kApiReloc W0 103 (.slice z.1 l.length z.2) l])):=by
 refine ZX Tryz.func119 hS ?_
 refine Zh (Zi (Zp J (Zn (Za (Zh (Zh (Zi (Zo J (oEqlS J J J (Zn (Za (wC (fun h4=>?_) (fun h4=>?_)))))))))))))
 refine Zh (Zi (Zzc ?_))
 have hl0:l=[]:=by
  cases l with
  | nil=>rfl
  | cons x t=>obtain ⟨ad,e,_⟩:=hC.2 (by simp);rw [h4] at e;cases e
 subst hl0
 exact ⟨(none,0),trivial,rfl,(Leads.nilrow.trans Lh)⟩
 refine Zj (Za (Zh (Zi (oBuildSlice0 kApiReloc W0 J (fun b5=>?_)))))
 refine Zo J ?_
 refine oAppA (kd:=kApiReloc) (W:=W0) (xs:=[]) (ys:=l) J J J J ZP J (fun w hw=>src_Cf hC (Base.grow hw.ok) (fun _ _ h=>h)) (by simp;omega) J (fun A7 c7 hc7=>?_)
 refine ZS0 (t:=7) (v':=.slice A7 l.length c7) J (by simp) ?_
 rw [List.length_nil,Nat.zero_add,List.nil_append]
 refine Zp J (Zzk ?_)
 exact ⟨(A7,c7),trivial,rfl,Lh⟩
theorem clone_ins {B:Base}{w:World}(hS:St B [] w) (l:List ApiInstr) (A:Option Addr) (cp:Nat) (hC:kApiInstr.C B.e A l) (hl:l.length≤1000000) (W0:World) :
 CW 118 #[.slice A l.length cp] w (Ret B (fun _:Option Addr×Nat=>True) (fun z=>.slice z.1 l.length z.2) (fun z=>[row kApiInstr W0 67 (.slice z.1 l.length z.2) l])):=by
 refine ZX Tryz.func118 hS ?_
 refine Zh (Zi (Zp J (Zn (Za (Zh (Zh (Zi (Zo J (oEqlS J J J (Zn (Za (wC (fun h4=>?_) (fun h4=>?_)))))))))))))
 refine Zh (Zi (Zzc ?_))
 have hl0:l=[]:=by
  cases l with
  | nil=>rfl
  | cons x t=>obtain ⟨ad,e,_⟩:=hC.2 (by simp);rw [h4] at e;cases e
 subst hl0
 exact ⟨(none,0),trivial,rfl,(Leads.nilrow.trans Lh)⟩
 refine Zj (Za (Zh (Zi (oBuildSlice0 kApiInstr W0 J (fun b5=>?_)))))
 refine Zo J ?_
 refine oAppA (kd:=kApiInstr) (W:=W0) (xs:=[]) (ys:=l) J J J J ZP J (fun w hw=>src_Cf hC (Base.grow hw.ok) (fun _ _ h=>h)) (by simp;omega) J (fun A7 c7 hc7=>?_)
 refine ZS0 (t:=7) (v':=.slice A7 l.length c7) J (by simp) ?_
 rw [List.length_nil,Nat.zero_add,List.nil_append]
 refine Zp J (Zzk ?_)
 exact ⟨(A7,c7),trivial,rfl,Lh⟩
theorem clone_lin {B:Base}{w:World}(hS:St B [] w) (l:List ApiLine) (A:Option Addr) (cp:Nat) (hC:kApiLine.C B.e A l) (hl:l.length≤1000000) (W0:World) :
 CW 117 #[.slice A l.length cp] w (Ret B (fun _:Option Addr×Nat=>True) (fun z=>.slice z.1 l.length z.2) (fun z=>[row kApiLine W0 134 (.slice z.1 l.length z.2) l])):=by
 refine ZX Tryz.func117 hS ?_
 refine Zh (Zi (Zp J (Zn (Za (Zh (Zh (Zi (Zo J (oEqlS J J J (Zn (Za (wC (fun h4=>?_) (fun h4=>?_)))))))))))))
 refine Zh (Zi (Zzc ?_))
 have hl0:l=[]:=by
  cases l with
  | nil=>rfl
  | cons x t=>obtain ⟨ad,e,_⟩:=hC.2 (by simp);rw [h4] at e;cases e
 subst hl0
 exact ⟨(none,0),trivial,rfl,(Leads.nilrow.trans Lh)⟩
 refine Zj (Za (Zh (Zi (oBuildSlice0 kApiLine W0 J (fun b5=>?_)))))
 refine Zo J ?_
 refine oAppA (kd:=kApiLine) (W:=W0) (xs:=[]) (ys:=l) J J J J ZP J (fun w hw=>src_Cf hC (Base.grow hw.ok) (fun _ _ h=>h)) (by simp;omega) J (fun A7 c7 hc7=>?_)
 refine ZS0 (t:=7) (v':=.slice A7 l.length c7) J (by simp) ?_
 rw [List.length_nil,Nat.zero_add,List.nil_append]
 refine Zp J (Zzk ?_)
 exact ⟨(A7,c7),trivial,rfl,Lh⟩
abbrev datC (d:ApiData) (z:(Option Addr×Nat)×(Option Addr×Nat)):List Value:=[.int .i64 d.fKind,.slice z.1.1 d.fWords.length z.1.2,.slice z.2.1 d.fRelocs.length z.2.2]
abbrev datR (W0:World) (d:ApiData) (z:(Option Addr×Nat)×(Option Addr×Nat)):List Res:=[row (Kd.int .i64) W0 2 (.slice z.1.1 d.fWords.length z.1.2) d.fWords,row kApiReloc W0 103 (.slice z.2.1 d.fRelocs.length z.2.2) d.fRelocs]
abbrev funC (f:ApiFunc) (z:(Option Addr×Nat)×(Option Addr×Nat)×(Option Addr×Nat)×(Option Addr×Nat)):List Value:=[.int .i64 f.fClass,.slice z.1.1 f.fKinds.length z.1.2,.int .i64 f.fPad,.bool f.fNosplit,.int .i64 f.fFrom,.int .i64 f.fTo,.slice z.2.1.1 f.fLines.length z.2.1.2,.slice z.2.2.1.1 f.fCode.length z.2.2.1.2,.slice z.2.2.2.1 f.fRelocs.length z.2.2.2.2]
abbrev funR (W0:World) (f:ApiFunc) (z:(Option Addr×Nat)×(Option Addr×Nat)×(Option Addr×Nat)×(Option Addr×Nat)):List Res:=[row (Kd.int .i64) W0 3 (.slice z.1.1 f.fKinds.length z.1.2) f.fKinds,row kApiLine W0 134 (.slice z.2.1.1 f.fLines.length z.2.1.2) f.fLines,row kApiInstr W0 67 (.slice z.2.2.1.1 f.fCode.length z.2.2.1.2) f.fCode,row kApiReloc W0 103 (.slice z.2.2.2.1 f.fRelocs.length z.2.2.2.2) f.fRelocs]
theorem row_flat {α:Type}{kd:Kd α}{W W' w:World}{e:TypeId}{v:Value}{xs:List α}(hf:∀ x cs,kd.K W x cs→kd.K W' x cs) (h:(row kd W e v xs).q w):(row kd W' e v xs).q w:=by
 obtain ⟨cs,ho,hr⟩:=h
 exact ⟨cs,ho,cat_flat hf hr⟩
theorem row_own {α:Type}{kd:Kd α}{W w:World}{e:TypeId}{A:Option Addr}{n cp:Nat}{xs:List α}(hf:∀ x cs,kd.K W x cs→kd.K w x cs) (h:(row kd W e (.slice A n cp) xs).q w):n≤cp∧kd.C w A xs:=by
 obtain ⟨_,h2,h3,_⟩:=row_C (row_flat hf h) (Grow.refl w)
 exact ⟨h2,h3⟩
theorem dat_K {W0 w:World}{d:ApiData}{z} (h:∀ r ∈ datR W0 d z,r.q w):kApiData.K w d (datC d z):=by
 obtain ⟨a1,a2⟩:=row_own (W:=W0) (by exact fun _ _ h=>h) (h _ (.head _))
 obtain ⟨b1,b2⟩:=row_own (W:=W0) (by exact fun _ _ h=>h) (h _ (.tail _ (.head _)))
 exact kApiData_mk w d a1 a2 b1 b2
theorem fun_K {W0 w:World}{f:ApiFunc}{z} (h:∀ r ∈ funR W0 f z,r.q w):kApiFunc.K w f (funC f z):=by
 obtain ⟨a1,a2⟩:=row_own (W:=W0) (by exact fun _ _ h=>h) (h _ (.head _))
 obtain ⟨b1,b2⟩:=row_own (W:=W0) (by exact fun _ _ h=>h) (h _ (.tail _ (.head _)))
 obtain ⟨c1,c2⟩:=row_own (W:=W0) (by exact fun _ _ h=>h) (h _ (.tail _ (.tail _ (.head _))))
 obtain ⟨d1,d2⟩:=row_own (W:=W0) (by exact fun _ _ h=>h) (h _ (.tail _ (.tail _ (.tail _ (.head _)))))
 exact kApiFunc_mk w f a1 a2 b1 b2 c1 c2 d1 d2
theorem bind_dat {B:Base}{w:World}(hS:St B [] w) (d:ApiData) (dc:List Value) (hd:kApiData.K B.e d dc) (h1:d.fWords.length≤100) (h2:d.fRelocs.length≤100) (W0:World) :
 CW 81 #[.agg dc.toArray] w (Ret B (fun _:(Option Addr×Nat)×(Option Addr×Nat)=>True) (fun z=>.agg (datC d z).toArray) (fun z=>datR W0 d z)):=by
 obtain ⟨A0,c0,A1,c1,rfl,l0,g0,l1,g1⟩:=kApiData_open hd
 refine ZX Tryz.func81 hS ?_
 refine Zh (Zi (oBox J ZP (fun b1=>?_)))
 refine oAlloc J ZP (fun b2=>?_)
 refine Zn (Za (Zh (wDrawG J [0,1,3,4] [(2,[3,4],[6]),(5,[6],[])] [7,8,9] 24 ZK J J (fun w0=>?_))))
 refine Zz (n:=1) (m:=1) J J J (Zld ?_)
 refine Zz (n:=2) (m:=2) J J J (Zld ?_)
 refine Z4 (Z5 J ?_)
 (refine ZC0 rfl ZK (fun w hS=>frame hS ZQ (fun B' hB hS'=>clone_w hS' d.fWords A0 c0 (Kd.C_grow hB g0) ZO W0)) ?_;rintro ⟨A5,c5⟩ -)
 refine ZG ?_ J (fun w0=>?_)
 refine Z8 J J J J (fun w0=>?_) ?_
 refine Zz (n:=2) (m:=2) J J J ?_
 exact Z9 rfl
 refine Z8 J J J J (fun w0=>?_) ?_
 refine Zld ?_
 exact Z9 rfl
 exact AgainG.nil
 refine Zz (n:=1) (m:=1) J J J (Z4 (Z5 J ?_))
 (refine ZC0 rfl ZK (fun w hS=>frame hS ZQ (fun B' hB hS'=>clone_rel hS' d.fRelocs A1 c1 (Kd.C_grow hB g1) ZO W0)) ?_;rintro ⟨A8,c8⟩ -)
 refine ZG ?_ J (fun w0=>?_)
 refine Z8 J J J J (fun w0=>?_) ?_
 refine Zz (n:=1) (m:=1) J J J ?_
 exact Z9 rfl
 exact AgainG.nil
 refine Z6 (Zst ?_)
 refine Zz (n:=2) (m:=2) J J J (Zst ?_)
 refine Zn (Za (Zzs ?_))
 refine Zsa ?_
 refine Zn (Za (Zl (Zw (ZI ?_))))
 exact ⟨((A5,c5),(A8,c8)),trivial,rfl,Lh⟩
theorem bind_fun {B:Base}{w:World}(hS:St B [] w) (f:ApiFunc) (fc:List Value) (hf:kApiFunc.K B.e f fc) (h1:f.fKinds.length≤100) (h2:f.fLines.length≤100) (h3:f.fCode.length≤100) (h4:f.fRelocs.length≤100) (W0:World) :
 CW 79 #[.agg fc.toArray] w (Ret B (fun _:(Option Addr×Nat)×(Option Addr×Nat)×(Option Addr×Nat)×(Option Addr×Nat)=>True) (fun z=>.agg (funC f z).toArray) (fun z=>funR W0 f z)):=by
 obtain ⟨A0,c0,A1,c1,A2,c2,A3,c3,rfl,l0,g0,l1,g1,l2,g2,l3,g3⟩:=kApiFunc_open hf
 refine ZX Tryz.func79 hS ?_
 refine Zh (Zi (oBox J ZP (fun b1=>?_)))
 refine oAlloc J ZP (fun b2=>?_)
 refine Zn (Za (Zh (wDrawG J [0,1,3,4,6,7,9,10] [(2,[3,4,6,7,9,10],[12]),(5,[6,7,9,10,12],[]),(8,[9,10,12],[]),(11,[12],[])] [13,14,15,16,17,18,19] 24 ZK J J (fun w0=>?_))))
 refine Zz (n:=1) (m:=1) J J J (Zld ?_)
 refine Zz (n:=6) (m:=6) J J J (Zld ?_)
 refine Zz (n:=7) (m:=7) J J J (Zld ?_)
 refine Zz (n:=8) (m:=8) J J J (Zld ?_)
 refine Z4 (Z5 J ?_)
 (refine ZC0 rfl ZK (fun w hS=>frame hS ZQ (fun B' hB hS'=>Go.Proofs.YtafiabekcekdbaaGreatU.clone_int hS' f.fKinds A0 c0 (Kd.C_grow hB g0) ZO W0)) ?_;rintro ⟨A5,c5⟩ -)
 refine ZG ?_ J (fun w0=>?_)
 refine Z8 J J J J (fun w0=>?_) ?_
 refine Zz (n:=6) (m:=6) J J J ?_
 exact Z9 rfl
 refine Z8 J J J J (fun w0=>?_) ?_
 refine Zld ?_
 exact Z9 rfl
 refine Z8 J J J J (fun w0=>?_) ?_
 refine Zz (n:=7) (m:=7) J J J ?_
 exact Z9 rfl
 refine Z8 J J J J (fun w0=>?_) ?_
 refine Zld ?_
 exact Z9 rfl
 refine Z8 J J J J (fun w0=>?_) ?_
 refine Zz (n:=8) (m:=8) J J J ?_
 exact Z9 rfl
 refine Z8 J J J J (fun w0=>?_) ?_
 refine Zld ?_
 exact Z9 rfl
 exact AgainG.nil
 refine Zz (n:=1) (m:=1) J J J (Z4 (Z5 J ?_))
 (refine ZC0 rfl ZK (fun w hS=>frame hS ZQ (fun B' hB hS'=>clone_lin hS' f.fLines A1 c1 (Kd.C_grow hB g1) ZO W0)) ?_;rintro ⟨A8,c8⟩ -)
 refine ZG ?_ J (fun w0=>?_)
 refine Z8 J J J J (fun w0=>?_) ?_
 refine Zz (n:=7) (m:=7) J J J ?_
 exact Z9 rfl
 refine Z8 J J J J (fun w0=>?_) ?_
 refine Zld ?_
 exact Z9 rfl
 refine Z8 J J J J (fun w0=>?_) ?_
 refine Zz (n:=8) (m:=8) J J J ?_
 exact Z9 rfl
 refine Z8 J J J J (fun w0=>?_) ?_
 refine Zld ?_
 exact Z9 rfl
 refine Z8 J J J J (fun w0=>?_) ?_
 refine Zz (n:=1) (m:=1) J J J ?_
 exact Z9 rfl
 exact AgainG.nil
 refine Z4 (Z5 J ?_)
 (refine ZC0 rfl ZK (fun w hS=>frame hS ZQ (fun B' hB hS'=>clone_ins hS' f.fCode A2 c2 (Kd.C_grow hB g2) ZO W0)) ?_;rintro ⟨A11,c11⟩ -)
 refine ZG ?_ J (fun w0=>?_)
 refine Z8 J J J J (fun w0=>?_) ?_
 refine Zz (n:=8) (m:=8) J J J ?_
 exact Z9 rfl
 refine Z8 J J J J (fun w0=>?_) ?_
 refine Zld ?_
 exact Z9 rfl
 refine Z8 J J J J (fun w0=>?_) ?_
 refine Zz (n:=1) (m:=1) J J J ?_
 exact Z9 rfl
 exact AgainG.nil
 refine Z4 (Z5 J ?_)
 (refine ZC0 rfl ZK (fun w hS=>frame hS ZQ (fun B' hB hS'=>clone_rel hS' f.fRelocs A3 c3 (Kd.C_grow hB g3) ZO W0)) ?_;rintro ⟨A14,c14⟩ -)
 refine ZG ?_ J (fun w0=>?_)
 refine Z8 J J J J (fun w0=>?_) ?_
 refine Zz (n:=1) (m:=1) J J J ?_
 exact Z9 rfl
 exact AgainG.nil
 refine Z6 (Zst ?_)
 refine Zz (n:=6) (m:=6) J J J (Zst ?_)
 refine Zz (n:=7) (m:=7) J J J (Zst ?_)
 refine Zz (n:=8) (m:=8) J J J (Zst ?_)
 refine Zn (Za (Zzs ?_))
 refine Zsa ?_
 refine Zn (Za (Zl (Zw (ZI ?_))))
 exact ⟨((A5,c5),(A8,c8),(A11,c11),(A14,c14)),trivial,rfl,Lh⟩
end Go.Proofs.YtafiabekcekdbaaGreatO
namespace Go.Proofs.YtafiabekcekdbaaGreatW
set_option maxRecDepth 100000
set_option maxHeartbeats 4000000
open Go.RowKit Go.Proofs.YtafiabekcekdbaaGreatK Go.Proofs.YtafiabekcekdbaaGreatT Go.Proofs.YtafiabekcekdbaaGreatL Go.Proofs.YtafiabekcekdbaaGreatV Go.Proofs.YtafiabekcekdbaaGreatG

theorem ref24_number {B:Base}{w:World}(hS:St B [] w) (A:Option Addr) (cp:Nat) (l:List ApiObject) (hC:kApiObject.C B.e A l) (hsm:FewO l) (i k:Nat) (hb:BndOk l i k) :
 CW 47 #[.slice A l.length cp,.int .i64 (i:Int),.int .i64 (k:Int)] w (Ret B (fun _:Unit=>True) (fun _=>.int .i64 (numberF l i k)) (fun _=>[])):=by
 have hln:=hsm.len
 obtain ⟨i2,k2,o2,y,hb,ho2,hy,hd0,hd1⟩:=hb
 have hmo:=most_le hsm (List.mem_of_getElem? ho2) y
 have hnf:numberF l i k=y.fDef+(sumO (decide (y.fSort=1)) l i2:Int):=by unfold numberF;rw [hb];dsimp only;rw [symOf_eq ho2 hy,Int.toNat_natCast]
 have hil:=(List.getElem?_eq_some_iff.1 ho2).1
 have hkl:=(List.getElem?_eq_some_iff.1 hy).1
 obtain ⟨e1,cs1,hE⟩:=hC.elm ho2
 obtain ⟨B0,d0,B1,d1,B2,d2,rfl,m0,q0,m1,q1,m2,q2⟩:=kApiObject_open hE.K
 obtain ⟨e2,cs2,hE2⟩:=q0.elm hy
 obtain rfl:=kApiSymbol_open hE2.K
 rw [hnf]
 refine ZX Tryz.func47 hS ?_
 refine Zh (Zi (Zp J (Zn (Za (Zh (Zi (Zo J (Zo J (Zo J ?_)))))))))
 (refine ZC0 rfl ZK (fun w hS=>frame hS ZQ (fun B' hB hS'=>ref23_Bound hS' A cp l (Kd.C_grow hB hC) hsm (i:Int) (k:Int))) ?_;rintro ⟨⟩ -)
 rw [hb]
 dsimp only
 refine Zo J (oExt J ZP ?_)
 refine oExt J ZP ?_
 refine oExt J ZP ?_
 refine Zp J (Zp J (Zp J (Zn (Za (Zh (Zi (Zo J (Zo J (oIdxE J J (hE) ZO J J ?_)))))))))
 have hc23:=(hE).cell
 refine ZF (ZT 0) (ZT 0) ?_
 refine Zlx hc23 ?_
 refine Zo J (oIdxE J J (hE2) ZO J J ?_)
 have hc27:=(hE2).cell
 refine Zlx hc27 ?_
 refine oAlloc J ZP (fun b10=>?_)
 refine Zsa ?_
 refine Zn (Za (Zh (Zi (Zz (n:=4) (m:=4) J J J (Zld ?_)))))
 refine Zp J (ZS0 (t:=11) (v':=.int .i64 (y.fDef+(sumO (decide (y.fSort=1)) l 0:Int))) J (by simp [sumO]) ?_)
 refine Zn (Za (Zh (Zh (Zi (Zp J (Zn (Za (Zk (wLoop (ι:=Nat) (fun j=>[(0,.slice A l.length cp),(7,.int .i64 (i2:Int)),(10,.pointer (some ⟨b10,0,none⟩)),(11,.int .i64 (y.fDef+(sumO (decide (y.fSort=1)) l j:Int))),(12,.int .i64 (j:Int))]) (fun j=>[blk b10 37 [.string y.fName,.bool y.fLocal,.int .i64 y.fSort,.int .i64 y.fKind,.int .i64 y.fDef]]) (fun j=>j≤i2) (fun j=>i2-j) 0 ?_ cv (Leads.has ZQ) ?_)))))))))
 exact Nat.zero_le _
 rintro j hj
 have hsl:=sumO_le (fn:=decide (y.fSort=1)) hsm j
 try dsimp only
 refine Zh (Zh (Zi (Zo J (Zo J (Zx J J (Zn (Za (wC (fun h33=>?_) (fun h33=>?_)))))))))
 obtain ⟨oj,hoj⟩:∃ oj,l[j]?=some oj:=⟨_,List.getElem?_eq_getElem ZO⟩
 have hf1:=hsm.funcs oj (List.mem_of_getElem? hoj)
 have hf2:=hsm.datas oj (List.mem_of_getElem? hoj)
 obtain ⟨e3,cs3,hE3⟩:=hC.elm hoj
 obtain ⟨C0,f0,C1,f1,C2,f2,rfl,n0,r0,n1,r1,n2,r2⟩:=kApiObject_open hE3.K
 refine Zj (Za (Zh (Zk (Zh (Zi (Zz (n:=2) (m:=2) J J J (Zld ?_)))))))
 refine Zy J J (Zn (Za (wC (fun h38=>?_) (fun h38=>?_))))
 refine Zi (Zo J (Zo J (Zo J (oIdxE J J (hE3) ZO J J ?_))))
 have hc42:=(hE3).cell
 refine ZF (ZT 1) (ZT 1) ?_
 refine Zlx hc42 ?_
 refine Zv J J (oAdd J J ZO ?_)
 refine ZS0 (t:=46) (v':=.int .i64 (y.fDef+(sumO (decide (y.fSort=1)) l (j+1):Int))) rfl (by rw [sumO_succ hoj,if_pos (decide_eq_true h38)];congr 1;push_cast;omega) ?_
 refine Zp J ?_
 skip
 refine Zn (Zze ?_)
 refine Zp J (Zn (Za ?_))
 exact ⟨rfl,j+1,by omega,by omega,cv,Lh⟩
 refine Zi (Zo J (Zo J (Zo J (oIdxE J J (hE3) ZO J J ?_))))
 have hc50:=(hE3).cell
 refine ZF (ZT 2) (ZT 2) ?_
 refine Zlx hc50 ?_
 refine Zv J J (oAdd J J ZO ?_)
 refine ZS0 (t:=54) (v':=.int .i64 (y.fDef+(sumO (decide (y.fSort=1)) l (j+1):Int))) rfl (by rw [sumO_succ hoj,if_neg (by simpa using h38)];congr 1;push_cast;omega) ?_
 refine Zp J ?_
 skip
 refine Zn (Zze ?_)
 refine Zp J (Zn (Za ?_))
 exact ⟨rfl,j+1,by omega,by omega,cv,Lh⟩
 obtain rfl:j=i2:=by omega
 refine Zm (Zzr ?_)
 exact ⟨(),trivial,rfl,Lh⟩
theorem boundL_succ {l:List ApiObject}{i:Int}{syms:List Int}{j:Nat}{s:Int}(h:syms[j]?=some s):boundL l i (syms.take (j+1))=boundL l i (syms.take j)++[boundE l i s]:=by
 unfold boundL
 rw [List.take_add_one,h,List.map_append];rfl
theorem ref24_bound {B:Base}{w:World}(hS:St B [] w) (A:Option Addr) (cp:Nat) (l:List ApiObject) (hC:kApiObject.C B.e A l) (hsm:FewO l) (i:Nat) (A1:Option Addr) (cp1:Nat) (syms:List Int) (hC1:(Kd.int .i64).C B.e A1 syms) (hn:syms.length≤1000) (hb:∀ s ∈ syms,∀ k:Nat,s=(k:Int)→BndOk l i k) (W0:World) :
 CW 89 #[.slice A l.length cp,.int .i64 (i:Int),.slice A1 syms.length cp1] w (Ret B (fun _:Option Addr×Nat=>True) (fun z=>.slice z.1 (boundL l i syms).length z.2) (fun z=>[row (Kd.int .i64) W0 3 (.slice z.1 (boundL l i syms).length z.2) (boundL l i syms)])):=by
 refine ZX Tryz.func89 hS ?_
 refine Zh (Zi (Zp J (Zn (Za (Zh (Zi (Zp J (Zn (Za (Zh (Zh (Zi (Zp J (Zn (Za (Zk (wLoop (ι:=Nat×Option Addr×Nat) (fun z=>[(0,.slice A l.length cp),(1,.int .i64 (i:Int)),(2,.slice A1 syms.length cp1),(7,.slice z.2.1 (boundL l i (syms.take z.1)).length z.2.2),(8,.int .i64 (z.1:Int))]) (fun z=>[row (Kd.int .i64) W0 3 (.slice z.2.1 (boundL l i (syms.take z.1)).length z.2.2) (boundL l i (syms.take z.1))]) (fun z=>z.1≤syms.length) (fun z=>syms.length-z.1) (0,none,0) ?_ cv (Leads.nilrow.trans Lh) ?_)))))))))))))))))
 exact Nat.zero_le _
 rintro ⟨j,A2,c2⟩ hj
 dsimp only at hj
 have hlen:(boundL l i (syms.take j)).length≤1000:=by rw [boundL_len,List.length_take];omega
 try dsimp only
 refine Zh (Zh (Zi (Zo J (Zo J (Zv J J (Zx J J (Zn (Za (wC (fun h13=>?_) (fun h13=>?_))))))))))
 obtain ⟨s,hs⟩:∃ s,syms[j]?=some s:=⟨_,List.getElem?_eq_getElem ZO⟩
 obtain ⟨e1,cs1,hE⟩:=hC1.elm hs
 obtain rfl:=(show cs1=[Value.int .i64 s] from hE.K)
 have hbs:=boundL_succ (l:=l) (i:=(i:Int)) hs
 refine Zj (Za (Zh (Zk (Zh (Zi (Zp J (Zn (Za (Zh (Zh (Zi (Zo J (Zo J (oIdxE J J (hE) ZO J J ?_))))))))))))))
 have hc18:=(hE).cell
 refine Zlx hc18 ?_
 refine Z2 J J (Zn (Za (wC (fun h20=>?_) (fun h20=>?_))))
 obtain ⟨k,hk⟩:=Int.eq_ofNat_of_zero_le (show 0≤s by omega)
 have hbe:boundE l i s=numberF l i k:=by unfold boundE;rw [if_pos ZO,hk]
 refine Zi (Zo J (Zo J (Zo J (Zo J (oIdxE J J (hE) ZO J J ?_)))))
 have hc25:=(hE).cell
 refine Zlx hc25 ?_
 refine ZS0 (t:=26) (v':=.int .i64 (k:Int)) rfl (by rw [hk]) ?_
 (refine ZC0 rfl ZK (fun w hS=>frame hS ZQ (fun B' hB hS'=>ref24_number hS' A cp l (Kd.C_grow hB hC) hsm i k (hb s (List.mem_of_getElem? hs) k hk))) ?_;rintro ⟨⟩ -)
 refine Zp J (Zn (Za (Zi (Zo J (Zo J (oBuildSlice1 J J J J J ZP J (fun b30=>?_)))))))
 refine oApp1 (boundE l i s) rfl rfl rfl rfl ZP ZP (by rw [hbe];rfl) ZO rfl (fun g31 cp31=>?_)
 rw [show (boundL l i (syms.take j)).length+1=(boundL l i (syms.take (j+1))).length by rw [hbs,List.length_append];rfl,← hbs]
 refine Zp J (Zn (Zze ?_))
 refine Zp J (Zn (Za ?_))
 exact ⟨rfl,(j+1,some ⟨g31,0,none⟩,cp31),by show j+1≤_;omega,by show syms.length-(j+1)<syms.length-j;omega,cv,Lh⟩
 have hbe:boundE l i s = -1:=by unfold boundE;rw [if_neg ZO]
 refine Zj (Za (Zi (Zo J (Zo J (oBuildSlice1 J J J J J ZP J (fun b30=>?_))))))
 refine oApp1 (boundE l i s) rfl rfl rfl rfl ZP ZP (by rw [hbe];rfl) ZO rfl (fun g31 cp31=>?_)
 rw [show (boundL l i (syms.take j)).length+1=(boundL l i (syms.take (j+1))).length by rw [hbs,List.length_append];rfl,← hbs]
 refine Zp J (Zn (Zze ?_))
 refine Zp J (Zn (Za ?_))
 exact ⟨rfl,(j+1,some ⟨g31,0,none⟩,cp31),by show j+1≤_;omega,by show syms.length-(j+1)<syms.length-j;omega,cv,Lh⟩
 refine Zm (Zzr ?_)
 obtain rfl:j=syms.length:=by omega
 rw [List.take_length]
 exact ⟨(A2,c2),trivial,rfl,Lh⟩
theorem ref24_name {B:Base}{w:World}(hS:St B [] w) (o:ApiObject) (oc:List Value) (ho:kApiObject.K B.e o oc) (hg:GoodO o) (item:Int) (hd:0≤definerF o item) :
 CW 88 #[.agg oc.toArray,.int .i64 item] w (Ret B (fun _:Unit=>True) (fun _=>.string (nameI o item)) (fun _=>[])):=by
 obtain ⟨A0,c0,A1,c1,A2,c2,rfl,m0,q0,m1,q1,m2,q2⟩:=kApiObject_open ho
 obtain ⟨k,x,hk,hx,-⟩:=definer_at hd
 have hkl:=(List.getElem?_eq_some_iff.1 hx).1
 obtain ⟨e1,cs1,hE⟩:=q0.elm hx
 obtain rfl:=kApiSymbol_open hE.K
 have hni:nameI o item=x.fName:=by unfold nameI;rw [hk,Int.toNat_natCast,List.getD_eq_getElem?_getD,hx];rfl
 rw [hni]
 refine ZX Tryz.func88 hS ?_
 refine Zh (Zi (oBox J ZP (fun b2=>?_)))
 refine Zp J (Zn (Za (Zh (wDrawG J [0,1,2,3] [(4,[0,1],[5,6,7])] [8] 24 ZK J J (fun w0=>?_)))))
 refine Zz (n:=0) (m:=0) J J J (Zld ?_)
 refine Zla ?_
 refine Zo J (Z4 (Z5 J ?_))
 (refine ZC0 rfl ZK (fun w hS=>frame hS ZQ (fun B' hB hS'=>ref19_Definer hS' o _ (kApiObject.K_grow hB ho) hg item)) ?_;rintro ⟨⟩ -)
 rw [hk]
 refine ZG ?_ J (fun w0=>?_)
 refine Z8 J J J J (fun w0=>?_) ?_
 refine Zz (n:=0) (m:=0) J J J ?_
 exact Z9 rfl
 refine Z8 J J J J (fun w0=>?_) ?_
 refine Zld ?_
 exact Z9 rfl
 exact AgainG.nil
 refine oIdxE J J (hE) ZO J J ?_
 have hc10:=(hE).cell
 refine ZF (ZT 0) (ZT 0) ?_
 refine Zlx hc10 ?_
 refine Z6 (Zza ?_)
 exact ⟨(),trivial,rfl,Lh⟩
end Go.Proofs.YtafiabekcekdbaaGreatW
