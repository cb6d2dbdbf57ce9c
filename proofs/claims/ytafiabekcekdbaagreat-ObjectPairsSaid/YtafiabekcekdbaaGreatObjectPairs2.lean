/-
  Part 2 of the proof of ObjectPairs: contracts of functions, and what follows from them; without conditions.
-/
import Derived.Test.YtafiabekcekdbaaGreatObjectPairs1
import Derived.Test.YtafiabekcekdbaaGreatProg
set_option linter.unusedVariables false
set_option linter.unusedSimpArgs false
set_option linter.defProp false
namespace Go.Proofs.YtafiabekcekdbaaGreatV
set_option maxRecDepth 100000
set_option maxHeartbeats 4000000
open Go.RowKit Go.Proofs.YtafiabekcekdbaaGreatK Go.Proofs.YtafiabekcekdbaaGreatT Go.Proofs.YtafiabekcekdbaaGreatL

theorem any_T {n j:Nat}{p:Nat→Bool}(hj:j<n) (h:p j=true):(List.range n).any p=true:=List.any_eq_true.2 ⟨j,List.mem_range.2 hj,h⟩
theorem any_F {n:Nat}{p:Nat→Bool}(h:∀ j,j<n→p j=false):(List.range n).any p=false:=List.any_eq_false.2 (fun j hj=>by rw [h j (List.mem_range.1 hj)];simp)
def fstE:List Int→Int
  | []=>0
  | e :: l=>if e≠0 then e else fstE l
theorem fstE_app {l l':List Int}(h:fstE l=0):fstE (l++l')=fstE l':=by
 induction l with
 | nil=>rfl
 | cons e l ih=>
  unfold fstE at h
  split at h
  · next k=>exact absurd h k
  · next k=>show (if e≠0 then e else fstE (l++l'))=_;rw [if_neg k];exact ih h
theorem fstE_stop {l:List Int}{i:Nat}{e:Int}(h:fstE (l.take i)=0) (hi:l[i]?=some e) (he:e≠0):fstE l=e:=by
 obtain ⟨hl,he0⟩:=List.getElem?_eq_some_iff.1 hi
 have h1:l=l.take i++(e :: l.drop (i+1)):=by rw [← he0,← List.drop_eq_getElem_cons hl,List.take_append_drop]
 have h2:fstE (l.take i++(e :: l.drop (i+1)))=e:=by
  rw [fstE_app h]
  show (if e≠0 then e else _)=_
  rw [if_pos he]
 rw [← h1] at h2
 exact h2
theorem fstE_next {l:List Int}{i:Nat}{e:Int}(h:fstE (l.take i)=0) (hi:l[i]?=some e) (he:e=0):fstE (l.take (i+1))=0:=by
 rw [List.take_add_one,hi,fstE_app h]
 subst he;rfl
theorem fstE_zero {l:List Int} : fstE l=0↔∀ e ∈ l,e=0:=by
  induction l with
  | nil=>simp [fstE]
  | cons e l ih=>
    unfold fstE
    split
    · next k => constructor
                · intro h;exact absurd h k
                · intro h;exact absurd (h e List.mem_cons_self) k
    · next k => rw [ih]; constructor
                · intro h x hx
                  rcases List.mem_cons.1 hx with rfl | hx
                  · omega
                  · exact h x hx
                · intro h x hx;exact h x (List.mem_cons_of_mem _ hx)
def numsL (x:ApiInstr):List Int:=[x.fOp,x.fA,x.fB,x.fC,x.fN]
theorem nums_at (x:ApiInstr) {k:Nat}(h:k<5):((numsL x).map (Value.int .i64))[k]?=some (.int .i64 ((numsL x).getD k 0)):=by
 rw [List.getElem?_map,List.getD_eq_getElem?_getD,List.getElem?_eq_getElem (show k<(numsL x).length from h)];rfl
def opdF (x:ApiInstr) (i:Int):Int:=if i<0∨3<i then 0 else (numsL x).getD (1+i.toNat) 0
def badA (x:ApiInstr) (j:Nat):Bool:=decide ((numsL x).getD (1+j) 0<0∨255<(numsL x).getD (1+j) 0)
def badS (x:ApiInstr) (j:Nat):Bool:=decide (byteAt (shapeF x.fOp) j=45) && decide ((numsL x).getD (1+j) 0≠0)
def icF (x:ApiInstr):Int:=if nameF x.fOp=ByteArray.empty then 8 else if (List.range 3).any (badA x) then 9 else if x.fN < -2147483648∨2147483647<x.fN then 9 else if (List.range (shapeF x.fOp).size).any (badS x) then 2 else 0
theorem instr_numbers {B:Base}{w:World}(hS:St B [] w) (x:ApiInstr) (xc:List Value) (hx:kApiInstr.K B.e x xc) :
 CW 185 #[.agg xc.toArray] w (Ret B (fun _:Unit=>True) (fun _=>.agg ((numsL x).map (Value.int .i64)).toArray) (fun _=>[])):=by
 obtain rfl:=kApiInstr_open hx
 refine ZX Tryz.func185 hS ?_
 refine Zh (Zi (oBox J ZP (fun b1=>?_)))
 refine oAlloc J ZP (fun b2=>?_)
 refine Zn (Za (Zh (Zi (Zz (n:=0) (m:=0) J J J (Zld ?_)))))
 refine Zz (n:=1) (m:=1) J J J (Zld ?_)
 refine Zz (n:=2) (m:=2) J J J (Zld ?_)
 refine Zz (n:=3) (m:=3) J J J (Zld ?_)
 refine Zz (n:=4) (m:=4) J J J (Zld ?_)
 refine oBuildArr (Parts.cons J (Parts.cons J (Parts.cons J (Parts.cons J (Parts.cons J Parts.nil))))) J J (Built.cons (off:=0) (s:=1) J ZP J ZP (Built.cons (off:=1) (s:=1) J ZP J ZP (Built.cons (off:=2) (s:=1) J ZP J ZP (Built.cons (off:=3) (s:=1) J ZP J ZP (Built.cons (off:=4) (s:=1) J ZP J ZP Built.nil))))) ?_
 refine Zsa ?_
 refine Zn (Za (Zl (Zw (ZI ?_))))
 exact ⟨(),trivial,rfl,Lh⟩
theorem instr_Operand {B:Base}{w:World}(hS:St B [] w) (x:ApiInstr) (xc:List Value) (hx:kApiInstr.K B.e x xc) (i:Int) :
 CW 168 #[.agg xc.toArray,.int .i64 i] w (Ret B (fun _:Unit=>True) (fun _=>.int .i64 (opdF x i)) (fun _=>[])):=by
 obtain rfl:=kApiInstr_open hx
 refine ZX Tryz.func168 hS ?_
 refine Zh (Zi (oBox J ZP (fun b2=>?_)))
 refine Zp J (Zn (Za (Zh (Zh (Zi (Zo J (Zx J J (Zo J (ZS (ZT 7) (fun h7=>?_) (fun h7=>?_))))))))))
 refine Zr J J J J (Zr J J J J (Zt J J (Zn (Za (wCondT J (Zh (Zi (Zze ?_))))))))
 exact ⟨(),trivial,by unfold opdF;rw [if_pos ZO];rfl,Lh⟩
 refine Zq J J (Zo J (Zq J J (Z1 J J (Zu J J (Zn (Za (wC (fun h10=>?_) (fun h10=>?_))))))))
 refine Zh (Zi (Zze ?_))
 exact ⟨(),trivial,by unfold opdF;rw [if_pos ZO];rfl,Lh⟩
 refine Zj (Za (Zh (Zi (Zla ?_))))
 (refine ZC0 rfl ZK (fun w hS=>frame hS ZQ (fun B' hB hS'=>instr_numbers hS' x _ (kApiInstr_mk _ x))) ?_;rintro ⟨⟩ -)
 refine Zo J (oAdd J J ZO ?_)
 refine oIndexArr (i:=1+i.toNat) J J ZO J J ZO (nums_at x ZO) ?_
 refine Zp J (Zza ?_)
 exact ⟨(),trivial,by unfold opdF;rw [if_neg ZO];rfl,Lh⟩
theorem instr_Check {B:Base}{w:World}(hS:St B [] w) (x:ApiInstr) (xc:List Value) (hx:kApiInstr.K B.e x xc) :
 CW 160 #[.agg xc.toArray] w (Ret B (fun _:Unit=>True) (fun _=>.int .i64 (icF x)) (fun _=>[])):=by
 obtain rfl:=kApiInstr_open hx
 have hsz:=shapeF_size x.fOp
 refine ZX Tryz.func160 hS ?_
 refine Zh (Zi (oBox J ZP (fun b1=>?_)))
 refine Zp J (Zn (Za (Zh (Zh (Zi (Zz (n:=0) (m:=0) J J J (Zld ?_)))))))
 (refine ZC0 rfl ZK (fun w hS=>frame hS ZQ (fun B' hB hS'=>op_Name hS' x.fOp)) ?_;rintro ⟨⟩ -)
 refine oSEq J J (Zn (Za (wC (fun h11=>?_) (fun h11=>?_))))
 refine Zh (Zi (Zze ?_))
 exact ⟨(),trivial,by unfold icF;rw [if_pos (show nameF x.fOp=ByteArray.empty from h11)];rfl,Lh⟩
 refine Zj (Za (Zh (Zi (Zla ?_))))
 (refine ZC0 rfl ZK (fun w hS=>frame hS ZQ (fun B' hB hS'=>instr_numbers hS' x _ (kApiInstr_mk _ x))) ?_;rintro ⟨⟩ -)
 refine oAlloc J ZP (fun b3=>?_)
 refine Zsa ?_
 refine Zn (Za (Zh (Zh (Zi (oSliceArr (l:=1) (m:=4) J J J J (by decide) (by decide) ?_)))))
 refine ZS0 (t:=14) (v':=.slice (some ⟨b3,1,none⟩) 3 4) J J (Zv J J (Zo J (Zn (Za (Zk (wLoop (ι:=Nat) (fun i=>[(1,.pointer (some ⟨b1,0,none⟩)),(3,.pointer (some ⟨b3,0,none⟩)),(14,.slice (some ⟨b3,1,none⟩) 3 4),(15,.int .i64 ((3:Nat):Int)),(16,.int .i64 (i:Int))]) (fun i=>[blk b1 67 [.int .i64 x.fOp,.int .i64 x.fA,.int .i64 x.fB,.int .i64 x.fC,.int .i64 x.fN],blk b3 200 ((numsL x).map (Value.int .i64))]) (fun i=>i≤3∧∀ j,j<i→badA x j=false) (fun i=>3-i) 0 ?_ cv (Leads.has ZQ) ?_))))))
 exact ⟨Nat.zero_le _,fun j hj=>by omega⟩
 rintro i ⟨hi,hs⟩
 try dsimp only
 refine Zh (Zi (Zx J J (Zn (Za (Zh (wC (fun h17=>?_) (fun h17=>?_)))))))
 have hi3:i<3:=by omega
 refine Zj (Za (Zh (Zk (Zh (Zi (oIdxB (s:=1) (m:=1+i) J J J hi3 ZO ?_))))))
 refine oLd J ZP (nums_at x ZO) J ?_
 refine Zp J (Zn (Za (Zh (Zi (Zo J (Zx J J (Zo J (ZS (ZT 22) (fun h22=>?_) (fun h22=>?_)))))))))
 refine Zr J J J J (Zr J J J J (Zt J J (Zn (Za (wCondT J (Zh (Zi (Zzc ?_))))))))
 exact ⟨(),trivial,by unfold icF;rw [if_neg (show ¬ nameF x.fOp=ByteArray.empty from h11),if_pos (any_T hi3 (by unfold badA;exact decide_eq_true (.inl h22)))];rfl,Lh⟩
 refine Zq J J (Zo J (Zq J J (Z1 J J (Zu J J (Zn (Za (wC (fun h25=>?_) (fun h25=>?_))))))))
 refine Zh (Zi (Zzc ?_))
 exact ⟨(),trivial,by unfold icF;rw [if_neg (show ¬ nameF x.fOp=ByteArray.empty from h11),if_pos (any_T hi3 (by unfold badA;exact decide_eq_true (.inr h25)))];rfl,Lh⟩
 refine Zj (Zzg ?_)
 refine Zo J (Zn (Za ?_))
 exact ⟨rfl,i+1,⟨by omega,fun j hj=>by
 by_cases e:j=i
 · subst e;unfold badA;exact decide_eq_false ZO
 · exact hs j ZO⟩,by omega,cv,Lh⟩
 obtain rfl:i=3:=by omega
 have hA:=any_F hs
 refine Zm (Zb (Zb (Ze (Za (Zh (Zh (Zi (Zz (n:=4) (m:=4) J J J (Zld ?_)))))))))
 refine Zx J J (Zo J (ZS (ZT 30) (fun h30=>?_) (fun h30=>?_)))
 refine Zr J J J J (Zr J J J J (Zr J J J J (Zt J J (Zn (Za (wCondT J (Zh (Zi (Zze ?_)))))))))
 exact ⟨(),trivial,by unfold icF;rw [if_neg (show ¬ nameF x.fOp=ByteArray.empty from h11),if_neg (by rw [hA];simp),if_pos (.inl h30)];rfl,Lh⟩
 refine Zq J J (Zz (n:=4) (m:=4) J J J (Zzi ?_))
 refine Zq J J (Z1 J J (Zu J J (Zn (Za (wC (fun h34=>?_) (fun h34=>?_))))))
 refine Zh (Zi (Zze ?_))
 exact ⟨(),trivial,by unfold icF;rw [if_neg (show ¬ nameF x.fOp=ByteArray.empty from h11),if_neg (by rw [hA];simp),if_pos (.inr h34)];rfl,Lh⟩
 refine Zj (Za (Zh (Zi (Zz (n:=0) (m:=0) J J J (Zld ?_)))))
 (refine ZC0 rfl ZK (fun w hS=>frame hS ZQ (fun B' hB hS'=>op_Shape hS' x.fOp)) ?_;rintro ⟨⟩ -)
 refine Zp J (Zn (Za (Zh (Zh (Zi (Zo J (oLenStr J J (Zo J (Zn (Za (Zk (wLoop (ι:=Nat) (fun i=>[(3,.pointer (some ⟨b3,0,none⟩)),(6,.string (shapeF x.fOp)),(39,.int .i64 ((shapeF x.fOp).size:Int)),(40,.int .i64 (i:Int))]) (fun i=>[blk b3 200 ((numsL x).map (Value.int .i64))]) (fun i=>i≤(shapeF x.fOp).size∧∀ j,j<i→badS x j=false) (fun i=>(shapeF x.fOp).size-i) 0 ?_ cv (Leads.has ZQ) ?_))))))))))))
 exact ⟨Nat.zero_le _,fun j hj=>by omega⟩
 rintro i ⟨hi,hs⟩
 try dsimp only
 refine Zh (Zi (Zx J J (Zn (Za (Zh (wC (fun h41=>?_) (fun h41=>?_)))))))
 have hi4:i<(shapeF x.fOp).size:=by omega
 have hi5:i<4:=by rw [hsz] at hi4;split at hi4 <;> omega
 refine Zj (Za (Zh (Zk (Zh (Zi (Zo J (Zp J (Zn (Za (Zh (Zi (Zo J (Zo J (oIndexStr J J J hi4 (Zy J J (Zo J (ZS (ZT 47) (fun h47=>?_) (fun h47=>?_))))))))))))))))))
 refine Zq J J (Zo J (Zq J J (oAdd J J ZO ?_)))
 refine Zq J J (oIdxA (s:=1) (i:=1+i) (m:=1+i) J J ZO J ZO ZO ?_)
 refine Zq J J (oLd J ZP (nums_at x ZO) J ?_)
 refine Zq J J (Z0 J J (Zt J J (Zn (Za (wC (fun h53=>?_) (fun h53=>?_))))))
 refine Zh (Zi (Zzc ?_))
 exact ⟨(),trivial,by unfold icF;rw [if_neg (show ¬ nameF x.fOp=ByteArray.empty from h11),if_neg (by rw [hA];simp),if_neg ZO,if_pos (any_T hi4 (by unfold badS;simp_all))];rfl,Lh⟩
 refine Zj (Zzg ?_)
 refine Zo J (Zn (Za ?_))
 exact ⟨rfl,i+1,⟨by omega,fun j hj=>by
 by_cases e:j=i
 · subst e;unfold badS;simp_all
 · exact hs j ZO⟩,by omega,cv,Lh⟩
 refine Zr J J J J (Zr J J J J (Zr J J J J (Zr J J J J (Zr J J J J (Zu J J (Zn (Za (wCondF J (Zj (Zzg ?_))))))))))
 refine Zo J (Zn (Za ?_))
 exact ⟨rfl,i+1,⟨by omega,fun j hj=>by
 by_cases e:j=i
 · subst e;unfold badS;simp_all
 · exact hs j ZO⟩,by omega,cv,Lh⟩
 refine Zm (Zzf ?_)
 obtain rfl:i=(shapeF x.fOp).size:=by omega
 exact ⟨(),trivial,by unfold icF;rw [if_neg (show ¬ nameF x.fOp=ByteArray.empty from h11),if_neg (by rw [hA];simp),if_neg ZO,if_neg (by rw [any_F hs];simp)];rfl,Lh⟩
def risF (n last:Int):List Int→Bool
  | []=>true
  | a :: l=>if a≤last∨n≤a then false else risF n a l
theorem fun_rising {B:Base}{w:World}(hS:St B [] w) (n:Int) (A:Option Addr) (cp:Nat) (l:List Int) (hC:(Kd.int .i64).C B.e A l) :
 CW 162 #[.int .i64 n,.slice A l.length cp] w (Ret B (fun _:Unit=>True) (fun _=>.bool (risF n (-1) l)) (fun _=>[])):=by
 have hl:=hC.1
 refine ZX Tryz.func162 hS ?_
 refine Zh (Zi (Zp J (Zn (Za (Zh (Zi (Zp J (Zn (Za (Zh (Zh (Zi (Zo J (Zv J J (Zo J (Zn (Za (Zk (wLoop (ι:=Nat×Int) (fun z=>[(0,.int .i64 n),(5,.int .i64 z.2),(8,.slice A l.length cp),(9,.int .i64 (l.length:Int)),(10,.int .i64 (z.1:Int))]) (fun z=>[]) (fun z=>z.1≤l.length∧risF n (-1) l=risF n z.2 (l.drop z.1)) (fun z=>l.length-z.1) (0,-1) ?_ cv (Leads.has ZQ) ?_)))))))))))))))))))
 exact ⟨Nat.zero_le _,rfl⟩
 rintro ⟨i,last⟩ ⟨hi,hr⟩
 dsimp only at hi hr
 try dsimp only
 refine Zh (Zi (Zx J J (Zn (Za (Zh (wC (fun h11=>?_) (fun h11=>?_)))))))
 refine Zj (Za (Zh (Zk (Zh (Zi (oIdx J J (hC) J ZO J J (fun e12 u12 cs12 hu12 hk12 hc12=>?_)))))))
 obtain rfl:=hk12
 refine Zlx hc12 ?_
 have hd:l.drop i=u12 :: l.drop (i+1):=by obtain ⟨hl2,rfl⟩:=List.getElem?_eq_some_iff.1 hu12;exact List.drop_eq_getElem_cons hl2
 refine Zp J (Zn (Za (Zh (Zh (Zi (Zo J (Zo J (oLeq J J (Zo J (ZS (ZT 17) (fun h17=>?_) (fun h17=>?_)))))))))))
 refine Zr J J J J (Zr J J J J (Zr J J J J (Zt J J (Zn (Za (wCondT J (Zh (Zi (Zzk ?_)))))))))
 exact ⟨(),trivial,by rw [hr,hd];show _=Value.bool (if u12≤last∨n≤u12 then _ else _);rw [if_pos ZO];rfl,Lh⟩
 refine Zq J J (Zo J (Zq J J (Zo J (Zq J J (Z2 J J (Zu J J (Zn (Za (wC (fun h21=>?_) (fun h21=>?_))))))))))
 refine Zh (Zi (Zzk ?_))
 exact ⟨(),trivial,by rw [hr,hd];show _=Value.bool (if u12≤last∨n≤u12 then _ else _);rw [if_pos ZO];rfl,Lh⟩
 refine Zj (Za (Zi (Zo J (Zp J (Zn (Zzg ?_))))))
 refine Zo J (Zn (Za ?_))
 exact ⟨rfl,(i+1,u12),⟨by show i+1≤_;omega,by rw [hr,hd];show (if u12≤last∨n≤u12 then _ else _)=_;rw [if_neg ZO]⟩,by show l.length-(i+1)<l.length-i;omega,cv,Lh⟩
 refine Zm (Zzf ?_)
 obtain rfl:i=l.length:=by omega
 exact ⟨(),trivial,by rw [hr,List.drop_length];rfl,Lh⟩
abbrev kII:Kd (List Int):=Kd.slice (Kd.int .i64)
def idxI {α:Type}(p:α→Bool) (l:List α):Int:=if l.any p then (l.findIdx p:Int) else -1
theorem idxI_stop {α:Type}{p:α→Bool}{l:List α}{i:Nat}{x:α}(h:∀ y ∈ l.take i,p y=false) (hi:l[i]?=some x) (hp:p x=true):idxI p l=(i:Int):=by
 obtain ⟨hl,rfl⟩:=List.getElem?_eq_some_iff.1 hi
 unfold idxI
 rw [if_pos (List.any_eq_true.2 ⟨_,List.getElem_mem hl,hp⟩)]
 rw [(List.findIdx_eq hl).2 ⟨hp,fun j hj=>h _ (List.mem_take_iff_getElem.2 ⟨j,by omega,rfl⟩)⟩]
theorem idxI_none {α:Type}{p:α→Bool}{l:List α}(h:∀ y ∈ l,p y=false):idxI p l = -1:=by
 unfold idxI
 rw [if_neg]
 intro k
 obtain ⟨x,hx,hp⟩:=List.any_eq_true.1 k
 rw [h x hx] at hp;cases hp
theorem take_not {α:Type}{p:α→Bool}{l:List α}{i:Nat}{x:α}(h:∀ y ∈ l.take i,p y=false) (hi:l[i]?=some x) (hp:p x=false):∀ y ∈ l.take (i+1),p y=false:=by
 intro y hy
 rw [List.take_add_one,hi] at hy
 rcases List.mem_append.1 hy with k | k
 · exact h y k
 · obtain rfl:y=x:=by simpa using k
   exact hp
theorem idxI_iff {α:Type}{p:α→Bool}{l:List α} : 0≤idxI p l↔l.any p=true:=by
 unfold idxI
 split
 · next h=>simp [h] <;> omega
 · next h=>simp [h] <;> omega
theorem idxI_at {α:Type}{p:α→Bool}{l:List α}(h:0≤idxI p l):∃ (k:Nat) (x:α),idxI p l=(k:Int)∧l[k]?=some x∧p x=true:=by
 have ha:=idxI_iff.1 h
 unfold idxI
 rw [if_pos ha]
 have hl:l.findIdx p<l.length:=List.findIdx_lt_length_of_exists (by simpa using ha)
 exact ⟨_,_,rfl,List.getElem?_eq_getElem hl,List.findIdx_getElem⟩
theorem indexFunc_int {B:Base}{w:World}{R:Res}(hS:St B [R] w) (l:List Int) (A:Option Addr) (cp:Nat) (hC:(Kd.int .i64).C B.e A l) (gf:Nat) (lb:Array Value) (p:Int→Bool) (hg:goodF Tryz.prog gf=true)
 (hh:∀ B' w (x:Int),Grow B.e B'.e→x ∈ l→St B' [R] w→CW gf (#[]++[Value.int .i64 x].toArray++lb) w (Ret B' (fun _:Unit=>True) (fun _=>.bool (p x)) (fun _=>[R]))) :
 CW 123 #[.slice A l.length cp,.func (.func gf) #[] lb] w (Ret B (fun _:Unit=>True) (fun _=>.int .i64 (idxI p l)) (fun _=>[R])):=by
 have hl:=hC.1
 refine ZX Tryz.func123 hS ?_
 refine Zh (Zi (Zp J (Zn (Za (Zh (Zh (Zi (Zo J (Zv J J (Zo J (Zn (Za (Zk (wLoop (ι:=Nat) (fun i=>[(0,.slice A l.length cp),(1,.func (.func gf) #[] lb),(7,.int .i64 (l.length:Int)),(8,.int .i64 (i:Int))]) (fun i=>[R]) (fun i=>i≤l.length∧∀ y ∈ l.take i,p y=false) (fun i=>l.length-i) 0 ?_ cv (Leads.has ZQ) ?_))))))))))))))
 exact ⟨Nat.zero_le _,by simp⟩
 rintro i ⟨hi,hs⟩
 try dsimp only
 refine Zh (Zi (Zx J J (Zn (Za (Zh (wC (fun h9=>?_) (fun h9=>?_)))))))
 refine Zj (Za (Zh (Zk (Zh (Zi (Zo J (Zp J (Zn (Za (Zh (Zi (Zo J (Zo J (Zo J (oIdx J J (hC) J ZO J J (fun e14 u14 cs14 hu14 hk14 hc14=>?_))))))))))))))))
 obtain rfl:=hk14
 refine Zlx hc14 ?_
 (refine oCallV rfl rfl rfl hg (fun w hS=>frame hS ZQ (fun B' hB hS'=>hh B' w u14 hB (List.mem_of_getElem? hu14) hS')) ?_;rintro ⟨⟩ -)
 refine Zn (Za (wC (fun h16=>?_) (fun h16=>?_)))
 refine Zh (Zi (Zo J (Zzc ?_)))
 exact ⟨(),trivial,by rw [idxI_stop hs hu14 (by simpa using h16)];rfl,Lh⟩
 refine Zj (Zzg ?_)
 refine Zo J (Zn (Za ?_))
 exact ⟨rfl,i+1,⟨by omega,take_not hs hu14 (by simpa using h16)⟩,by omega,cv,Lh⟩
 refine Zm (Zzf ?_)
 obtain rfl:i=l.length:=by omega
 rw [List.take_length] at hs
 exact ⟨(),trivial,by rw [idxI_none hs];rfl,Lh⟩
theorem containsFunc_int {B:Base}{w:World}{R:Res}(hS:St B [R] w) (l:List Int) (A:Option Addr) (cp:Nat) (hC:(Kd.int .i64).C B.e A l) (gf:Nat) (lb:Array Value) (p:Int→Bool) (hg:goodF Tryz.prog gf=true)
 (hh:∀ B' w (x:Int),Grow B.e B'.e→x ∈ l→St B' [R] w→CW gf (#[]++[Value.int .i64 x].toArray++lb) w (Ret B' (fun _:Unit=>True) (fun _=>.bool (p x)) (fun _=>[R]))) :
 CW 92 #[.slice A l.length cp,.func (.func gf) #[] lb] w (Ret B (fun _:Unit=>True) (fun _=>.bool (l.any p)) (fun _=>[R])):=by
 refine ZX Tryz.func92 hS ?_
 refine Zh (Zi (Zp J (Zn (Za (Zh (Zi (Zo J (Zo J ?_))))))))
 (refine ZC0 rfl ZK (fun w hS=>frame hS ZQ (fun B' hB hS'=>indexFunc_int hS' l A cp (Kd.C_grow hB hC) gf lb p hg (fun B2 w2 x hB2 hx hS2=>hh B2 w2 x (hB.trans hB2) hx hS2))) ?_;rintro ⟨⟩ -)
 refine Z2 J J (Zzh ?_)
 exact ⟨(),trivial,by show Value.bool (decide (0≤idxI p l))=_;congr 1;rw [Bool.eq_iff_iff,decide_eq_true_eq];exact idxI_iff,Lh⟩
def nextR (x:ApiInstr) (i:Int):List Int:=if x.fOp=12 then [i+1,x.fN] else if x.fOp=11 then [x.fN] else if endsF x.fOp then [] else [i+1]
def nextL (x:ApiInstr) (i:Int):List Int:=Lib.compact ((nextR x i).mergeSort leI)
def nextF (code:List ApiInstr) (i:Int):List Int:=if i<0∨(code.length:Int)≤i then [] else nextL (code.getD i.toNat default) i
theorem nextR_len (x:ApiInstr) (i:Int):(nextR x i).length≤2:=by
 unfold nextR
 split <;> (try split) <;> (try split) <;> simp
theorem flow_Next {B:Base}{w:World}(hS:St B [] w) (A:Option Addr) (cp:Nat) (code:List ApiInstr) (hC:kApiInstr.C B.e A code) (i:Int) (W0:World) :
 CW 169 #[.slice A code.length cp,.int .i64 i] w (Ret B (fun _:Option Addr×Nat=>True) (fun z=>.slice z.1 (nextF code i).length z.2) (fun z=>[row (Kd.int .i64) W0 3 (.slice z.1 (nextF code i).length z.2) (nextF code i)])):=by
 have hl:=hC.1
 refine ZX Tryz.func169 hS ?_
 refine Zh (Zi (Zp J (Zn (Za (Zh (Zh (Zi (Zo J (Zx J J (Zo J (ZS (ZT 9) (fun h9=>?_) (fun h9=>?_))))))))))))
 refine Zr J J J J (Zr J J J J (Zr J J J J (Zr J J J J (Zt J J (Zn (Za (wCondT J (Zh (Zi (Zze ?_))))))))))
 rw [show nextF code i=[] from if_pos (.inl h9)]
 exact ⟨(none,0),trivial,rfl,Leads.nilrow.trans Lh⟩
 refine Zq J J (Zo J (Zq J J (Zo J (Zq J J (Zv J J (Zq J J (Z2 J J (Zu J J (Zn (Za (wC (fun h14=>?_) (fun h14=>?_))))))))))))
 refine Zh (Zi (Zze ?_))
 rw [show nextF code i=[] from if_pos (.inr h14)]
 exact ⟨(none,0),trivial,rfl,Leads.nilrow.trans Lh⟩
 obtain ⟨k,rfl⟩:=Int.eq_ofNat_of_zero_le (show 0≤i by omega)
 obtain ⟨x,hx⟩:∃ x,code[k]?=some x:=⟨_,List.getElem?_eq_getElem ZO⟩
 have hkl:k<code.length:=by omega
 have hnx:nextF code (k:Int)=nextL x (k:Int):=by unfold nextF;rw [if_neg ZO,Int.toNat_natCast,List.getD_eq_getElem?_getD,hx];rfl
 obtain ⟨e1,cs1,hE⟩:=hC.elm hx
 obtain rfl:=kApiInstr_open hE.K
 refine Zj (Za (Zh (Zi (Zp J (Zn (Za (Zh (Zh (Zi (Zo J (Zo J (oIdxE J J (hE) ZO J J ?_))))))))))))
 have hc17:=(hE).cell
 refine Zlx hc17 ?_
 refine oAlloc J ZP (fun b6=>?_)
 refine Zsa ?_
 refine Zn (Za (Zk (Zh (Zk (Zh (Zk (Zh (Zk (Zh (Zh (Zh (Zi (Zz (n:=0) (m:=0) J J J (Zld ?_))))))))))))))
 refine Zy J J (Zp J (Zn (Za (wC (fun h19=>?_) (fun h19=>?_)))))
 refine Zm (Zb (Zb (Ze (Za (Zi (Zo J (Zo J (oAdd J J ZO ?_))))))))
 refine oBuildSlice1 J J J J J ZP J (fun b35=>?_)
 refine oConv (Leads.nilrow (kd:=Kd.int .i64) (W:=W0) (e:=3)) (oApp1 ((k:Int)+1) J J J J ZP ZP J (by simp) J (fun g36 cp36=>?_))
 refine Zp J (Zn (Zd (Za (Zh (Zi (Zo J (Zz (n:=4) (m:=4) J J J (Zld ?_))))))))
 refine oBuildSlice1 J J J J J ZP J (fun b40=>?_)
 refine oApp1 x.fN J J J J ZP ZP J (by simp) J (fun g41 cp41=>?_)
 refine Zp J (Zn (Za (Zm (Zg J (Zb (Ze (Zzl ?_)))))))
 (refine ZC0 rfl ZK (fun w hS=>frame hS ZQ (fun B' hB hS'=>sort_int laysn189_at hS' (by simp))) ?_;rintro ⟨⟩ -)
 refine Zn (Zzl ?_)
 (refine ZC0 rfl ZK (fun w hS=>frame hS ZQ (fun B' hB hS'=>compact_int lays2n20_at hS' (by rw [List.length_mergeSort];simp))) ?_;rintro ⟨⟩ -)
 refine Zp J (Zza ?_)
 have hnr:nextF code (k:Int)=Lib.compact ((([]++[(k:Int)+1])++[x.fN]).mergeSort leI):=by rw [hnx];unfold nextL nextR;rw [if_pos h19];rfl
 rw [hnr]
 exact ⟨(_,_),trivial,rfl,Lh⟩
 refine Zj (Za (Zh (Zh (Zi (Zz (n:=0) (m:=0) J J J (Zld ?_))))))
 refine Zy J J (Zp J (Zn (Za (wC (fun h23=>?_) (fun h23=>?_)))))
 refine Zm (Zb (Zb (Zg J (Zb (Ze (Za (Zh (Zi (Zo J (Zz (n:=4) (m:=4) J J J (Zld ?_)))))))))))
 refine oBuildSlice1 J J J J J ZP J (fun b40=>?_)
 refine oConv (Leads.nilrow (kd:=Kd.int .i64) (W:=W0) (e:=3)) (oApp1 x.fN J J J J ZP ZP J (by simp) J (fun g41 cp41=>?_))
 refine Zp J (Zn (Za (Zm (Zg J (Zb (Ze (Zzl ?_)))))))
 (refine ZC0 rfl ZK (fun w hS=>frame hS ZQ (fun B' hB hS'=>sort_int laysn189_at hS' (by simp))) ?_;rintro ⟨⟩ -)
 refine Zn (Zzl ?_)
 (refine ZC0 rfl ZK (fun w hS=>frame hS ZQ (fun B' hB hS'=>compact_int lays2n20_at hS' (by rw [List.length_mergeSort];simp))) ?_;rintro ⟨⟩ -)
 refine Zp J (Zza ?_)
 have hnr:nextF code (k:Int)=Lib.compact (([]++[x.fN]).mergeSort leI):=by rw [hnx];unfold nextL nextR;rw [if_neg h19,if_pos h23];rfl
 rw [hnr]
 exact ⟨(_,_),trivial,rfl,Lh⟩
 refine Zj (Za (Zh (Zi (Zz (n:=0) (m:=0) J J J (Zld ?_)))))
 (refine ZC0 rfl ZK (fun w hS=>frame hS ZQ (fun B' hB hS'=>op_Ends hS' x.fOp)) ?_;rintro ⟨⟩ -)
 refine Zno ?_
 refine Zp J (Zn (Za (wC (fun h27=>?_) (fun h27=>?_))))
 refine Zm (Zb (Zg J (Zb (Zg J (Zb (Ze (Za (Zh (Zi (Zo J (Zo J (oAdd J J ZO ?_))))))))))))
 refine oBuildSlice1 J J J J J ZP J (fun b45=>?_)
 refine oConv (Leads.nilrow (kd:=Kd.int .i64) (W:=W0) (e:=3)) (oApp1 ((k:Int)+1) J J J J ZP ZP J (by simp) J (fun g46 cp46=>?_))
 refine Zp J (Zn (Za (Zm (Ze (Zzl ?_)))))
 (refine ZC0 rfl ZK (fun w hS=>frame hS ZQ (fun B' hB hS'=>sort_int laysn189_at hS' (by simp))) ?_;rintro ⟨⟩ -)
 refine Zn (Zzl ?_)
 (refine ZC0 rfl ZK (fun w hS=>frame hS ZQ (fun B' hB hS'=>compact_int lays2n20_at hS' (by rw [List.length_mergeSort];simp))) ?_;rintro ⟨⟩ -)
 refine Zp J (Zza ?_)
 have hnr:nextF code (k:Int)=Lib.compact (([]++[(k:Int)+1]).mergeSort leI):=by rw [hnx];unfold nextL nextR;rw [if_neg h19,if_neg h23,if_neg (by have:=h27;simp [endsF] at this ⊢;omega)];rfl
 rw [hnr]
 exact ⟨(_,_),trivial,rfl,Lh⟩
 refine Zj (Za (Zm (Zg J (Zb (Zg J (Zb (Zg J (Zb (Ze (Za (Zh (Zi (Zo J (oConv (Leads.nilrow (kd:=Kd.int .i64) (W:=W0) (e:=3)) ?_))))))))))))))
 (refine ZC0 rfl ZK (fun w hS=>frame hS ZQ (fun B' hB hS'=>sort_int laysn189_at hS' (by simp))) ?_;rintro ⟨⟩ -)
 refine Zn (Zzl ?_)
 (refine ZC0 rfl ZK (fun w hS=>frame hS ZQ (fun B' hB hS'=>compact_int lays2n20_at hS' (by rw [List.length_mergeSort];simp))) ?_;rintro ⟨⟩ -)
 refine Zp J (Zza ?_)
 have hnr:nextF code (k:Int)=Lib.compact (([]:List Int).mergeSort leI):=by rw [hnx];unfold nextL nextR;rw [if_neg h19,if_neg h23,if_pos (by have:=h27;simp [endsF] at this ⊢;omega)]
 rw [hnr]
 exact ⟨(_,_),trivial,rfl,Lh⟩
def graphF (code:List ApiInstr):List (List Int):=(List.range code.length).map fun i:Nat=>nextF code (i:Int)
theorem graphF_len (code:List ApiInstr):(graphF code).length=code.length:=by simp [graphF]
theorem graphF_at {code:List ApiInstr}{i:Nat}(h:i<code.length):(graphF code)[i]?=some (nextF code (i:Int)):=by simp [graphF,h]
theorem take_at' {α:Type}{l:List α}{a:Nat}{u:α}(hu:l[a]?=some u):l.take a++[u]=l.take (a+1):=by
 rw [List.take_add_one,hu];rfl
theorem flow_graph {B:Base}{w:World}(hS:St B [] w) (A:Option Addr) (cp:Nat) (code:List ApiInstr) (hC:kApiInstr.C B.e A code) (hl:code.length≤1000) (W0:World) :
 CW 171 #[.slice A code.length cp] w
  (Ret B (fun z:Option Addr×Nat×List Hdr=>z.2.2.length=code.length) (fun z=>.slice z.1 code.length z.2.1) (fun z=>[row kHdr W0 35 (.slice z.1 code.length z.2.1) z.2.2,bun (rws (Kd.int .i64) W0 3 z.2.2 (graphF code))])):=by
 have hgl:=graphF_len code
 refine ZX Tryz.func171 hS ?_
 refine Zh (Zi (Zp J (Zn (Za (Zh (Zi (Zp J (Zn (Za (Zh (Zh (Zi (Zo J (Zv J J (Zo J (Zn (Za (Zk (wLoop (ι:=Nat×List Hdr×Option Addr×Nat) (fun z=>[(0,.slice A code.length cp),(3,.slice z.2.2.1 z.1 z.2.2.2),(6,.int .i64 (code.length:Int)),(7,.int .i64 (z.1:Int))]) (fun z=>[row kHdr W0 35 (.slice z.2.2.1 z.1 z.2.2.2) z.2.1,bun (rws (Kd.int .i64) W0 3 z.2.1 ((graphF code).take z.1))]) (fun z=>z.1≤code.length∧z.2.1.length=z.1) (fun z=>code.length-z.1) (0,[],none,0) ?_ cv (Leads.nilrow.trans (bun_nil.trans Lh)) ?_)))))))))))))))))))
 exact ⟨Nat.zero_le _,rfl⟩
 rintro ⟨a,hs,A5,c5⟩ ⟨ha,hhl⟩
 dsimp only at ha hhl
 have hxl:((graphF code).take a).length=a:=by rw [List.length_take];omega
 try dsimp only
 refine Zh (Zi (Zx J J (Zn (Za (Zh (wC (fun h8=>?_) (fun h8=>?_)))))))
 refine Zj (Za (Zh (Zk (Zh (Zi (Zo J (Zp J (Zn (Za (Zi (Zo J (Zo J (Zo J ?_)))))))))))))
 (refine ZC0 rfl ZK (fun w hS=>frame hS ZQ (fun B' hB hS'=>flow_Next hS' A cp code (Kd.C_grow hB hC) (a:Int) W0)) ?_;rintro ⟨A13,c13⟩ -)
 refine oBuildSlice1 J J J J J ZP J (fun b14=>?_)
 refine oApp1 (kd:=kHdr) ((A13,(nextF code (a:Int)).length,c13):Hdr) J J J J ZP ZP J ZO J (fun g15 cp15=>?_)
 refine oSnoc (kd:=Kd.int .i64) (W:=W0) (ei:=3) (u:=(A13,(nextF code (a:Int)).length,c13)) (l:=nextF code (a:Int)) (hs:=hs) (xss:=(graphF code).take a) ZP ZP ZO ?_
 rw [take_at' (graphF_at ZO),hhl]
 refine Zp J (Zn (Zzg ?_))
 refine Zo J (Zn (Za ?_))
 exact ⟨rfl,(a+1,hs++[(A13,(nextF code (a:Int)).length,c13)],some ⟨g15,0,none⟩,cp15),⟨by show a+1≤_;omega,by show (hs++_).length=a+1;rw [List.length_append,hhl];rfl⟩,by show code.length-(a+1)<code.length-a;omega,cv,Lh⟩
 obtain rfl:a=code.length:=by omega
 rw [show (graphF code).take code.length=graphF code by rw [← hgl,List.take_length]]
 refine Zm (Zb (Zb (Ze (Za (Zh (Zi (Zo J (Zzh ?_))))))))
 exact ⟨(A5,c5,hs),hhl,rfl,Lh⟩
def outF (n:Nat) (to:Int):Bool:=decide (to<0∨(n:Int)≤to)
def flowF (code:List ApiInstr):Int:=if code.length=0 then 3 else if 64<code.length then 6 else if (graphF code).any (fun l=>l.any (outF code.length)) then 10 else 0
theorem flow_Check1 {B:Base}{w:World}(A:Option Addr) (n cp b1:Nat) (hS:St B [blk b1 54 [.slice A n cp]] w) (to:Int) :
 CW 183 #[.int .i64 to,.pointer (some ⟨b1,0,none⟩)] w (Ret B (fun _:Unit=>True) (fun _=>.bool (outF n to)) (fun _=>[blk b1 54 [.slice A n cp]])):=by
 refine ZX Tryz.func183 hS ?_
 refine Zh (Zi (Zp J (Zn (Za (Zh (Zi (Zo J (Zx J J (Zo J (ZS (ZT 6) (fun h6=>?_) (fun h6=>?_)))))))))))
 refine Zr J J J J (Zr J J J J (Zr J J J J (Zr J J J J (Zt J J (Zzh ?_)))))
 exact ⟨(),trivial,by simp_all [resVal,outF] <;> omega,Lh⟩
 refine Zq J J (Zo J (Zzi ?_))
 refine Zq J J (Zv J J (Zq J J (Z2 J J (Zu J J (Zzh ?_)))))
 exact ⟨(),trivial,by simp_all [resVal,outF] <;> omega,Lh⟩
theorem flow_Check {B:Base}{w:World}(hS:St B [] w) (A:Option Addr) (cp:Nat) (code:List ApiInstr) (hC:kApiInstr.C B.e A code) :
 CW 159 #[.slice A code.length cp] w (Ret B (fun _:Unit=>True) (fun _=>.int .i64 (flowF code)) (fun _=>[])):=by
 have hgl:=graphF_len code
 refine ZX Tryz.func159 hS ?_
 refine Zh (Zi (oBox J ZP (fun b1=>?_)))
 refine Zp J (Zn (Za (Zh (Zk (Zh (Zi (Zld ?_)))))))
 refine Zv J J (Zy J J (Zp J (Zn (Za (wC (fun h5=>?_) (fun h5=>?_))))))
 refine Zh (Zi (Zzd ?_))
 exact ⟨(),trivial,by unfold flowF;rw [if_pos ZO];rfl,Lh⟩
 refine Zh (Zi (Zld ?_))
 refine Zv J J (Z1 J J (Zp J (Zn (Za (wC (fun h9=>?_) (fun h9=>?_))))))
 refine Zh (Zi (Zzd ?_))
 exact ⟨(),trivial,by unfold flowF;rw [if_neg ZO,if_pos ZO];rfl,Lh⟩
 have hc0:¬ code.length=0:=by omega
 have hc1:¬ 64<code.length:=by omega
 refine Zj (Zd (Za (Zh (Zh (Zi (Zld ?_))))))
 (refine ZC0 rfl ZK (fun w hS=>frame hS ZQ (fun B' hB hS'=>flow_graph hS' A cp code (Kd.C_grow hB hC) ZO B.e)) ?_;rintro ⟨A14,c14,hs14⟩ hl14)
 dsimp only at hl14 ⊢
 refine ZS0 (t:=14) (v':=.slice A14 (graphF code).length c14) rfl (by rw [hgl]) ?_
 refine Zv J J (Zo J (Zn (Za (wFreeze [row kHdr B.e 35 (.slice A14 code.length c14) hs14,bun (rws (Kd.int .i64) B.e 3 hs14 (graphF code))] ZQ (fun B1 hB1 hq1=>?_)))))
 have hCg:=grid_C (hq1 _ _ ZP) (hq1 _ _ ZP) (by rw [hgl];exact hl14) hB1
 refine Zk (wLoop (ι:=Nat) (fun i=>[(1,.pointer (some ⟨b1,0,none⟩)),(14,.slice A14 (graphF code).length c14),(15,.int .i64 ((graphF code).length:Int)),(16,.int .i64 (i:Int))]) (fun i=>[blk b1 54 [.slice A code.length cp]]) (fun i=>i≤code.length∧∀ y ∈ (graphF code).take i,y.any (outF code.length)=false) (fun i=>code.length-i) 0 ?_ cv (Leads.has ZQ) ?_)
 exact ⟨Nat.zero_le _,by simp⟩
 rintro i ⟨hi,hs⟩
 try dsimp only
 refine Zh (Zi (Zx J J (Zn (Za (Zh (wC (fun h17=>?_) (fun h17=>?_)))))))
 refine Zj (Za (Zh (Zk (Zh (Zi (oIdx J J (hCg) J ZO J J (fun e18 u18 cs18 hu18 hk18 hc18=>?_)))))))
 obtain ⟨A0,c0,rfl,hle18,g0⟩:=hk18
 refine Zlx hc18 ?_
 refine Zp J (Zn (Za (Zh (Zi (Zo J (oMakeFunc J ?_))))))
 (refine ZC0 rfl ZK (fun w hS=>frame hS ZQ (fun B' hB hS'=>containsFunc_int hS' u18 A0 c0 (Kd.C_grow hB g0) _ _ (outF code.length) ZK (fun B2 w2 x hB2 hx hS2=>flow_Check1 A code.length cp b1 hS2 x))) ?_;rintro ⟨⟩ -)
 refine Zn (Za (wC (fun h22=>?_) (fun h22=>?_)))
 refine Zh (Zi (Zzc ?_))
 exact ⟨(),trivial,by unfold flowF;rw [if_neg hc0,if_neg hc1,if_pos (List.any_eq_true.2 ⟨u18,List.mem_of_getElem? hu18,by simpa using h22⟩)];rfl,Lh⟩
 refine Zj (Zzg ?_)
 refine Zo J (Zn (Za ?_))
 exact ⟨rfl,i+1,⟨by omega,take_not (p:=fun l:List Int=>l.any (outF code.length)) hs hu18 (by simpa using h22)⟩,by omega,cv,Lh⟩
 refine Zm (Zzf ?_)
 obtain rfl:i=code.length:=by omega
 rw [← hgl,List.take_length] at hs
 exact ⟨(),trivial,by unfold flowF;rw [if_neg hc0,if_neg hc1,if_neg (by intro k;obtain ⟨y,hy,hp⟩:=List.any_eq_true.1 k;have:=hs y hy;rw [hgl,hp] at this;cases this)];rfl,Lh⟩
def kindBad (par:Int) (i:Nat) (k:Int):Bool:=decide (textF k=ByteArray.empty) || (decide ((i:Int)<par) && decide (k≠0))
def slotsF (f:ApiFunc):Int:=if isC f.fClass then (if 16<f.fKinds.length then 6 else if (f.fKinds.length:Int)<parF f.fClass then 2 else if (List.range f.fKinds.length).any (fun i=>kindBad (parF f.fClass) i (f.fKinds.getD i 0)) then 8 else 0) else 14
theorem getDat {α:Type}{l:List α}{i:Nat}{o d:α}(h:l[i]?=some o):l.getD i d=o:=by rw [List.getD_eq_getElem?_getD,h];rfl
theorem fun_slots {B:Base}{w:World}(hS:St B [] w) (f:ApiFunc) (fc:List Value) (hf:kApiFunc.K B.e f fc) :
 CW 135 #[.agg fc.toArray] w (Ret B (fun _:Unit=>True) (fun _=>.int .i64 (slotsF f)) (fun _=>[])):=by
 obtain ⟨A0,c0,A1,c1,A2,c2,A3,c3,rfl,l0,g0,l1,g1,l2,g2,l3,g3⟩:=kApiFunc_open hf
 have hp:=parF_in f.fClass
 refine ZX Tryz.func135 hS ?_
 refine Zh (Zi (oBox J ZP (fun b1=>?_)))
 refine Zp J (Zn (Za (Zh (Zi (Zz (n:=0) (m:=0) J J J (Zld ?_))))))
 (refine ZC0 rfl ZK (fun w hS=>frame hS ZQ (fun B' hB hS'=>sig_Params hS' f.fClass)) ?_;rintro ⟨⟩ -)
 refine Zp J (Zn (Za (Zh (Zk (Zh (Zi (Zz (n:=0) (m:=0) J J J (Zld ?_))))))))
 (refine ZC0 rfl ZK (fun w hS=>frame hS ZQ (fun B' hB hS'=>sig_Is hS' f.fClass)) ?_;rintro ⟨⟩ -)
 refine Zno ?_
 refine Zp J (Zn (Za (wC (fun h9=>?_) (fun h9=>?_))))
 refine Zh (Zi (Zzd ?_))
 exact ⟨(),trivial,by unfold slotsF;rw [if_neg (by simpa using h9)];rfl,Lh⟩
 have hc:isC f.fClass=true:=by simpa using h9
 refine Zh (Zi (Zz (n:=1) (m:=1) J J J (Zld ?_)))
 refine Zv J J (Z1 J J (Zp J (Zn (Za (wC (fun h14=>?_) (fun h14=>?_))))))
 refine Zh (Zi (Zzd ?_))
 exact ⟨(),trivial,by unfold slotsF;rw [if_pos hc,if_pos ZO];rfl,Lh⟩
 refine Zh (Zi (Zz (n:=1) (m:=1) J J J (Zld ?_)))
 refine Zv J J (Zo J (Zx J J (Zp J (Zn (Za (wC (fun h19=>?_) (fun h19=>?_)))))))
 refine Zh (Zi (Zzd ?_))
 exact ⟨(),trivial,by unfold slotsF;rw [if_pos hc,if_neg ZO,if_pos ZO];rfl,Lh⟩
 have hk1:¬ 16<f.fKinds.length:=by omega
 have hk2:¬ (f.fKinds.length:Int)<parF f.fClass:=by omega
 refine Zj (Zd (Za (Zh (Zh (Zi (Zz (n:=1) (m:=1) J J J (Zld ?_)))))))
 refine Zv J J (Zo J (Zn (Za (Zk (wLoop (ι:=Nat) (fun i=>[(3,.int .i64 (parF f.fClass)),(26,.slice A0 f.fKinds.length c0),(27,.int .i64 (f.fKinds.length:Int)),(28,.int .i64 (i:Int))]) (fun i=>[]) (fun i=>i≤f.fKinds.length∧∀ j,j<i→kindBad (parF f.fClass) j (f.fKinds.getD j 0)=false) (fun i=>f.fKinds.length-i) 0 ?_ cv (Leads.has ZQ) ?_)))))
 exact ⟨Nat.zero_le _,fun j hj=>by omega⟩
 rintro i ⟨hi,hs⟩
 try dsimp only
 refine Zh (Zi (Zx J J (Zn (Za (Zh (wC (fun h29=>?_) (fun h29=>?_)))))))
 refine Zj (Za (Zh (Zk (Zh (Zi (Zo J (oIdx J J (g0) J ZO J J (fun e31 u31 cs31 hu31 hk31 hc31=>?_))))))))
 obtain rfl:=hk31
 refine Zlx hc31 ?_
 refine Zp J (Zp J (Zn (Zzl ?_)))
 (refine ZC0 rfl ZK (fun w hS=>frame hS ZQ (fun B' hB hS'=>sig_Text hS' u31)) ?_;rintro ⟨⟩ -)
 refine oSEq J J (Zo J (ZS (ZT 36) (fun h36=>?_) (fun h36=>?_)))
 have h36:textF u31=ByteArray.empty:=h36
 refine Zr J J J J (Zr J J J J (Zr J J J J (Zr J J J J (Zs J J J (Zs J J J (Zr J J J J (Zt J J (Zn (Za (wCondT J (Zh (Zi (Zzc ?_)))))))))))))
 exact ⟨(),trivial,by unfold slotsF;rw [if_pos hc,if_neg hk1,if_neg hk2,if_pos (any_T (show i<f.fKinds.length by omega) (by rw [getDat hu31];simp_all [kindBad]))];rfl,Lh⟩
 have h36:¬ textF u31=ByteArray.empty:=h36
 refine Zq J J (Zo J (Zq J J (Zo J (Zq J J (Zx J J (Zq J J (Zo J (ZS (ZT 40) (fun h40=>?_) (fun h40=>?_)))))))))
 refine Zq J J (Zo J (Zq J J (Z0 J J (Zq J J (Zt J J (Zu J J (Zn (Za (wC (fun h44=>?_) (fun h44=>?_))))))))))
 refine Zh (Zi (Zzc ?_))
 exact ⟨(),trivial,by unfold slotsF;rw [if_pos hc,if_neg hk1,if_neg hk2,if_pos (any_T (show i<f.fKinds.length by omega) (by rw [getDat hu31];simp_all [kindBad]))];rfl,Lh⟩
 refine Zj (Zzg ?_)
 refine Zo J (Zn (Za ?_))
 exact ⟨rfl,i+1,⟨by omega,fun j hj=>by
 by_cases e:j=i
 · subst e;rw [getDat hu31];simp_all [kindBad] <;> omega
 · exact hs j ZO⟩,by omega,cv,Lh⟩
 refine Zr J J J J (Zr J J J J (Zq J J (Zu J J (Zu J J (Zn (Za (wCondF J (Zj (Zzg ?_)))))))))
 refine Zo J (Zn (Za ?_))
 exact ⟨rfl,i+1,⟨by omega,fun j hj=>by
 by_cases e:j=i
 · subst e;rw [getDat hu31];simp_all [kindBad] <;> omega
 · exact hs j ZO⟩,by omega,cv,Lh⟩
 refine Zm (Zzf ?_)
 obtain rfl:i=f.fKinds.length:=by omega
 exact ⟨(),trivial,by unfold slotsF;rw [if_pos hc,if_neg hk1,if_neg hk2,if_neg (by rw [any_F hs];simp)];rfl,Lh⟩
def ceF (x:ApiInstr):Int:=if icF x≠0 then icF x else if ownF x.fOp then 0 else 8
def codeF (f:ApiFunc):Int:=if flowF f.fCode≠0 then flowF f.fCode else fstE (f.fCode.map ceF)
theorem fun_code {B:Base}{w:World}(hS:St B [] w) (f:ApiFunc) (fc:List Value) (hf:kApiFunc.K B.e f fc) :
 CW 136 #[.agg fc.toArray] w (Ret B (fun _:Unit=>True) (fun _=>.int .i64 (codeF f)) (fun _=>[])):=by
 obtain ⟨A0,c0,A1,c1,A2,c2,A3,c3,rfl,l0,g0,l1,g1,l2,g2,l3,g3⟩:=kApiFunc_open hf
 have hcl:=g2.1
 refine ZX Tryz.func136 hS ?_
 refine Zh (Zi (oBox J ZP (fun b1=>?_)))
 refine Zp J (Zn (Za (Zh (Zh (Zi (Zz (n:=7) (m:=7) J J J (Zld ?_)))))))
 (refine ZC0 rfl ZK (fun w hS=>frame hS ZQ (fun B' hB hS'=>flow_Check hS' A2 c2 f.fCode (Kd.C_grow hB g2))) ?_;rintro ⟨⟩ -)
 refine Zp J (Zn (Za (Zh (Zi (Zo J (Z0 J J (Zn (Za (wC (fun h11=>?_) (fun h11=>?_))))))))))
 refine Zh (Zi (Zo J (Zze ?_)))
 exact ⟨(),trivial,by unfold codeF;rw [if_pos h11];rfl,Lh⟩
 refine Zj (Za (Zh (Zh (Zi (Zz (n:=7) (m:=7) J J J (Zld ?_))))))
 refine Zv J J (Zo J (Zn (Za (Zk (wLoop (ι:=Nat) (fun i=>[(14,.slice A2 f.fCode.length c2),(15,.int .i64 (f.fCode.length:Int)),(16,.int .i64 (i:Int))]) (fun i=>[]) (fun i=>i≤f.fCode.length∧fstE ((f.fCode.map ceF).take i)=0) (fun i=>f.fCode.length-i) 0 ?_ cv (Leads.has ZQ) ?_)))))
 exact ⟨Nat.zero_le _,rfl⟩
 rintro i ⟨hi,hs⟩
 try dsimp only
 refine Zh (Zi (Zx J J (Zn (Za (Zh (wC (fun h17=>?_) (fun h17=>?_)))))))
 obtain ⟨x,hx⟩:∃ x,f.fCode[i]?=some x:=⟨_,List.getElem?_eq_getElem ZO⟩
 have hxe:(f.fCode.map ceF)[i]?=some (ceF x):=by rw [List.getElem?_map,hx];rfl
 obtain ⟨e1,cs1,hE⟩:=g2.elm hx
 obtain rfl:=kApiInstr_open hE.K
 refine Zj (Za (Zh (Zk (Zh (Zi (oIdxE J J (hE) ZO J J ?_))))))
 have hc18:=(hE).cell
 refine Zlx hc18 ?_
 refine oAlloc J ZP (fun b5=>?_)
 refine Zsa ?_
 refine Zn (Za (Zh (Zh (Zi (Zla ?_)))))
 (refine ZC0 rfl ZK (fun w hS=>frame hS ZQ (fun B' hB hS'=>instr_Check hS' x _ (kApiInstr_mk _ x))) ?_;rintro ⟨⟩ -)
 refine Zp J (Zn (Za (Zh (Zi (Zo J (Z0 J J (Zn (Za (wC (fun h23=>?_) (fun h23=>?_))))))))))
 refine Zh (Zi (Zo J (Zzk ?_)))
 exact ⟨(),trivial,by unfold codeF;rw [if_neg h11,fstE_stop hs hxe (by unfold ceF;rw [if_pos h23];exact h23)];unfold ceF;rw [if_pos h23];rfl,Lh⟩
 refine Zj (Za (Zh (Zi (Zz (n:=0) (m:=0) J J J (Zld ?_)))))
 (refine ZC0 rfl ZK (fun w hS=>frame hS ZQ (fun B' hB hS'=>op_Own hS' x.fOp)) ?_;rintro ⟨⟩ -)
 refine Zno ?_
 refine Zn (Za (wC (fun h28=>?_) (fun h28=>?_)))
 refine Zh (Zi (Zzc ?_))
 have hce:ceF x=8:=by unfold ceF;rw [if_neg h23,if_neg (by simpa using h28)]
 exact ⟨(),trivial,by unfold codeF;rw [if_neg h11,fstE_stop hs hxe (by rw [hce];decide),hce];rfl,Lh⟩
 refine Zj (Zzg ?_)
 refine Zo J (Zn (Za ?_))
 exact ⟨rfl,i+1,⟨by omega,fstE_next hs hxe (by unfold ceF;rw [if_neg h23,if_pos (by simpa using h28)])⟩,by omega,cv,Lh⟩
 refine Zm (Zzf ?_)
 obtain rfl:i=f.fCode.length:=by omega
 rw [← List.length_map (f:=ceF),List.take_length] at hs
 exact ⟨(),trivial,by unfold codeF;rw [if_neg h11,hs];rfl,Lh⟩
def lineBad (x:ApiLine):Bool:=decide (x.fLine<0∨65535<x.fLine)
def linesF (f:ApiFunc):Int:=if 16<f.fLines.length then 6 else if f.fLines.any lineBad then 9 else if (f.fLines.map (·.fAt)).getD 0 0≠0∨risF f.fCode.length (-1) (f.fLines.map (·.fAt))=false then 9 else 0
theorem fun_lines {B:Base}{w:World}(hS:St B [] w) (f:ApiFunc) (fc:List Value) (hf:kApiFunc.K B.e f fc) :
 CW 137 #[.agg fc.toArray] w (Ret B (fun _:Unit=>True) (fun _=>.int .i64 (linesF f)) (fun _=>[])):=by
 obtain ⟨A0,c0,A1,c1,A2,c2,A3,c3,rfl,l0,g0,l1,g1,l2,g2,l3,g3⟩:=kApiFunc_open hf
 have hcl:=g2.1
 have hml:(f.fLines.map (·.fAt)).length=f.fLines.length:=List.length_map _
 refine ZX Tryz.func137 hS ?_
 refine Zh (Zi (oBox J ZP (fun b1=>?_)))
 refine Zp J (Zn (Za (Zh (Zh (Zi (Zz (n:=6) (m:=6) J J J (Zld ?_)))))))
 refine Zv J J (Z1 J J (Zn (Za (wC (fun h9=>?_) (fun h9=>?_)))))
 refine Zh (Zi (Zze ?_))
 exact ⟨(),trivial,by unfold linesF;rw [if_pos ZO];rfl,Lh⟩
 have hk0:¬ 16<f.fLines.length:=by omega
 refine Zj (Za (Zh (Zi (Zp J (Zn (Za (Zh (Zh (Zi (Zz (n:=6) (m:=6) J J J (Zld ?_)))))))))))
 refine Zv J J (Zo J (Zn (Za (Zk (wLoop (ι:=Nat×Option Addr×Nat) (fun z=>[(1,.pointer (some ⟨b1,0,none⟩)),(3,.slice z.2.1 ((f.fLines.map (·.fAt)).take z.1).length z.2.2),(11,.slice A1 f.fLines.length c1),(12,.int .i64 (f.fLines.length:Int)),(13,.int .i64 (z.1:Int))]) (fun z=>[blk b1 57 [.int .i64 f.fClass,.slice A0 f.fKinds.length c0,.int .i64 f.fPad,.bool f.fNosplit,.int .i64 f.fFrom,.int .i64 f.fTo,.slice A1 f.fLines.length c1,.slice A2 f.fCode.length c2,.slice A3 f.fRelocs.length c3],row (Kd.int .i64) B.e 3 (.slice z.2.1 ((f.fLines.map (·.fAt)).take z.1).length z.2.2) ((f.fLines.map (·.fAt)).take z.1)]) (fun z=>z.1≤f.fLines.length∧∀ y ∈ f.fLines.take z.1,lineBad y=false) (fun z=>f.fLines.length-z.1) (0,none,0) ?_ cv (Leads.nilrow.trans Lh) ?_)))))
 exact ⟨Nat.zero_le _,by simp⟩
 rintro ⟨i,A6,c6⟩ ⟨hi,hs⟩
 dsimp only at hi hs
 have hti:((f.fLines.map (·.fAt)).take i).length=i:=by rw [List.length_take];omega
 try dsimp only
 refine Zh (Zi (Zx J J (Zn (Za (Zh (wC (fun h14=>?_) (fun h14=>?_)))))))
 obtain ⟨x,hx⟩:∃ x,f.fLines[i]?=some x:=⟨_,List.getElem?_eq_getElem ZO⟩
 have htk:=take_at' (l:=f.fLines.map (·.fAt)) (a:=i) (u:=x.fAt) (by rw [List.getElem?_map,hx];rfl)
 obtain ⟨e1,cs1,hE⟩:=g1.elm hx
 obtain rfl:=kApiLine_open hE.K
 refine Zj (Za (Zh (Zk (Zh (Zi (oIdxE J J (hE) ZO J J ?_))))))
 have hc15:=(hE).cell
 refine Zlx hc15 ?_
 refine oAlloc J ZP (fun b5=>?_)
 refine Zsa ?_
 refine Zn (Za (Zh (Zh (Zi (Zz (n:=1) (m:=1) J J J (Zld ?_))))))
 refine Zx J J (Zo J (ZS (ZT 20) (fun h20=>?_) (fun h20=>?_)))
 refine Zr J J J J (Zr J J J J (Zr J J J J (Zt J J (Zn (Za (wCondT J (Zh (Zi (Zzk ?_)))))))))
 exact ⟨(),trivial,by unfold linesF;rw [if_neg hk0,if_pos (List.any_eq_true.2 ⟨x,List.mem_of_getElem? hx,decide_eq_true ZO⟩)];rfl,Lh⟩
 refine Zq J J (Zz (n:=1) (m:=1) J J J (Zzi ?_))
 refine Zq J J (Z1 J J (Zu J J (Zn (Za (wC (fun h24=>?_) (fun h24=>?_))))))
 refine Zh (Zi (Zzk ?_))
 exact ⟨(),trivial,by unfold linesF;rw [if_neg hk0,if_pos (List.any_eq_true.2 ⟨x,List.mem_of_getElem? hx,decide_eq_true ZO⟩)];rfl,Lh⟩
 refine Zj (Za (Zi (Zo J (Zz (n:=0) (m:=0) J J J (Zld ?_)))))
 refine oBuildSlice1 J J J J J ZP J (fun b28=>?_)
 refine oApp1 x.fAt J J J J ZP ZP J ZO J (fun g29 cp29=>?_)
 rw [show ((f.fLines.map (·.fAt)).take i).length+1=((f.fLines.map (·.fAt)).take (i+1)).length by rw [← htk,List.length_append];rfl,htk]
 refine Zp J (Zn (Zzg ?_))
 refine Zo J (Zn (Za ?_))
 exact ⟨rfl,(i+1,some ⟨g29,0,none⟩,cp29),⟨by show i+1≤_;omega,take_not hs hx (by unfold lineBad;exact decide_eq_false ZO)⟩,by show f.fLines.length-(i+1)<f.fLines.length-i;omega,cv,Lh⟩
 obtain rfl:i=f.fLines.length:=by omega
 rw [List.take_length] at hs
 have hna:¬ f.fLines.any lineBad=true:=by intro k;obtain ⟨y,hy,hp⟩:=List.any_eq_true.1 k;rw [hs y hy] at hp;cases hp
 rw [← hml,List.take_length]
 generalize hP:f.fLines.map (·.fAt)=P at *
 refine Zm (Zb (Zb (Ze (Za (Zh (Zh (Zi (Zo J (Zv J J (Z1 J J (Zo J (ZS (ZT 34) (fun h34=>?_) (fun h34=>?_)))))))))))))
 refine Zq J J (Zo J (Zq J J (ZR (i:=0) J J ZP ZO J J (fun g36 hg36=>?_))))
 subst hg36
 refine Zq J J (ZR1 (i:=0) J ZP ZO J (fun u37 hu37=>?_))
 have h0v:P.getD 0 0=u37:=getDat hu37
 refine Zq J J (Z0 J J (Zt J J (Zo J (ZS (ZT 40) (fun h40=>?_) (fun h40=>?_)))))
 refine Zr J J J J (Zr J J J J (Zr J J J J (Zr J J J J (Zr J J J J (Zr J J J J (Zt J J (Zn (Za (wCondT J (Zh (Zi (Zze ?_))))))))))))
 exact ⟨(),trivial,by unfold linesF;rw [if_neg hk0,if_neg hna,hP,if_pos (.inl (by rw [h0v];exact h40))];rfl,Lh⟩
 refine Zq J J (Zz (n:=7) (m:=7) J J J (Zzi ?_))
 refine Zq J J (Zv J J (Zq J J (Zo J (Zq J J ?_))))
 (refine ZD J (fun w B' hB hR hS'=>fun_rising hS' (f.fCode.length:Int) (some ⟨g36,0,none⟩) c6 P (row_Cs (W:=B.e) (e:=3) (n:=P.length) (cp:=c6) (hR _ _ ZP))) ?_;rintro ⟨⟩ -)
 refine Zq J J (Zno ?_)
 refine Zu J J (Zn (Za (wC (fun h47=>?_) (fun h47=>?_))))
 refine Zh (Zi (Zze ?_))
 exact ⟨(),trivial,by unfold linesF;rw [if_neg hk0,if_neg hna,hP,if_pos (.inr (by simpa using h47))];rfl,Lh⟩
 refine Zj (Za (Zh (Zi (Zzh ?_))))
 exact ⟨(),trivial,by unfold linesF;rw [if_neg hk0,if_neg hna,hP,if_neg (by rintro (h | h);exact h40 (h0v ▸ h);simp [h] at h47)];rfl,Lh⟩
 have h0v:P.getD 0 0=0:=by cases P with | nil=>rfl | cons y P=>simp at h34
 refine Zr J J J J (Zr J J J J (Zr J J J J (Zr J J J J (Zu J J (Zo J (Zq J J (Zz (n:=7) (m:=7) J J J (Zzi ?_))))))))
 refine Zq J J (Zv J J (Zq J J (Zo J (Zq J J ?_))))
 (refine ZD J (fun w B' hB hR hS'=>fun_rising hS' (f.fCode.length:Int) A6 c6 P (row_Cs (W:=B.e) (e:=3) (n:=P.length) (cp:=c6) (hR _ _ ZP))) ?_;rintro ⟨⟩ -)
 refine Zq J J (Zno ?_)
 refine Zu J J (Zn (Za (wC (fun h47=>?_) (fun h47=>?_))))
 refine Zh (Zi (Zze ?_))
 exact ⟨(),trivial,by unfold linesF;rw [if_neg hk0,if_neg hna,hP,if_pos (.inr (by simpa using h47))];rfl,Lh⟩
 refine Zj (Za (Zh (Zi (Zzh ?_))))
 exact ⟨(),trivial,by unfold linesF;rw [if_neg hk0,if_neg hna,hP,if_neg (by rintro (h | h);exact h h0v;simp [h] at h47)];rfl,Lh⟩
def relBad (x:ApiReloc):Bool:=decide (x.fSym<0∨32≤x.fSym)
def relocsF (f:ApiFunc):Int:=if f.fRelocs.any relBad then 11 else if risF f.fCode.length (-1) (f.fRelocs.map (·.fAt)) then 0 else 11
theorem fun_relocs {B:Base}{w:World}(hS:St B [] w) (f:ApiFunc) (fc:List Value) (hf:kApiFunc.K B.e f fc) (hsm:f.fRelocs.length≤1000) :
 CW 138 #[.agg fc.toArray] w (Ret B (fun _:Unit=>True) (fun _=>.int .i64 (relocsF f)) (fun _=>[])):=by
 obtain ⟨A0,c0,A1,c1,A2,c2,A3,c3,rfl,l0,g0,l1,g1,l2,g2,l3,g3⟩:=kApiFunc_open hf
 have hcl:=g2.1
 have hml:(f.fRelocs.map (·.fAt)).length=f.fRelocs.length:=List.length_map _
 refine ZX Tryz.func138 hS ?_
 refine Zh (Zi (oBox J ZP (fun b1=>?_)))
 refine Zp J (Zn (Za (Zh (Zi (Zp J (Zn (Za (Zh (Zh (Zi (Zz (n:=8) (m:=8) J J J (Zld ?_))))))))))))
 refine Zv J J (Zo J (Zn (Za (Zk (wLoop (ι:=Nat×Option Addr×Nat) (fun z=>[(1,.pointer (some ⟨b1,0,none⟩)),(3,.slice z.2.1 ((f.fRelocs.map (·.fAt)).take z.1).length z.2.2),(7,.slice A3 f.fRelocs.length c3),(8,.int .i64 (f.fRelocs.length:Int)),(9,.int .i64 (z.1:Int))]) (fun z=>[blk b1 57 [.int .i64 f.fClass,.slice A0 f.fKinds.length c0,.int .i64 f.fPad,.bool f.fNosplit,.int .i64 f.fFrom,.int .i64 f.fTo,.slice A1 f.fLines.length c1,.slice A2 f.fCode.length c2,.slice A3 f.fRelocs.length c3],row (Kd.int .i64) B.e 3 (.slice z.2.1 ((f.fRelocs.map (·.fAt)).take z.1).length z.2.2) ((f.fRelocs.map (·.fAt)).take z.1)]) (fun z=>z.1≤f.fRelocs.length∧∀ y ∈ f.fRelocs.take z.1,relBad y=false) (fun z=>f.fRelocs.length-z.1) (0,none,0) ?_ cv (Leads.nilrow.trans Lh) ?_)))))
 exact ⟨Nat.zero_le _,by simp⟩
 rintro ⟨i,A6,c6⟩ ⟨hi,hs⟩
 dsimp only at hi hs
 have hti:((f.fRelocs.map (·.fAt)).take i).length=i:=by rw [List.length_take];omega
 try dsimp only
 refine Zh (Zi (Zx J J (Zn (Za (Zh (wC (fun h10=>?_) (fun h10=>?_)))))))
 obtain ⟨x,hx⟩:∃ x,f.fRelocs[i]?=some x:=⟨_,List.getElem?_eq_getElem ZO⟩
 have htk:=take_at' (l:=f.fRelocs.map (·.fAt)) (a:=i) (u:=x.fAt) (by rw [List.getElem?_map,hx];rfl)
 obtain ⟨e1,cs1,hE⟩:=g3.elm hx
 obtain rfl:=kApiReloc_open hE.K
 refine Zj (Za (Zh (Zk (Zh (Zi (oIdxE J J (hE) ZO J J ?_))))))
 have hc11:=(hE).cell
 refine Zlx hc11 ?_
 refine oAlloc J ZP (fun b5=>?_)
 refine Zsa ?_
 refine Zn (Za (Zh (Zh (Zi (Zz (n:=1) (m:=1) J J J (Zld ?_))))))
 refine Zx J J (Zo J (ZS (ZT 16) (fun h16=>?_) (fun h16=>?_)))
 refine Zr J J J J (Zr J J J J (Zr J J J J (Zt J J (Zn (Za (wCondT J (Zh (Zi (Zzk ?_)))))))))
 exact ⟨(),trivial,by unfold relocsF;rw [if_pos (List.any_eq_true.2 ⟨x,List.mem_of_getElem? hx,decide_eq_true ZO⟩)];rfl,Lh⟩
 refine Zq J J (Zz (n:=1) (m:=1) J J J (Zzi ?_))
 refine Zq J J (Z2 J J (Zu J J (Zn (Za (wC (fun h20=>?_) (fun h20=>?_))))))
 refine Zh (Zi (Zzk ?_))
 exact ⟨(),trivial,by unfold relocsF;rw [if_pos (List.any_eq_true.2 ⟨x,List.mem_of_getElem? hx,decide_eq_true ZO⟩)];rfl,Lh⟩
 refine Zj (Za (Zi (Zo J (Zz (n:=0) (m:=0) J J J (Zld ?_)))))
 refine oBuildSlice1 J J J J J ZP J (fun b24=>?_)
 refine oApp1 x.fAt J J J J ZP ZP J ZO J (fun g25 cp25=>?_)
 rw [show ((f.fRelocs.map (·.fAt)).take i).length+1=((f.fRelocs.map (·.fAt)).take (i+1)).length by rw [← htk,List.length_append];rfl,htk]
 refine Zp J (Zn (Zzg ?_))
 refine Zo J (Zn (Za ?_))
 exact ⟨rfl,(i+1,some ⟨g25,0,none⟩,cp25),⟨by show i+1≤_;omega,take_not hs hx (by unfold relBad;exact decide_eq_false ZO)⟩,by show f.fRelocs.length-(i+1)<f.fRelocs.length-i;omega,cv,Lh⟩
 obtain rfl:i=f.fRelocs.length:=by omega
 rw [List.take_length] at hs
 have hna:¬ f.fRelocs.any relBad=true:=by intro k;obtain ⟨y,hy,hp⟩:=List.any_eq_true.1 k;rw [hs y hy] at hp;cases hp
 rw [← hml,List.take_length]
 generalize hP:f.fRelocs.map (·.fAt)=P at *
 refine Zm (Zb (Zb (Ze (Za (Zh (Zh (Zi (Zz (n:=7) (m:=7) J J J (Zld ?_)))))))))
 refine Zv J J (Zo J ?_)
 (refine ZD J (fun w B' hB hR hS'=>fun_rising hS' (f.fCode.length:Int) A6 c6 P (row_Cs (W:=B.e) (e:=3) (n:=P.length) (cp:=c6) (hR _ _ ZP))) ?_;rintro ⟨⟩ -)
 refine Zno ?_
 refine Zn (Za (wC (fun h32=>?_) (fun h32=>?_)))
 refine Zh (Zi (Zze ?_))
 exact ⟨(),trivial,by unfold relocsF;rw [if_neg hna,hP,if_neg (by simpa using h32)];rfl,Lh⟩
 refine Zj (Za (Zh (Zi (Zzh ?_))))
 exact ⟨(),trivial,by unfold relocsF;rw [if_neg hna,hP,if_pos (by simpa using h32)];rfl,Lh⟩
def funF (f:ApiFunc):Int:=if slotsF f≠0 then slotsF f else if f.fPad<0∨4096<f.fPad then 9 else if codeF f≠0 then codeF f else if f.fFrom<0∨f.fTo<f.fFrom∨(f.fCode.length:Int)<f.fTo then 9 else if linesF f≠0 then linesF f else relocsF f
theorem fun_Check {B:Base}{w:World}(hS:St B [] w) (f:ApiFunc) (fc:List Value) (hf:kApiFunc.K B.e f fc) (hsm:f.fRelocs.length≤1000) :
 CW 100 #[.agg fc.toArray] w (Ret B (fun _:Unit=>True) (fun _=>.int .i64 (funF f)) (fun _=>[])):=by
 obtain ⟨A0,c0,A1,c1,A2,c2,A3,c3,rfl,l0,g0,l1,g1,l2,g2,l3,g3⟩:=kApiFunc_open hf
 refine ZX Tryz.func100 hS ?_
 refine Zh (Zi (oBox J ZP (fun b1=>?_)))
 refine Zp J (Zn (Za (Zh (Zh (Zi (Zla ?_))))))
 (refine ZC0 rfl ZK (fun w hS=>frame hS ZQ (fun B' hB hS'=>fun_slots hS' f _ (kApiFunc.K_grow hB hf))) ?_;rintro ⟨⟩ -)
 refine Zp J (Zn (Za (Zh (Zi (Zo J (Z0 J J (Zn (Za (wC (fun h9=>?_) (fun h9=>?_))))))))))
 refine Zh (Zi (Zo J (Zze ?_)))
 exact ⟨(),trivial,by unfold funF;rw [if_pos h9];rfl,Lh⟩
 refine Zj (Za (Zh (Zh (Zi (Zz (n:=2) (m:=2) J J J (Zld ?_))))))
 refine Zx J J (Zo J (ZS (ZT 14) (fun h14=>?_) (fun h14=>?_)))
 refine Zr J J J J (Zr J J J J (Zr J J J J (Zt J J (Zn (Za (wCondT J (Zh (Zi (Zze ?_)))))))))
 exact ⟨(),trivial,by unfold funF;rw [if_neg h9,if_pos ZO];rfl,Lh⟩
 refine Zq J J (Zz (n:=2) (m:=2) J J J (Zzi ?_))
 refine Zq J J (Z1 J J (Zu J J (Zn (Za (wC (fun h18=>?_) (fun h18=>?_))))))
 refine Zh (Zi (Zze ?_))
 exact ⟨(),trivial,by unfold funF;rw [if_neg h9,if_pos ZO];rfl,Lh⟩
 refine Zj (Za (Zh (Zh (Zi (Zla ?_)))))
 (refine ZC0 rfl ZK (fun w hS=>frame hS ZQ (fun B' hB hS'=>fun_code hS' f _ (kApiFunc.K_grow hB hf))) ?_;rintro ⟨⟩ -)
 refine Zp J (Zn (Za (Zh (Zi (Zo J (Z0 J J (Zn (Za (wC (fun h22=>?_) (fun h22=>?_))))))))))
 refine Zh (Zi (Zo J (Zze ?_)))
 exact ⟨(),trivial,by unfold funF;rw [if_neg h9,if_neg ZO,if_pos h22];rfl,Lh⟩
 refine Zj (Za (Zh (Zh (Zi (Zz (n:=4) (m:=4) J J J (Zld ?_))))))
 refine Zx J J (Zo J (ZS (ZT 27) (fun h27=>?_) (fun h27=>?_)))
 refine Zr J J J J (Zr J J J J (Zr J J J J (Zr J J J J (Zr J J J J (Zt J J (Zo J (Zr J J J J (Zr J J J J (Zr J J J J (Zr J J J J (Zr J J J J (Zr J J J J (Zt J J (Zn (Za (wCondT J (Zh (Zi (Zze ?_)))))))))))))))))))
 exact ⟨(),trivial,by unfold funF;rw [if_neg h9,if_neg ZO,if_neg h22,if_pos ZO];rfl,Lh⟩
 refine Zq J J (Zz (n:=5) (m:=5) J J J (Zzi ?_))
 refine Zq J J (Zz (n:=4) (m:=4) J J J (Zzi ?_))
 refine Zq J J (Zx J J (Zu J J (Zo J (ZS (ZT 34) (fun h34=>?_) (fun h34=>?_)))))
 refine Zr J J J J (Zr J J J J (Zr J J J J (Zr J J J J (Zr J J J J (Zr J J J J (Zt J J (Zn (Za (wCondT J (Zh (Zi (Zze ?_))))))))))))
 exact ⟨(),trivial,by unfold funF;rw [if_neg h9,if_neg ZO,if_neg h22,if_pos ZO];rfl,Lh⟩
 refine Zq J J (Zz (n:=5) (m:=5) J J J (Zzi ?_))
 refine Zq J J (Zz (n:=7) (m:=7) J J J (Zzi ?_))
 refine Zq J J (Zv J J (Zq J J (Z1 J J (Zu J J (Zn (Za (wC (fun h41=>?_) (fun h41=>?_))))))))
 refine Zh (Zi (Zze ?_))
 exact ⟨(),trivial,by unfold funF;rw [if_neg h9,if_neg ZO,if_neg h22,if_pos ZO];rfl,Lh⟩
 refine Zj (Za (Zh (Zh (Zi (Zla ?_)))))
 (refine ZC0 rfl ZK (fun w hS=>frame hS ZQ (fun B' hB hS'=>fun_lines hS' f _ (kApiFunc.K_grow hB hf))) ?_;rintro ⟨⟩ -)
 refine Zp J (Zn (Za (Zh (Zi (Zo J (Z0 J J (Zn (Za (wC (fun h45=>?_) (fun h45=>?_))))))))))
 refine Zh (Zi (Zo J (Zze ?_)))
 exact ⟨(),trivial,by unfold funF;rw [if_neg h9,if_neg ZO,if_neg h22,if_neg ZO,if_pos h45];rfl,Lh⟩
 refine Zj (Za (Zh (Zi (Zla ?_))))
 (refine ZC0 rfl ZK (fun w hS=>frame hS ZQ (fun B' hB hS'=>fun_relocs hS' f _ (kApiFunc.K_grow hB hf) hsm)) ?_;rintro ⟨⟩ -)
 refine Zp J (Zza ?_)
 exact ⟨(),trivial,by unfold funF;rw [if_neg h9,if_neg ZO,if_neg h22,if_neg ZO,if_neg h45];rfl,Lh⟩
structure FunA where
  A0:Option Addr
  c0:Nat
  A1:Option Addr
  c1:Nat
  A2:Option Addr
  c2:Nat
  A3:Option Addr
  c3:Nat
abbrev symL (s:ApiSymbol):List Value:=[.string s.fName,.bool s.fLocal,.int .i64 s.fSort,.int .i64 s.fKind,.int .i64 s.fDef]
abbrev ckL (f:ApiFunc) (a:FunA) (x:ApiInstr) (s:ApiSymbol) (k:Int):List Value:=[.int .i64 f.fClass,.slice a.A0 f.fKinds.length a.c0,.int .i64 f.fPad,.bool f.fNosplit,.int .i64 f.fFrom,.int .i64 f.fTo,.slice a.A1 f.fLines.length a.c1,.slice a.A2 f.fCode.length a.c2,.slice a.A3 f.fRelocs.length a.c3,.int .i64 x.fOp,.int .i64 x.fA,.int .i64 x.fB,.int .i64 x.fC,.int .i64 x.fN,.string s.fName,.bool s.fLocal,.int .i64 s.fSort,.int .i64 s.fKind,.int .i64 s.fDef,.int .i64 k]
abbrev ckR (b:Nat) (f:ApiFunc) (a:FunA) (x:ApiInstr) (s:ApiSymbol) (k:Int):Res:=blk b 176 (ckL f a x s k)
def slotF (kinds:List Int) (at_ kind:Int):Int:=if at_<0∨(kinds.length:Int)≤at_ then 9 else if kinds.getD at_.toNat 0≠kind then 8 else 0
def zeroF (at_:Int):Int:=if at_≠0 then 2 else 0
def nCall (k:Int):Int:=if parF k=0∧ansF k=true then 1 else parF k
def callF (kinds:List Int) (k at_:Int):Int:=if nCall k=0 then zeroF at_ else fstE ((List.range (nCall k).toNat).map fun i:Nat=>slotF kinds (IntKind.i64.wrap (at_+(i:Int))) 0)
def lateF (kinds:List Int) (k at_:Int):Int:=if parF k=0 then zeroF at_ else slotF kinds at_ 0
def answF (kinds:List Int) (c at_:Int):Int:=if ansF c then slotF kinds at_ 0 else zeroF at_
theorem nCall_in (k:Int):0≤nCall k∧nCall k≤3:=by
 have:=parF_in k
 unfold nCall
 split <;> omega
section
variable {B : Base} {w : World} {b : Nat} {f : ApiFunc} {a : FunA} {x : ApiInstr} {s : ApiSymbol} {k : Int}
theorem ck_slot (hS:St B [ckR b f a x s k] w) (g0:(Kd.int .i64).C B.e a.A0 f.fKinds) (at_ kind:Int) :
 CW 199 #[.pointer (some ⟨b,0,none⟩),.int .i64 at_,.int .i64 kind] w (Ret B (fun _:Unit=>True) (fun _=>.int .i64 (slotF f.fKinds at_ kind)) (fun _=>[ckR b f a x s k])):=by
 refine ZX Tryz.func199 hS ?_
 refine Zh (Zi (Zp J (Zn (Za (Zh (Zk (Zh (Zh (Zi (Zo J (Zx J J (Zp J (Zn (Za (wC (fun h7=>?_) (fun h7=>?_))))))))))))))))
 refine Zj (Za (ZY h7 ?_))
 refine Zh (Zi (Zzd ?_))
 exact ⟨(),trivial,by unfold slotF;rw [if_pos ZO];rfl,Lh⟩
 refine Zi (Zo J (Zo J (Z3 J (Zz (n:=0) (m:=0) J J J (Zz (n:=1) (m:=1) J J J (Zld ?_))))))
 refine Zv J J (Z2 J J (Zp J (Zn (Za (wC (fun h7=>?_) (fun h7=>?_))))))
 refine Zh (Zi (Zzd ?_))
 exact ⟨(),trivial,by unfold slotF;rw [if_pos ZO];rfl,Lh⟩
 refine Zh (Zi (Zo J ?_))
 obtain ⟨n,rfl⟩:=Int.eq_ofNat_of_zero_le (show 0≤at_ by omega)
 refine Z3 J (Zz (n:=0) (m:=0) J J J (Zz (n:=1) (m:=1) J J J (Zld ?_)))
 refine Zo J (oIdx J J (g0) J ZO J J (fun e25 u25 cs25 hu25 hk25 hc25=>?_))
 obtain rfl:=hk25
 refine Zlx hc25 ?_
 refine Zo J (Z0 J J (Zp J (Zn (Za (wC (fun h18=>?_) (fun h18=>?_))))))
 refine Zh (Zi (Zzd ?_))
 exact ⟨(),trivial,by unfold slotF;rw [if_neg ZO,Int.toNat_natCast,getDat hu25,if_pos h18];rfl,Lh⟩
 refine Zj (Zd (Za (Zh (Zi (Zzh ?_)))))
 exact ⟨(),trivial,by unfold slotF;rw [if_neg ZO,Int.toNat_natCast,getDat hu25,if_neg h18];rfl,Lh⟩
theorem ck_number (hS:St B [ckR b f a x s k] w) (g0:(Kd.int .i64).C B.e a.A0 f.fKinds) (at_:Int) :
 CW 186 #[.pointer (some ⟨b,0,none⟩),.int .i64 at_] w (Ret B (fun _:Unit=>True) (fun _=>.int .i64 (slotF f.fKinds at_ 0)) (fun _=>[ckR b f a x s k])):=by
 refine ZX Tryz.func186 hS ?_
 refine Zh (Zi (Zp J (Zn (Za (Zh (Zi (Zo J (Zo J ?_))))))))
 (refine ZC0 rfl ZK (fun w hS=>frame hS ZQ (fun B' hB hS'=>ck_slot hS' (Kd.C_grow hB g0) at_ 0)) ?_;rintro ⟨⟩ -)
 refine Zp J (Zza ?_)
 exact ⟨(),trivial,rfl,Lh⟩
theorem ck_function (hS:St B [ckR b f a x s k] w) (g0:(Kd.int .i64).C B.e a.A0 f.fKinds) (at_:Int) :
 CW 187 #[.pointer (some ⟨b,0,none⟩),.int .i64 at_] w (Ret B (fun _:Unit=>True) (fun _=>.int .i64 (slotF f.fKinds at_ (IntKind.i64.wrap (1+k)))) (fun _=>[ckR b f a x s k])):=by
 generalize hz:IntKind.i64.wrap (1+k)=z
 refine ZX Tryz.func187 hS ?_
 refine Zh (Zi (Zp J (Zn (Za (Zh (Zi (Zo J (Zo J (Zo J (Z3 J (Zz (n:=19) (m:=19) J J J (Zld ?_))))))))))))
 refine oAddW J J ?_
 rw [hz]
 (refine ZC0 rfl ZK (fun w hS=>frame hS ZQ (fun B' hB hS'=>ck_slot hS' (Kd.C_grow hB g0) at_ z)) ?_;rintro ⟨⟩ -)
 refine Zp J (Zza ?_)
 exact ⟨(),trivial,rfl,Lh⟩
theorem ck_nothing (hS:St B [] w) (v:Value) (at_:Int) :
 CW 200 #[v,.int .i64 at_] w (Ret B (fun _:Unit=>True) (fun _=>.int .i64 (zeroF at_)) (fun _=>[])):=by
 refine ZX Tryz.func200 hS ?_
 refine Zh (Zi (Zp J (Zn (Za (Zh (Zh (Zi (Zo J (Z0 J J (Zn (Za (wC (fun h6=>?_) (fun h6=>?_)))))))))))))
 refine Zh (Zi (Zze ?_))
 exact ⟨(),trivial,by unfold zeroF;rw [if_pos h6];rfl,Lh⟩
 refine Zj (Za (Zh (Zi (Zzh ?_))))
 exact ⟨(),trivial,by unfold zeroF;rw [if_neg h6];rfl,Lh⟩
theorem ck_fineR (hS:St B [ckR b f a x s k] w) (at_:Int) :
 CW 191 #[.pointer (some ⟨b,0,none⟩),.int .i64 at_] w (Ret B (fun _:Unit=>True) (fun _=>.int .i64 0) (fun _=>[ckR b f a x s k])):=by
 refine ZX Tryz.func191 hS ?_
 refine Zh (Zi (Zp J (Zn (Za (Zh (Zi (Zzh ?_)))))))
 exact ⟨(),trivial,rfl,Lh⟩
theorem ck_later (hS:St B [ckR b f a x s k] w) (g0:(Kd.int .i64).C B.e a.A0 f.fKinds) (at_:Int) :
 CW 189 #[.pointer (some ⟨b,0,none⟩),.int .i64 at_] w (Ret B (fun _:Unit=>True) (fun _=>.int .i64 (lateF f.fKinds k at_)) (fun _=>[ckR b f a x s k])):=by
 refine ZX Tryz.func189 hS ?_
 refine Zh (Zi (Zp J (Zn (Za (Zh (Zh (Zi (Zo J (Z3 J (Zz (n:=19) (m:=19) J J J (Zld ?_)))))))))))
 (refine ZC0 rfl ZK (fun w hS=>frame hS ZQ (fun B' hB hS'=>sig_Params hS' k)) ?_;rintro ⟨⟩ -)
 refine Zy J J (Zn (Za (wC (fun h10=>?_) (fun h10=>?_))))
 refine Zh (Zi (Zo J (Zo J ?_)))
 (refine ZC0 rfl ZK (fun w hS=>frame hS ZQ (fun B' hB hS'=>ck_nothing hS' _ at_)) ?_;rintro ⟨⟩ -)
 refine Zp J (Zn (Za (Zl (Zzb ?_))))
 exact ⟨(),trivial,by unfold lateF;rw [if_pos h10];rfl,Lh⟩
 refine Zj (Za (Zh (Zi (Zo J (Zo J ?_)))))
 (refine ZC0 rfl ZK (fun w hS=>frame hS ZQ (fun B' hB hS'=>ck_number hS' (Kd.C_grow hB g0) at_)) ?_;rintro ⟨⟩ -)
 refine Zp J (Zza ?_)
 exact ⟨(),trivial,by unfold lateF;rw [if_neg h10];rfl,Lh⟩
theorem ck_answer (hS:St B [ckR b f a x s k] w) (g0:(Kd.int .i64).C B.e a.A0 f.fKinds) (at_:Int) :
 CW 190 #[.pointer (some ⟨b,0,none⟩),.int .i64 at_] w (Ret B (fun _:Unit=>True) (fun _=>.int .i64 (answF f.fKinds f.fClass at_)) (fun _=>[ckR b f a x s k])):=by
 refine ZX Tryz.func190 hS ?_
 refine Zh (Zi (Zp J (Zn (Za (Zh (Zh (Zi (Zo J (Z3 J (Zz (n:=0) (m:=0) J J J (Zz (n:=0) (m:=0) J J J (Zld ?_))))))))))))
 (refine ZC0 rfl ZK (fun w hS=>frame hS ZQ (fun B' hB hS'=>sig_Answers hS' f.fClass)) ?_;rintro ⟨⟩ -)
 refine Zno ?_
 refine Zn (Za (wC (fun h11=>?_) (fun h11=>?_)))
 refine Zh (Zi (Zo J (Zo J ?_)))
 (refine ZC0 rfl ZK (fun w hS=>frame hS ZQ (fun B' hB hS'=>ck_nothing hS' _ at_)) ?_;rintro ⟨⟩ -)
 refine Zp J (Zn (Za (Zl (Zzb ?_))))
 exact ⟨(),trivial,by unfold answF;rw [if_neg (by simpa using h11)];rfl,Lh⟩
 refine Zj (Za (Zh (Zi (Zo J (Zo J ?_)))))
 (refine ZC0 rfl ZK (fun w hS=>frame hS ZQ (fun B' hB hS'=>ck_number hS' (Kd.C_grow hB g0) at_)) ?_;rintro ⟨⟩ -)
 refine Zp J (Zza ?_)
 exact ⟨(),trivial,by unfold answF;rw [if_pos (by simpa using h11)];rfl,Lh⟩
theorem ck_call (hS:St B [ckR b f a x s k] w) (g0:(Kd.int .i64).C B.e a.A0 f.fKinds) (at_:Int) :
 CW 188 #[.pointer (some ⟨b,0,none⟩),.int .i64 at_] w (Ret B (fun _:Unit=>True) (fun _=>.int .i64 (callF f.fKinds k at_)) (fun _=>[ckR b f a x s k])):=by
 have hn:=nCall_in k
 have hml:((List.range (nCall k).toNat).map fun i:Nat=>slotF f.fKinds (IntKind.i64.wrap (at_+(i:Int))) 0).length=(nCall k).toNat:=by simp
 refine ZX Tryz.func188 hS ?_
 refine Zh (Zi (Zp J (Zn (Za (Zh (Zi (Zo J (Z3 J (Zz (n:=19) (m:=19) J J J (Zld ?_))))))))))
 (refine ZC0 rfl ZK (fun w hS=>frame hS ZQ (fun B' hB hS'=>sig_Params hS' k)) ?_;rintro ⟨⟩ -)
 refine Zp J (Zn (Za (Zh (Zh (Zi (Zo J (Zy J J (Zo J (ZS (ZT 15) (fun h15=>?_) (fun h15=>?_))))))))))
 refine Zq J J (Zo J (Zq J J (Z3 J (Zq J J (Zz (n:=19) (m:=19) J J J (Zzi ?_))))))
 refine Zq J J ?_
 (refine ZC0 rfl ZK (fun w hS=>frame hS ZQ (fun B' hB hS'=>sig_Answers hS' k)) ?_;rintro ⟨⟩ -)
 refine Zt J J (Zn (Za (wC (fun h21=>?_) (fun h21=>?_))))
 refine Zi (Zp J (Zn (Za (Zh (Zh (Zi (Zo J ?_)))))))
 refine ZS0 (t:=5) (v':=.int .i64 (nCall k)) J (by unfold nCall;rw [if_pos (by simp_all)]) ?_
 refine ZS0 (t:=22) (v':=.int .i64 (nCall k)) J (by unfold nCall;rw [if_pos (by simp_all)]) ?_
 refine Zy J J (Zn (Za (wC (fun h23=>?_) (fun h23=>?_))))
 refine Zh (Zi (Zo J (Zo J ?_)))
 (refine ZC0 rfl ZK (fun w hS=>frame hS ZQ (fun B' hB hS'=>ck_nothing hS' _ at_)) ?_;rintro ⟨⟩ -)
 refine Zp J (Zn (Za (Zl (Zzb ?_))))
 exact ⟨(),trivial,by unfold callF;rw [if_pos h23];rfl,Lh⟩
 have h23:=h23
 refine Zj (Za (Zh (Zh (Zi (Zo J (Zo J (Zn (Za (Zk (wLoop (ι:=Nat) (fun i=>[(0,.pointer (some ⟨b,0,none⟩)),(1,.int .i64 at_),(27,.int .i64 (nCall k)),(28,.int .i64 (i:Int))]) (fun i=>[ckR b f a x s k]) (fun i=>i≤(nCall k).toNat∧fstE (((List.range (nCall k).toNat).map fun i:Nat=>slotF f.fKinds (IntKind.i64.wrap (at_+(i:Int))) 0).take i)=0) (fun i=>(nCall k).toNat-i) 0 ?_ cv (Leads.has ZQ) ?_))))))))))
 exact ⟨Nat.zero_le _,rfl⟩
 rintro i ⟨hi,hs⟩
 try dsimp only
 refine Zh (Zi (Zx J J (Zn (Za (Zh (wC (fun h29=>?_) (fun h29=>?_)))))))
 have hxe:((List.range (nCall k).toNat).map fun i:Nat=>slotF f.fKinds (IntKind.i64.wrap (at_+(i:Int))) 0)[i]?=some (slotF f.fKinds (IntKind.i64.wrap (at_+(i:Int))) 0):=by rw [List.getElem?_map,List.getElem?_range ZO];rfl
 refine Zj (Za (Zh (Zk (Zh (Zi (Zo J (Zp J (Zn (Za (Zh (Zi (Zo J (Zo J (Zo J (oAddW J J ?_)))))))))))))))
 (refine ZC0 rfl ZK (fun w hS=>frame hS ZQ (fun B' hB hS'=>ck_number hS' (Kd.C_grow hB g0) (IntKind.i64.wrap (at_+(i:Int))))) ?_;rintro ⟨⟩ -)
 refine Zp J (Zn (Za (Zh (Zi (Zo J (Z0 J J (Zn (Za (wC (fun h37=>?_) (fun h37=>?_))))))))))
 refine Zh (Zi (Zo J (Zzc ?_)))
 exact ⟨(),trivial,by unfold callF;rw [if_neg h23,fstE_stop hs hxe h37];rfl,Lh⟩
 refine Zj (Zzg ?_)
 refine Zo J (Zn (Za ?_))
 exact ⟨rfl,i+1,⟨by omega,fstE_next hs hxe (Classical.not_not.1 h37)⟩,by omega,cv,Lh⟩
 refine Zm (Zzf ?_)
 obtain rfl:i=(nCall k).toNat:=by omega
 rw [List.take_of_length_le (by rw [hml];exact Nat.le_refl _)] at hs
 exact ⟨(),trivial,by unfold callF;rw [if_neg h23,hs];rfl,Lh⟩
 refine Zj (Za (Zh (Zh (Zi (Zo J ?_)))))
 refine ZS0 (t:=5) (v':=.int .i64 (nCall k)) J (by unfold nCall;rw [if_neg (by simp_all)]) ?_
 refine ZS0 (t:=22) (v':=.int .i64 (nCall k)) J (by unfold nCall;rw [if_neg (by simp_all)]) ?_
 refine Zy J J (Zn (Za (wC (fun h23=>?_) (fun h23=>?_))))
 refine Zh (Zi (Zo J (Zo J ?_)))
 (refine ZC0 rfl ZK (fun w hS=>frame hS ZQ (fun B' hB hS'=>ck_nothing hS' _ at_)) ?_;rintro ⟨⟩ -)
 refine Zp J (Zn (Za (Zl (Zzb ?_))))
 exact ⟨(),trivial,by unfold callF;rw [if_pos h23];rfl,Lh⟩
 have h23:=h23
 refine Zj (Za (Zh (Zh (Zi (Zo J (Zo J (Zn (Za (Zk (wLoop (ι:=Nat) (fun i=>[(0,.pointer (some ⟨b,0,none⟩)),(1,.int .i64 at_),(27,.int .i64 (nCall k)),(28,.int .i64 (i:Int))]) (fun i=>[ckR b f a x s k]) (fun i=>i≤(nCall k).toNat∧fstE (((List.range (nCall k).toNat).map fun i:Nat=>slotF f.fKinds (IntKind.i64.wrap (at_+(i:Int))) 0).take i)=0) (fun i=>(nCall k).toNat-i) 0 ?_ cv (Leads.has ZQ) ?_))))))))))
 exact ⟨Nat.zero_le _,rfl⟩
 rintro i ⟨hi,hs⟩
 try dsimp only
 refine Zh (Zi (Zx J J (Zn (Za (Zh (wC (fun h29=>?_) (fun h29=>?_)))))))
 have hxe:((List.range (nCall k).toNat).map fun i:Nat=>slotF f.fKinds (IntKind.i64.wrap (at_+(i:Int))) 0)[i]?=some (slotF f.fKinds (IntKind.i64.wrap (at_+(i:Int))) 0):=by rw [List.getElem?_map,List.getElem?_range ZO];rfl
 refine Zj (Za (Zh (Zk (Zh (Zi (Zo J (Zp J (Zn (Za (Zh (Zi (Zo J (Zo J (Zo J (oAddW J J ?_)))))))))))))))
 (refine ZC0 rfl ZK (fun w hS=>frame hS ZQ (fun B' hB hS'=>ck_number hS' (Kd.C_grow hB g0) (IntKind.i64.wrap (at_+(i:Int))))) ?_;rintro ⟨⟩ -)
 refine Zp J (Zn (Za (Zh (Zi (Zo J (Z0 J J (Zn (Za (wC (fun h37=>?_) (fun h37=>?_))))))))))
 refine Zh (Zi (Zo J (Zzc ?_)))
 exact ⟨(),trivial,by unfold callF;rw [if_neg h23,fstE_stop hs hxe h37];rfl,Lh⟩
 refine Zj (Zzg ?_)
 refine Zo J (Zn (Za ?_))
 exact ⟨rfl,i+1,⟨by omega,fstE_next hs hxe (Classical.not_not.1 h37)⟩,by omega,cv,Lh⟩
 refine Zm (Zzf ?_)
 obtain rfl:i=(nCall k).toNat:=by omega
 rw [List.take_of_length_le (by rw [hml];exact Nat.le_refl _)] at hs
 exact ⟨(),trivial,by unfold callF;rw [if_neg h23,hs];rfl,Lh⟩
 refine Zr J J J J (Zr J J J J (Zr J J J J (Zr J J J J (Zr J J J J (Zu J J (Zn (Za (wCondF J (Zj (Za (Zh (Zh (Zi (Zo J ?_))))))))))))))
 refine ZS0 (t:=5) (v':=.int .i64 (nCall k)) J (by unfold nCall;rw [if_neg (by simp_all)]) ?_
 refine ZS0 (t:=22) (v':=.int .i64 (nCall k)) J (by unfold nCall;rw [if_neg (by simp_all)]) ?_
 refine Zy J J (Zn (Za (wC (fun h23=>?_) (fun h23=>?_))))
 refine Zh (Zi (Zo J (Zo J ?_)))
 (refine ZC0 rfl ZK (fun w hS=>frame hS ZQ (fun B' hB hS'=>ck_nothing hS' _ at_)) ?_;rintro ⟨⟩ -)
 refine Zp J (Zn (Za (Zl (Zzb ?_))))
 exact ⟨(),trivial,by unfold callF;rw [if_pos h23];rfl,Lh⟩
 have h23:=h23
 refine Zj (Za (Zh (Zh (Zi (Zo J (Zo J (Zn (Za (Zk (wLoop (ι:=Nat) (fun i=>[(0,.pointer (some ⟨b,0,none⟩)),(1,.int .i64 at_),(27,.int .i64 (nCall k)),(28,.int .i64 (i:Int))]) (fun i=>[ckR b f a x s k]) (fun i=>i≤(nCall k).toNat∧fstE (((List.range (nCall k).toNat).map fun i:Nat=>slotF f.fKinds (IntKind.i64.wrap (at_+(i:Int))) 0).take i)=0) (fun i=>(nCall k).toNat-i) 0 ?_ cv (Leads.has ZQ) ?_))))))))))
 exact ⟨Nat.zero_le _,rfl⟩
 rintro i ⟨hi,hs⟩
 try dsimp only
 refine Zh (Zi (Zx J J (Zn (Za (Zh (wC (fun h29=>?_) (fun h29=>?_)))))))
 have hxe:((List.range (nCall k).toNat).map fun i:Nat=>slotF f.fKinds (IntKind.i64.wrap (at_+(i:Int))) 0)[i]?=some (slotF f.fKinds (IntKind.i64.wrap (at_+(i:Int))) 0):=by rw [List.getElem?_map,List.getElem?_range ZO];rfl
 refine Zj (Za (Zh (Zk (Zh (Zi (Zo J (Zp J (Zn (Za (Zh (Zi (Zo J (Zo J (Zo J (oAddW J J ?_)))))))))))))))
 (refine ZC0 rfl ZK (fun w hS=>frame hS ZQ (fun B' hB hS'=>ck_number hS' (Kd.C_grow hB g0) (IntKind.i64.wrap (at_+(i:Int))))) ?_;rintro ⟨⟩ -)
 refine Zp J (Zn (Za (Zh (Zi (Zo J (Z0 J J (Zn (Za (wC (fun h37=>?_) (fun h37=>?_))))))))))
 refine Zh (Zi (Zo J (Zzc ?_)))
 exact ⟨(),trivial,by unfold callF;rw [if_neg h23,fstE_stop hs hxe h37];rfl,Lh⟩
 refine Zj (Zzg ?_)
 refine Zo J (Zn (Za ?_))
 exact ⟨rfl,i+1,⟨by omega,fstE_next hs hxe (Classical.not_not.1 h37)⟩,by omega,cv,Lh⟩
 refine Zm (Zzf ?_)
 obtain rfl:i=(nCall k).toNat:=by omega
 rw [List.take_of_length_le (by rw [hml];exact Nat.le_refl _)] at hs
 exact ⟨(),trivial,by unfold callF;rw [if_neg h23,hs];rfl,Lh⟩
end
def kLook:Kd (ByteArray×Nat) where
  sz:=2
  K:=fun _ x cs=>cs=[.string x.1,.func (.func x.2) #[] #[]]
  K_len:=by rintro w x cs rfl;rfl
  K_one:=by
    rintro w x cs rfl u hu
    rcases List.mem_cons.1 hu with rfl | hu
    · rfl
    · obtain rfl:=List.mem_singleton.1 hu;rfl
  K_grow:=fun _ h=>h
def looksL:List (ByteArray×Nat):=[(⟨#[119,114]⟩,186),(⟨#[103,102]⟩,187),(⟨#[99]⟩,188),(⟨#[100]⟩,189),(⟨#[118]⟩,190),(⟨#[116,110,107,45]⟩,191)]
abbrev looksC:List Value:=[.string ⟨#[119,114]⟩,.func (.func 186) #[] #[],.string ⟨#[103,102]⟩,.func (.func 187) #[] #[],.string ⟨#[99]⟩,.func (.func 188) #[] #[],.string ⟨#[100]⟩,.func (.func 189) #[] #[],.string ⟨#[118]⟩,.func (.func 190) #[] #[],.string ⟨#[116,110,107,45]⟩,.func (.func 191) #[] #[]]
theorem cat_looks (w:World):Cat kLook w looksL looksC:=⟨[_,_],_,rfl,rfl,[_,_],_,rfl,rfl,[_,_],_,rfl,rfl,[_,_],_,rfl,rfl,[_,_],_,rfl,rfl,[_,_],_,rfl,rfl,rfl⟩
theorem verify_looks {B:Base}{w:World}(hS:St B [] w) :
 CW 165 #[] w (Ret B (fun _:Nat=>True) (fun b=>.slice (some ⟨b,0,none⟩) 6 6) (fun b=>[blk b 194 looksC])):=by
 refine ZX Tryz.func165 hS ?_
 refine Zh (Zi (Zp J (Zn (Za (Zh (Zi (oBuild (Parts.cons J (Parts.cons J Parts.nil)) J J (Built.cons (off:=0) (s:=1) J ZP J ZP (Built.cons (off:=1) (s:=1) J ZP J ZP Built.nil)) ?_)))))))
 refine oBuild (Parts.cons J (Parts.cons J Parts.nil)) J J (Built.cons (off:=0) (s:=1) J ZP J ZP (Built.cons (off:=1) (s:=1) J ZP J ZP Built.nil)) ?_
 refine oBuild (Parts.cons J (Parts.cons J Parts.nil)) J J (Built.cons (off:=0) (s:=1) J ZP J ZP (Built.cons (off:=1) (s:=1) J ZP J ZP Built.nil)) ?_
 refine oBuild (Parts.cons J (Parts.cons J Parts.nil)) J J (Built.cons (off:=0) (s:=1) J ZP J ZP (Built.cons (off:=1) (s:=1) J ZP J ZP Built.nil)) ?_
 refine oBuild (Parts.cons J (Parts.cons J Parts.nil)) J J (Built.cons (off:=0) (s:=1) J ZP J ZP (Built.cons (off:=1) (s:=1) J ZP J ZP Built.nil)) ?_
 refine oBuild (Parts.cons J (Parts.cons J Parts.nil)) J J (Built.cons (off:=0) (s:=1) J ZP J ZP (Built.cons (off:=1) (s:=1) J ZP J ZP Built.nil)) ?_
 refine oBuildSliceF (Parts.cons J (Parts.cons J (Parts.cons J (Parts.cons J (Parts.cons J (Parts.cons J Parts.nil)))))) J J J J J (Fulls.cons ZP J (Fulls.cons ZP J (Fulls.cons ZP J (Fulls.cons ZP J (Fulls.cons ZP J (Fulls.cons ZP J Fulls.nil ap) ap) ap) ap) ap) ap) (fun b7=>?_)
 refine Zp J (Zza ?_)
 exact ⟨b7,trivial,rfl,Lh⟩
def lookV (f:ApiFunc) (k n:Int) (j:Nat):Int:=[slotF f.fKinds n 0,slotF f.fKinds n (IntKind.i64.wrap (1+k)),callF f.fKinds k n,lateF f.fKinds k n,answF f.fKinds f.fClass n,0].getD j 0
theorem look_any {B:Base}{w:World}{b:Nat}{f:ApiFunc}{a:FunA}{x:ApiInstr}{s:ApiSymbol}{k:Int}(hS:St B [ckR b f a x s k] w) (g0:(Kd.int .i64).C B.e a.A0 f.fKinds) (n:Int) (j:Nat) (lk:ByteArray×Nat) (hj:looksL[j]?=some lk) :
    CW lk.2 #[.pointer (some ⟨b,0,none⟩),.int .i64 n] w (Ret B (fun _:Unit=>True) (fun _=>.int .i64 (lookV f k n j)) (fun _=>[ckR b f a x s k])):=by
  match j,hj with
  | 0,hj=>obtain rfl:=Option.some.inj hj;exact ck_number hS g0 n
  | 1,hj=>obtain rfl:=Option.some.inj hj;exact ck_function hS g0 n
  | 2,hj=>obtain rfl:=Option.some.inj hj;exact ck_call hS g0 n
  | 3,hj=>obtain rfl:=Option.some.inj hj;exact ck_later hS g0 n
  | 4,hj=>obtain rfl:=Option.some.inj hj;exact ck_answer hS g0 n
  | 5,hj=>obtain rfl:=Option.some.inj hj;exact ck_fineR hS n
  | j+6,hj=>cases hj
theorem look_good0:goodF Tryz.prog 186=true:=by kernel_rfl
theorem look_good1:goodF Tryz.prog 187=true:=by kernel_rfl
theorem look_good2:goodF Tryz.prog 188=true:=by kernel_rfl
theorem look_good3:goodF Tryz.prog 189=true:=by kernel_rfl
theorem look_good4:goodF Tryz.prog 190=true:=by kernel_rfl
theorem look_good5:goodF Tryz.prog 191=true:=by kernel_rfl
theorem look_good (j:Nat) (lk:ByteArray×Nat) (hj:looksL[j]?=some lk):goodF Tryz.prog lk.2=true:=by
  match j,hj with
  | 0,hj=>obtain rfl:=Option.some.inj hj;exact look_good0
  | 1,hj=>obtain rfl:=Option.some.inj hj;exact look_good1
  | 2,hj=>obtain rfl:=Option.some.inj hj;exact look_good2
  | 3,hj=>obtain rfl:=Option.some.inj hj;exact look_good3
  | 4,hj=>obtain rfl:=Option.some.inj hj;exact look_good4
  | 5,hj=>obtain rfl:=Option.some.inj hj;exact look_good5
  | j+6,hj=>cases hj
theorem index_rune {B:Base}{w:World}(hS:St B [] w) (l:List Int) (A:Option Addr) (cp:Nat) (hC:(Kd.int .i32).C B.e A l) (v:Int) :
 CW 193 #[.slice A l.length cp,.int .i32 v] w (Ret B (fun _:Unit=>True) (fun _=>.int .i64 (idxI (fun y=>decide (v=y)) l)) (fun _=>[])):=by
 have hl:=hC.1
 refine ZX Tryz.func193 hS ?_
 refine Zh (Zi (Zp J (Zn (Za (Zh (Zh (Zi (Zo J (Zv J J (Zo J (Zn (Za (Zk (wLoop (ι:=Nat) (fun i=>[(0,.slice A l.length cp),(1,.int .i32 v),(7,.int .i64 (l.length:Int)),(8,.int .i64 (i:Int))]) (fun i=>[]) (fun i=>i≤l.length∧∀ y ∈ l.take i,decide (v=y)=false) (fun i=>l.length-i) 0 ?_ cv (Leads.has ZQ) ?_))))))))))))))
 exact ⟨Nat.zero_le _,by simp⟩
 rintro i ⟨hi,hs⟩
 try dsimp only
 refine Zh (Zi (Zx J J (Zn (Za (Zh (wC (fun h9=>?_) (fun h9=>?_)))))))
 refine Zj (Za (Zh (Zk (Zh (Zi (Zo J (Zp J (Zn (Za (Zh (Zi (Zo J (Zo J (Zo J (oIdx J J (hC) J ZO J J (fun e14 u14 cs14 hu14 hk14 hc14=>?_))))))))))))))))
 obtain rfl:=hk14
 refine Zlx hc14 ?_
 refine Zy J J (Zn (Za (wC (fun h16=>?_) (fun h16=>?_))))
 refine Zh (Zi (Zo J (Zzc ?_)))
 exact ⟨(),trivial,by rw [idxI_stop (p:=fun y:Int=>decide (v=y)) hs hu14 (decide_eq_true h16)];rfl,Lh⟩
 refine Zj (Zzg ?_)
 refine Zo J (Zn (Za ?_))
 exact ⟨rfl,i+1,⟨by omega,take_not (p:=fun y:Int=>decide (v=y)) hs hu14 (decide_eq_false h16)⟩,by omega,cv,Lh⟩
 refine Zm (Zzf ?_)
 obtain rfl:i=l.length:=by omega
 rw [List.take_length] at hs
 exact ⟨(),trivial,by rw [idxI_none (p:=fun y:Int=>decide (v=y)) hs];rfl,Lh⟩
theorem contains_rune {B:Base}{w:World}(hS:St B [] w) (l:List Int) (A:Option Addr) (cp:Nat) (hC:(Kd.int .i32).C B.e A l) (v:Int) :
 CW 167 #[.slice A l.length cp,.int .i32 v] w (Ret B (fun _:Unit=>True) (fun _=>.bool (l.any fun y=>decide (v=y))) (fun _=>[])):=by
 refine ZX Tryz.func167 hS ?_
 refine Zh (Zi (Zp J (Zn (Za (Zh (Zi (Zo J (Zo J ?_))))))))
 (refine ZC0 rfl ZK (fun w hS=>frame hS ZQ (fun B' hB hS'=>index_rune hS' l A cp (Kd.C_grow hB hC) v)) ?_;rintro ⟨⟩ -)
 refine Z2 J J (Zzh ?_)
 exact ⟨(),trivial,by show Value.bool (decide (0≤idxI (fun y:Int=>decide (v=y)) l))=_;congr 1;rw [Bool.eq_iff_iff,decide_eq_true_eq];exact idxI_iff,Lh⟩
def hasL (j:Nat) (letter:Int):Bool:=(runesL (looksL.getD j (ByteArray.empty,0)).1).any fun y=>decide (letter=y)
def lookE (f:ApiFunc) (k letter n:Int) (j:Nat):Int:=if hasL j letter then lookV f k n j else 0
def letE (f:ApiFunc) (k letter n:Int):Int:=fstE ((List.range 6).map (lookE f k letter n))
def opsE (f:ApiFunc) (x:ApiInstr) (k:Int) (i:Nat):Int:=letE f k (byteAt (shapeF x.fOp) i) (opdF x i)
def operF (f:ApiFunc) (x:ApiInstr) (k:Int):Int:=fstE ((List.range (shapeF x.fOp).size).map (opsE f x k))
theorem rmap_at {n i:Nat}{e:Nat→Int}(h:i<n):((List.range n).map e)[i]?=some (e i):=by rw [List.getElem?_map,List.getElem?_range h];rfl
theorem rmap_all {n:Nat}{e:Nat→Int} : ((List.range n).map e).take n=(List.range n).map e:=List.take_of_length_le (by simp)
theorem looks_ok:∀ j,j<6→Asc (looksL.getD j (ByteArray.empty,0)).1∧(looksL.getD j (ByteArray.empty,0)).1.size≤4:=by
 intro j hj
 have h1:∀ j,j<6→(looksL.getD j (ByteArray.empty,0)).1.size≤4:=by decide
 have h2:∀ j,j<6→∀ i,i<4→byteAt (looksL.getD j (ByteArray.empty,0)).1 i<128:=by decide
 exact ⟨fun i hi=>h2 j hj i (by have:=h1 j hj;omega),h1 j hj⟩
theorem ck_operands {B:Base}{w:World}{b:Nat}{f:ApiFunc}{a:FunA}{x:ApiInstr}{s:ApiSymbol}{k:Int}(hS:St B [ckR b f a x s k] w) (g0:(Kd.int .i64).C B.e a.A0 f.fKinds) :
 CW 141 #[.pointer (some ⟨b,0,none⟩)] w (Ret B (fun _:Unit=>True) (fun _=>.int .i64 (operF f x k)) (fun _=>[ckR b f a x s k])):=by
 have hsz:=shapeF_size x.fOp
 have hs4:(shapeF x.fOp).size≤4:=by rw [hsz];split <;> omega
 have hasc:=shapeF_asc x.fOp
 refine ZX Tryz.func141 hS ?_
 refine Zh (Zi (Zp J (Zn (Za (Zh (Zi ?_))))))
 (refine ZC0 rfl ZK (fun w hS=>frame hS ZQ (fun B' hB hS'=>verify_looks hS')) ?_;rintro b9 -)
 refine Zp J (Zn (Za (wFreeze [blk b9 194 looksC] ZQ (fun B1 hB1 hq1=>?_))))
 have hCl:kLook.C B1.e (some ⟨b9,0,none⟩) looksL:=C_blk (hq1 _ _ ZP) (by decide) (cat_looks _)
 have g0:=Kd.C_grow hB1 g0
 refine Zh (Zh (Zi (Zo J (Z3 J (Zz (n:=9) (m:=9) J J J (Zz (n:=0) (m:=9) J J J (Zld ?_)))))))
 (refine ZC0 rfl ZK (fun w hS=>frame hS ZQ (fun B' hB hS'=>op_Shape hS' x.fOp)) ?_;rintro ⟨⟩ -)
 refine oRangeStr J J (fun b16=>?_)
 refine Zn (Za (Zk (wLoop (ι:=Nat) (fun i=>[(0,.pointer (some ⟨b,0,none⟩)),(3,.slice (some ⟨b9,0,none⟩) 6 6),(16,.pointer (some ⟨b16,0,none⟩))]) (fun i=>[ckR b f a x s k,ob b16 (.stringIter (shapeF x.fOp) i)]) (fun i=>i≤(shapeF x.fOp).size∧fstE (((List.range (shapeF x.fOp).size).map (opsE f x k)).take i)=0) (fun i=>(shapeF x.fOp).size-i) 0 ?_ cv (Leads.has ZQ) ?_)))
 exact ⟨Nat.zero_le _,rfl⟩
 rintro i ⟨hi,hs⟩
 try dsimp only
 refine Zh (Zi (oNextStr J ZP ?_))
 refine oExtN J (Zn (Za (Zh (wC (fun h18=>?_) (fun h18=>?_)))))
 have hi4:i<(shapeF x.fOp).size:=h18
 have hl:=hasc i hi4
 rw [nextV_T hi4 hl,nextP_T hi4 hl]
 generalize hlet:byteAt (shapeF x.fOp) i=letter at *
 refine Zj (Za (Zk (Zh (Zi (oExt J ZP ?_)))))
 refine oExt J ZP ?_
 refine Zp J (Zp J (Zn (Za (Zh (Zi (Zo J (Zv J J (Zo J (Zn (Za (Zk (wLoop (ι:=Nat) (fun j=>[(0,.pointer (some ⟨b,0,none⟩)),(3,.slice (some ⟨b9,0,none⟩) 6 6),(4,.int .i64 (i:Int)),(5,.int .i32 letter),(16,.pointer (some ⟨b16,0,none⟩)),(21,.slice (some ⟨b9,0,none⟩) 6 6),(22,.int .i64 ((6:Nat):Int)),(23,.int .i64 (j:Int))]) (fun j=>[ckR b f a x s k,ob b16 (.stringIter (shapeF x.fOp) (i+1))]) (fun j=>j≤6∧fstE (((List.range 6).map (lookE f k letter (opdF x i))).take j)=0) (fun j=>6-j) 0 ?_ cv (Leads.has ZQ) ?_))))))))))))
 exact ⟨Nat.zero_le _,rfl⟩
 rintro j ⟨hj,hs2⟩
 try dsimp only
 refine Zh (Zi (Zx J J (Zn (Za (Zh (wC (fun h24=>?_) (fun h24=>?_)))))))
 have hj6:j<6:=by omega
 obtain ⟨lk,hlk⟩:∃ lk,looksL[j]?=some lk:=⟨_,List.getElem?_eq_getElem hj6⟩
 obtain ⟨e1,cs1,hE⟩:=hCl.elm hlk
 obtain rfl:=hE.K
 have hok:=looks_ok j hj6
 have hhas:hasL j letter=(runesL lk.1).any (fun y=>decide (letter=y)):=by unfold hasL;rw [List.getD_eq_getElem?_getD,hlk];rfl
 rw [List.getD_eq_getElem?_getD,hlk] at hok
 refine Zj (Za (Zh (Zk (Zh (Zi (oIdxE J J (hE) ZO J J ?_))))))
 have hc25:=(hE).cell
 refine Zlx hc25 ?_
 refine oAlloc J ZP (fun b7=>?_)
 refine Zsa ?_
 refine Zn (Za (Zh (Zh (Zi (Zz (n:=0) (m:=0) J J J (Zld ?_))))))
 refine oConvRunes (W:=B1.e) (e:=21) J J J J hok.1 (Nat.le_trans hok.2 (by decide)) (fun b29 c29=>?_)
 have hrl:(runesL lk.1).length=lk.1.size:=by simp [runesL]
 refine ZS0 (t:=29) (v':=.slice (some ⟨b29,0,none⟩) (runesL lk.1).length c29) rfl (by rw [hrl]) ?_
 refine Zo J ?_
 (refine ZD J (fun w B' hB hR hS'=>contains_rune hS' (runesL lk.1) (some ⟨b29,0,none⟩) c29 (row_Cs (W:=B1.e) (e:=21) (n:=lk.1.size) (cp:=c29) (hR _ _ ZP)) letter) ?_;rintro ⟨⟩ -)
 refine Zno ?_
 refine Zn (Za (wC (fun h32=>?_) (fun h32=>?_)))
 refine Zm (Zb (Ze (Za (Zi (Zsu ?_)))))
 refine Zo J (Zn (Za ?_))
 exact ⟨rfl,j+1,⟨by omega,fstE_next hs2 (rmap_at hj6) (by unfold lookE;rw [hhas,if_neg (by simpa only [Bool.not_eq_true',Bool.not_eq_true] using h32)])⟩,by omega,cv,Lh⟩
 refine Zj (Za (Zh (wDrawG J [0,1,2,3,7] [(4,[0,1,2,7],[5,6]),(8,[0,1,2],[]),(9,[],[])] [10] 24 ZK J J (fun w0=>?_))))
 refine Zz (n:=1) (m:=1) J J J (Zld ?_)
 refine Zo J (Zo J (Zo J (Z4 (Z5 J (Z3 J (ZG ?_ J (fun w0=>?_)))))))
 refine Z8 J J J J (fun w0=>?_) ?_
 refine Zz (n:=1) (m:=1) J J J ?_
 exact Z9 rfl
 refine Z8 J J J J (fun w0=>?_) ?_
 refine Zld ?_
 exact Z9 rfl
 refine Z8 J J J J (fun w0=>?_) ?_
 refine Zo J ?_
 exact Z9 rfl
 refine Z8 J J J J (fun w0=>?_) ?_
 refine Zo J ?_
 exact Z9 rfl
 exact AgainG.nil
 refine Zz (n:=9) (m:=9) J J J (Zla ?_)
 refine Z4 (Z5 J ?_)
 (refine ZC0 rfl ZK (fun w hS=>frame hS ZQ (fun B' hB hS'=>instr_Operand hS' x _ (kApiInstr_mk _ x) (i:Int))) ?_;rintro ⟨⟩ -)
 refine ZG ?_ J (fun w0=>?_)
 refine Z8 J J J J (fun w0=>?_) ?_
 refine Zz (n:=1) (m:=1) J J J ?_
 exact Z9 rfl
 refine Z8 J J J J (fun w0=>?_) ?_
 refine Zld ?_
 exact Z9 rfl
 refine Z8 J J J J (fun w0=>?_) ?_
 refine Zo J ?_
 exact Z9 rfl
 exact AgainG.nil
 refine Z4 (Z5 J ?_)
 (refine oCallV rfl rfl rfl (look_good j lk hlk) (fun w hS=>frame hS ZQ (fun B' hB hS'=>look_any (a:=a) hS' (Kd.C_grow hB g0) (opdF x i) j lk hlk)) ?_;rintro ⟨⟩ -)
 refine ZG ?_ J (fun w0=>?_)
 exact AgainG.nil
 refine Z6 (Zp J (Zn (Za (Zh (Zi (Zo J (Z0 J J (Zn (Za (wC (fun h44=>?_) (fun h44=>?_)))))))))))
 refine Zh (Zi (Zo J (Zp J (Zn (Za (Zl (Zf (Zc (Zc (Zf (Zf (Zc (Zf (Zzb ?_))))))))))))))
 exact ⟨(),trivial,by
 have hle:letE f k (byteAt (shapeF x.fOp) i) (opdF x i)=lookV f k (opdF x i) j:=by rw [hlet];unfold letE;rw [fstE_stop hs2 (rmap_at hj6) (by unfold lookE;rw [hhas,if_pos (by simpa only [Bool.not_eq_false'] using h32)];exact h44)];unfold lookE;rw [hhas,if_pos (by simpa only [Bool.not_eq_false'] using h32)]
 unfold operF
 rw [fstE_stop hs (rmap_at hi4) (by unfold opsE;rw [hle];exact h44)]
 unfold opsE
 rw [hle];rfl,Lh⟩
 refine Zj (Zzg ?_)
 refine Zo J (Zn (Za ?_))
 exact ⟨rfl,j+1,⟨by omega,fstE_next hs2 (rmap_at hj6) (by unfold lookE;rw [hhas,if_pos (by simpa only [Bool.not_eq_false'] using h32)];exact Classical.not_not.1 h44)⟩,by omega,cv,Lh⟩
 obtain rfl:j=6:=by omega
 rw [rmap_all] at hs2
 have hs2:opsE f x k i=0:=by unfold opsE letE;rw [hlet];exact hs2
 refine Zm (Zb (Zb (Ze (Zd (Za ?_)))))
 exact ⟨rfl,i+1,⟨by omega,fstE_next hs (rmap_at hi4) hs2⟩,by omega,cv,Lh⟩
 refine Zm (Zzf ?_)
 obtain rfl:i=(shapeF x.fOp).size:=by omega
 rw [rmap_all] at hs
 exact ⟨(),trivial,by unfold operF;rw [hs];rfl,Lh⟩
def fitsF (need:Int) (s:ApiSymbol):Bool:=if need=3 then decide (s.fSort=2) && decide (s.fKind=0) else if need=4 then decide (s.fSort=2) && isC (IntKind.i64.wrap (s.fKind-1)) else decide (s.fSort=1)
theorem verify_fits {B:Base}{w:World}(hS:St B [] w) (need:Int) (s:ApiSymbol) (sc:List Value) (hs:kApiSymbol.K B.e s sc) :
 CW 163 #[.int .i64 need,.agg sc.toArray] w (Ret B (fun _:Unit=>True) (fun _=>.bool (fitsF need s)) (fun _=>[])):=by
 obtain rfl:=kApiSymbol_open hs
 refine ZX Tryz.func163 hS ?_
 refine Zh (Zi (oBox J ZP (fun b3=>?_)))
 refine Zp J (Zn (Za (Zh (Zh (Zi (Zo J (Zn (Za (Zk (Zh (Zi (Zy J J (Zp J (Zn (Za (wC (fun h8=>?_) (fun h8=>?_)))))))))))))))))
 refine Zh (Zi (Zz (n:=2) (m:=2) J J J (Zld ?_)))
 refine Zy J J (Zo J (ZS (ZT 13) (fun h13=>?_) (fun h13=>?_)))
 refine Zq J J (Zz (n:=3) (m:=3) J J J (Zzi ?_))
 refine Zq J J (Zy J J (Zt J J (Zzd ?_)))
 exact ⟨(),trivial,by simp_all [resVal,fitsF],Lh⟩
 refine Zr J J J J (Zr J J J J (Zr J J J J (Zu J J (Zzd ?_))))
 exact ⟨(),trivial,by simp_all [resVal,fitsF],Lh⟩
 refine Zh (Zi (Zy J J (Zp J (Zn (Za (wC (fun h18=>?_) (fun h18=>?_)))))))
 refine Zh (Zi (Zz (n:=3) (m:=3) J J J (Zld ?_)))
 (refine ZC0 rfl ZK (fun w hS=>frame hS ZQ (fun B' hB hS'=>sig_Class hS' s.fKind)) ?_;rintro ⟨⟩ -)
 refine Zo J (oExt J ZP ?_)
 refine oExt J ZP ?_
 refine Zp J (Zp J (Zn (Za (Zh (Zi (Zz (n:=2) (m:=2) J J J (Zld ?_)))))))
 refine Zy J J (Zo J (ZS (ZT 29) (fun h29=>?_) (fun h29=>?_)))
 refine Zq J J (Zo J (Zt J J (Zzd ?_)))
 exact ⟨(),trivial,by simp_all [resVal,fitsF],Lh⟩
 refine Zr J J J J (Zu J J (Zzd ?_))
 exact ⟨(),trivial,by simp_all [resVal,fitsF],Lh⟩
 refine Zj (Zd (Za (Zh (Zi (Zz (n:=2) (m:=2) J J J (Zld ?_))))))
 refine Zy J J (Zzh ?_)
 exact ⟨(),trivial,by simp_all [resVal,fitsF],Lh⟩
abbrev atR (i:Int) (r:ApiReloc):Bool:=decide (r.fAt=i)
def markF (f:ApiFunc) (i:Int):Int:=idxI (atR i) f.fRelocs
def symF (f:ApiFunc) (i:Int):Int:=if markF f i<0 then -1 else (f.fRelocs.getD (markF f i).toNat default).fSym
theorem indexFunc_rel {B:Base}{w:World}{R:Res}(hS:St B [R] w) (l:List ApiReloc) (A:Option Addr) (cp:Nat) (hC:kApiReloc.C B.e A l) (gf:Nat) (lb:Array Value) (p:ApiReloc→Bool) (hg:goodF Tryz.prog gf=true)
 (hh:∀ B' w (x:ApiReloc),Grow B.e B'.e→St B' [R] w→CW gf (#[]++[Value.agg #[.int .i64 x.fAt,.int .i64 x.fSym,.bool x.fWide]].toArray++lb) w (Ret B' (fun _:Unit=>True) (fun _=>.bool (p x)) (fun _=>[R]))) :
 CW 125 #[.slice A l.length cp,.func (.func gf) #[] lb] w (Ret B (fun _:Unit=>True) (fun _=>.int .i64 (idxI p l)) (fun _=>[R])):=by
 have hl:=hC.1
 refine ZX Tryz.func125 hS ?_
 refine Zh (Zi (Zp J (Zn (Za (Zh (Zh (Zi (Zo J (Zv J J (Zo J (Zn (Za (Zk (wLoop (ι:=Nat) (fun i=>[(0,.slice A l.length cp),(1,.func (.func gf) #[] lb),(7,.int .i64 (l.length:Int)),(8,.int .i64 (i:Int))]) (fun i=>[R]) (fun i=>i≤l.length∧∀ y ∈ l.take i,p y=false) (fun i=>l.length-i) 0 ?_ cv (Leads.has ZQ) ?_))))))))))))))
 exact ⟨Nat.zero_le _,by simp⟩
 rintro i ⟨hi,hs⟩
 try dsimp only
 refine Zh (Zi (Zx J J (Zn (Za (Zh (wC (fun h9=>?_) (fun h9=>?_)))))))
 obtain ⟨x,hx⟩:∃ x,l[i]?=some x:=⟨_,List.getElem?_eq_getElem ZO⟩
 obtain ⟨e1,cs1,hE⟩:=hC.elm hx
 obtain rfl:=kApiReloc_open hE.K
 refine Zj (Za (Zh (Zk (Zh (Zi (Zo J (Zp J (Zn (Za (Zh (Zi (Zo J (Zo J (Zo J (oIdxE J J (hE) ZO J J ?_)))))))))))))))
 have hc14:=(hE).cell
 refine Zlx hc14 ?_
 (refine oCallV rfl rfl rfl hg (fun w hS=>frame hS ZQ (fun B' hB hS'=>hh B' w x hB hS')) ?_;rintro ⟨⟩ -)
 refine Zn (Za (wC (fun h16=>?_) (fun h16=>?_)))
 refine Zh (Zi (Zo J (Zzc ?_)))
 exact ⟨(),trivial,by rw [idxI_stop hs hx (by simpa using h16)];rfl,Lh⟩
 refine Zj (Zzg ?_)
 refine Zo J (Zn (Za ?_))
 exact ⟨rfl,i+1,⟨by omega,take_not hs hx (by simpa using h16)⟩,by omega,cv,Lh⟩
 refine Zm (Zzf ?_)
 obtain rfl:i=l.length:=by omega
 rw [List.take_length] at hs
 exact ⟨(),trivial,by rw [idxI_none hs];rfl,Lh⟩
theorem mark1 {B:Base}{w:World}{b1:Nat}{i:Int}(hS:St B [blk b1 3 [.int .i64 i]] w) (x:ApiReloc) :
 CW 126 #[.agg #[.int .i64 x.fAt,.int .i64 x.fSym,.bool x.fWide],.pointer (some ⟨b1,0,none⟩)] w (Ret B (fun _:Unit=>True) (fun _=>.bool (atR i x)) (fun _=>[blk b1 3 [.int .i64 i]])):=by
 refine ZX Tryz.func126 hS ?_
 refine Zh (Zi (oBox J ZP (fun b2=>?_)))
 refine Zp J (Zn (Za (Zh (Zi (Zz (n:=0) (m:=0) J J J (Zld ?_))))))
 refine Zld ?_
 refine Zy J J (Zzh ?_)
 exact ⟨(),trivial,rfl,Lh⟩
theorem verify_mark {B:Base}{w:World}(hS:St B [] w) (f:ApiFunc) (fc:List Value) (hf:kApiFunc.K B.e f fc) (i:Int) :
 CW 95 #[.agg fc.toArray,.int .i64 i] w (Ret B (fun _:Unit=>True) (fun _=>.int .i64 (markF f i)) (fun _=>[])):=by
 obtain ⟨A0,c0,A1,c1,A2,c2,A3,c3,rfl,l0,g0,l1,g1,l2,g2,l3,g3⟩:=kApiFunc_open hf
 refine ZX Tryz.func95 hS ?_
 refine Zh (Zi (oBox J ZP (fun b2=>?_)))
 refine oBox J ZP (fun b3=>?_)
 refine Zp J (Zn (Za (Zh (Zi (Zz (n:=8) (m:=8) J J J (Zld ?_))))))
 refine oMakeFunc J ?_
 (refine ZC0 rfl ZK (fun w hS=>frame hS ZQ (fun B' hB hS'=>indexFunc_rel hS' f.fRelocs A3 c3 (Kd.C_grow hB g3) _ _ (atR i) ZK (fun B2 w2 x hB2 hS2=>mark1 hS2 x))) ?_;rintro ⟨⟩ -)
 refine Zp J (Zza ?_)
 exact ⟨(),trivial,rfl,Lh⟩
theorem mark_at {f:ApiFunc}{i:Int}(h:0≤markF f i):∃ (m:Nat) (r:ApiReloc),markF f i=(m:Int)∧f.fRelocs[m]?=some r∧symF f i=r.fSym:=by
 obtain ⟨m,r,hm,hr,_⟩:=idxI_at h
 refine ⟨m,r,hm,hr,?_⟩
 unfold symF
 rw [if_neg ZO,show markF f i=(m:Int) from hm,Int.toNat_natCast,List.getD_eq_getElem?_getD,hr];rfl
def symAtF (f:ApiFunc) (l:List ApiSymbol) (i:Int):ApiSymbol:=l.getD (symF f i).toNat default
def codeAt (f:ApiFunc) (i:Int):ApiInstr:=f.fCode.getD i.toNat default
def refE (f:ApiFunc) (l:List ApiSymbol) (i:Int):Int:=if needF (codeAt f i).fOp=0∧markF f i<0 then 0 else if needF (codeAt f i).fOp=0∨markF f i<0∨symF f i<0∨(l.length:Int)≤symF f i then 11 else if fitsF (needF (codeAt f i).fOp) (symAtF f l i) then 0 else 8
def refS (f:ApiFunc) (l:List ApiSymbol) (i:Int):ApiSymbol:=if needF (codeAt f i).fOp=0∨refE f l i≠0 then default else symAtF f l i
theorem verify_refers {B:Base}{w:World}(hS:St B [] w) (f:ApiFunc) (fc:List Value) (hf:kApiFunc.K B.e f fc) (Al:Option Addr) (cl:Nat) (l:List ApiSymbol) (hl:kApiSymbol.C B.e Al l) (i:Nat) (hi:i<f.fCode.length) :
 CW 139 #[.agg fc.toArray,.slice Al l.length cl,.int .i64 (i:Int)] w (Ret B (fun _:Unit=>True) (fun _=>.tuple #[.agg (symL (refS f l i)).toArray,.int .i64 (refE f l i)]) (fun _=>[])):=by
 obtain ⟨A0,c0,A1,c1,A2,c2,A3,c3,rfl,l0,g0,l1,g1,l2,g2,l3,g3⟩:=kApiFunc_open hf
 obtain ⟨x,hx⟩:∃ x,f.fCode[i]?=some x:=⟨_,List.getElem?_eq_getElem hi⟩
 have hca:codeAt f (i:Int)=x:=by unfold codeAt;rw [Int.toNat_natCast,List.getD_eq_getElem?_getD,hx];rfl
 obtain ⟨e0,cs0,hE0⟩:=g2.elm hx
 obtain rfl:=kApiInstr_open hE0.K
 generalize hne:needF x.fOp=need
 refine ZX Tryz.func139 hS ?_
 refine Zh (Zi (oBox J ZP (fun b3=>?_)))
 refine oAlloc J ZP (fun b6=>?_)
 refine Zp J (Zn (Za (Zh (wDrawG J [0,1,2,3,4,5,7,8] [(6,[7,8],[]),(9,[],[])] [10,11] 24 ZK J J (fun w0=>?_)))))
 refine Zz (n:=7) (m:=7) J J J (Zld ?_)
 refine Zo J (oIdxE J J (hE0) ZO J J ?_)
 have hc14:=(hE0).cell
 refine ZF (ZT 0) (ZT 0) ?_
 refine Zlx hc14 ?_
 refine Zla ?_
 refine Zo J (Z4 (Z5 J ?_))
 (refine ZC0 rfl ZK (fun w hS=>frame hS ZQ (fun B' hB hS'=>op_Need hS' x.fOp)) ?_;rintro ⟨⟩ -)
 rw [hne]
 refine ZG ?_ J (fun w0=>?_)
 refine Z8 J J J J (fun w0=>?_) ?_
 refine Zla ?_
 exact Z9 rfl
 refine Z8 J J J J (fun w0=>?_) ?_
 refine Zo J ?_
 exact Z9 rfl
 exact AgainG.nil
 refine Z4 (Z5 J ?_)
 (refine ZC0 rfl ZK (fun w hS=>frame hS ZQ (fun B' hB hS'=>verify_mark hS' f _ (kApiFunc.K_grow hB hf) (i:Int))) ?_;rintro ⟨⟩ -)
 refine ZG ?_ J (fun w0=>?_)
 exact AgainG.nil
 refine Z6 (Zp J (Zp J (Zn (Za (Zh (Zk (Zh (Zi (Zo J (Zy J J (Zo J (ZS (ZT 24) (fun h24=>?_) (fun h24=>?_)))))))))))))
 refine Zq J J (Zo J (Zq J J (Zx J J (Zt J J (Zp J (Zn (Za (wC (fun h21=>?_) (fun h21=>?_)))))))))
 refine Zh (Zi (oBuild Parts.nil J J Built.nil (Zsa ?_)))
 refine Zp J (Zn (Za (Zl (Zf (Zc (Zw (ZI2 ?_)))))))
 have he:refE f l i=0:=by unfold refE;rw [hca,hne,if_pos ⟨h24,h21⟩]
 have hr:refS f l i=default:=by unfold refS;rw [hca,hne,if_pos (.inl h24)]
 exact ⟨(),trivial,by rw [he,hr];rfl,Lh⟩
 refine Zh (Zh (Zi (Zo J (Zy J J (Zp J (Zn (Za (wC (fun h29=>?_) (fun h29=>?_)))))))))
 refine Zj (Za (ZY h29 ?_))
 refine Zh (Zi (oBuild Parts.nil J J Built.nil (Zsa ?_)))
 refine Zp J (Zn (Za (Zl (Zf (Zc (Zw (ZI2 ?_)))))))
 have he:refE f l i=11:=by unfold refE;rw [hca,hne,if_neg ZO,if_pos ZO]
 have hr:refS f l i=default:=by unfold refS;rw [he,if_pos (.inr (by decide))]
 exact ⟨(),trivial,by rw [he,hr];rfl,Lh⟩
 refine Zh (Zi (Zo J (Zx J J (Zp J (Zn (Za (wC (fun h29=>?_) (fun h29=>?_))))))))
 refine Zj (Za (ZY h29 ?_))
 refine Zh (Zi (oBuild Parts.nil J J Built.nil (Zsa ?_)))
 refine Zp J (Zn (Za (Zl (Zf (Zc (Zw (ZI2 ?_)))))))
 have he:refE f l i=11:=by unfold refE;rw [hca,hne,if_neg ZO,if_pos ZO]
 have hr:refS f l i=default:=by unfold refS;rw [he,if_pos (.inr (by decide))]
 exact ⟨(),trivial,by rw [he,hr];rfl,Lh⟩
 refine Zh (Zi (Zz (n:=8) (m:=8) J J J ?_))
 obtain ⟨m,r,hm,hr,hsy⟩:=mark_at (show 0≤markF f i by omega)
 rw [hm]
 obtain ⟨e1,cs1,hE1⟩:=g3.elm hr
 obtain rfl:=kApiReloc_open hE1.K
 have hml:=(List.getElem?_eq_some_iff.1 hr).1
 refine Zld ?_
 refine Zo J (oIdxE J J (hE1) ZO J J ?_)
 have hc37:=(hE1).cell
 refine ZF (ZT 1) (ZT 1) ?_
 refine Zlx hc37 ?_
 refine Zx J J (Zp J (Zn (Za (wC (fun h29=>?_) (fun h29=>?_)))))
 refine Zj (Za (ZY h29 ?_))
 refine Zh (Zi (oBuild Parts.nil J J Built.nil (Zsa ?_)))
 refine Zp J (Zn (Za (Zl (Zf (Zc (Zw (ZI2 ?_)))))))
 have he:refE f l i=11:=by unfold refE;rw [hca,hne,if_neg ZO,if_pos ZO]
 have hr:refS f l i=default:=by unfold refS;rw [he,if_pos (.inr (by decide))]
 exact ⟨(),trivial,by rw [he,hr];rfl,Lh⟩
 refine Zi (Zz (n:=8) (m:=8) J J J (Zld ?_))
 refine Zo J (oIdxE J J (hE1) ZO J J ?_)
 have hc44:=(hE1).cell
 refine ZF (ZT 1) (ZT 1) ?_
 refine Zlx hc44 ?_
 refine Zo J (Zv J J (Z2 J J (Zp J (Zn (Za (wC (fun h29=>?_) (fun h29=>?_)))))))
 refine Zh (Zi (oBuild Parts.nil J J Built.nil (Zsa ?_)))
 refine Zp J (Zn (Za (Zl (Zf (Zc (Zw (ZI2 ?_)))))))
 have he:refE f l i=11:=by unfold refE;rw [hca,hne,if_neg ZO,if_pos ZO]
 have hr:refS f l i=default:=by unfold refS;rw [he,if_pos (.inr (by decide))]
 exact ⟨(),trivial,by rw [he,hr];rfl,Lh⟩
 refine Zj (Zd (Zzl ?_))
 obtain ⟨n,hn⟩:=Int.eq_ofNat_of_zero_le (show 0≤r.fSym by omega)
 obtain ⟨s,hs⟩:∃ s,l[n]?=some s:=⟨_,List.getElem?_eq_getElem ZO⟩
 obtain ⟨e2,cs2,hE2⟩:=hl.elm hs
 obtain rfl:=kApiSymbol_open hE2.K
 have hsa:symAtF f l i=s:=by unfold symAtF;rw [hsy,hn,Int.toNat_natCast,List.getD_eq_getElem?_getD,hs];rfl
 refine Zz (n:=8) (m:=8) J J J (Zld ?_)
 refine Zo J (oIdxE J J (hE1) ZO J J ?_)
 have hc55:=(hE1).cell
 refine ZF (ZT 1) (ZT 1) ?_
 refine Zlx hc55 ?_
 rw [hn]
 refine oIdxE J J (hE2) (by obtain ⟨h,_⟩:=List.getElem?_eq_some_iff.1 hs;exact h) J J ?_
 have hc58:=(hE2).cell
 refine Zlx hc58 ?_
 refine oAlloc J ZP (fun b10=>?_)
 refine Zsa ?_
 refine Zn (Za (Zh (Zh (Zi (Zo J (Zla ?_))))))
 (refine ZC0 rfl ZK (fun w hS=>frame hS ZQ (fun B' hB hS'=>verify_fits hS' need s _ (kApiSymbol_mk _ s))) ?_;rintro ⟨⟩ -)
 refine Zno ?_
 refine Zn (Za (wC (fun h63=>?_) (fun h63=>?_)))
 refine Zh (Zi (oBuild Parts.nil J J Built.nil (Zsa ?_)))
 refine Zp J (Zn (Za (Zl (Zc (Zw (ZI2 ?_))))))
 have he:refE f l i=8:=by unfold refE;rw [hca,hne,hsa,if_neg ZO,if_neg ZO,if_neg (by simpa using h63)]
 have hr:refS f l i=default:=by unfold refS;rw [he,if_pos (.inr (by decide))]
 exact ⟨(),trivial,by rw [he,hr];rfl,Lh⟩
 refine Zj (Za (Zh (Zi (Zla ?_))))
 refine Zsa ?_
 refine Zp J (Zn (Za (Zl (Zw (ZI2 ?_)))))
 have he:refE f l i=0:=by unfold refE;rw [hca,hne,hsa,if_neg ZO,if_neg ZO,if_pos (by simpa using h63)]
 have hr:refS f l i=s:=by unfold refS;rw [he,hca,hne,hsa,if_neg ZO]
 exact ⟨(),trivial,by rw [he,hr];rfl,Lh⟩
 refine Zr J J J J (Zr J J J J (Zu J J (Zp J (Zn (Za (wCondF J (Zh (Zh (Zi (Zo J (Zy J J (Zp J (Zn (Za (wC (fun h29=>?_) (fun h29=>?_))))))))))))))))
 refine Zj (Za (ZY h29 ?_))
 refine Zh (Zi (oBuild Parts.nil J J Built.nil (Zsa ?_)))
 refine Zp J (Zn (Za (Zl (Zf (Zc (Zw (ZI2 ?_)))))))
 have he:refE f l i=11:=by unfold refE;rw [hca,hne,if_neg ZO,if_pos ZO]
 have hr:refS f l i=default:=by unfold refS;rw [he,if_pos (.inr (by decide))]
 exact ⟨(),trivial,by rw [he,hr];rfl,Lh⟩
 refine Zh (Zi (Zo J (Zx J J (Zp J (Zn (Za (wC (fun h29=>?_) (fun h29=>?_))))))))
 refine Zj (Za (ZY h29 ?_))
 refine Zh (Zi (oBuild Parts.nil J J Built.nil (Zsa ?_)))
 refine Zp J (Zn (Za (Zl (Zf (Zc (Zw (ZI2 ?_)))))))
 have he:refE f l i=11:=by unfold refE;rw [hca,hne,if_neg ZO,if_pos ZO]
 have hr:refS f l i=default:=by unfold refS;rw [he,if_pos (.inr (by decide))]
 exact ⟨(),trivial,by rw [he,hr];rfl,Lh⟩
 refine Zh (Zi (Zz (n:=8) (m:=8) J J J ?_))
 obtain ⟨m,r,hm,hr,hsy⟩:=mark_at (show 0≤markF f i by omega)
 rw [hm]
 obtain ⟨e1,cs1,hE1⟩:=g3.elm hr
 obtain rfl:=kApiReloc_open hE1.K
 have hml:=(List.getElem?_eq_some_iff.1 hr).1
 refine Zld ?_
 refine Zo J (oIdxE J J (hE1) ZO J J ?_)
 have hc37:=(hE1).cell
 refine ZF (ZT 1) (ZT 1) ?_
 refine Zlx hc37 ?_
 refine Zx J J (Zp J (Zn (Za (wC (fun h29=>?_) (fun h29=>?_)))))
 refine Zj (Za (ZY h29 ?_))
 refine Zh (Zi (oBuild Parts.nil J J Built.nil (Zsa ?_)))
 refine Zp J (Zn (Za (Zl (Zf (Zc (Zw (ZI2 ?_)))))))
 have he:refE f l i=11:=by unfold refE;rw [hca,hne,if_neg ZO,if_pos ZO]
 have hr:refS f l i=default:=by unfold refS;rw [he,if_pos (.inr (by decide))]
 exact ⟨(),trivial,by rw [he,hr];rfl,Lh⟩
 refine Zi (Zz (n:=8) (m:=8) J J J (Zld ?_))
 refine Zo J (oIdxE J J (hE1) ZO J J ?_)
 have hc44:=(hE1).cell
 refine ZF (ZT 1) (ZT 1) ?_
 refine Zlx hc44 ?_
 refine Zo J (Zv J J (Z2 J J (Zp J (Zn (Za (wC (fun h29=>?_) (fun h29=>?_)))))))
 refine Zh (Zi (oBuild Parts.nil J J Built.nil (Zsa ?_)))
 refine Zp J (Zn (Za (Zl (Zf (Zc (Zw (ZI2 ?_)))))))
 have he:refE f l i=11:=by unfold refE;rw [hca,hne,if_neg ZO,if_pos ZO]
 have hr:refS f l i=default:=by unfold refS;rw [he,if_pos (.inr (by decide))]
 exact ⟨(),trivial,by rw [he,hr];rfl,Lh⟩
 refine Zj (Zd (Zzl ?_))
 obtain ⟨n,hn⟩:=Int.eq_ofNat_of_zero_le (show 0≤r.fSym by omega)
 obtain ⟨s,hs⟩:∃ s,l[n]?=some s:=⟨_,List.getElem?_eq_getElem ZO⟩
 obtain ⟨e2,cs2,hE2⟩:=hl.elm hs
 obtain rfl:=kApiSymbol_open hE2.K
 have hsa:symAtF f l i=s:=by unfold symAtF;rw [hsy,hn,Int.toNat_natCast,List.getD_eq_getElem?_getD,hs];rfl
 refine Zz (n:=8) (m:=8) J J J (Zld ?_)
 refine Zo J (oIdxE J J (hE1) ZO J J ?_)
 have hc55:=(hE1).cell
 refine ZF (ZT 1) (ZT 1) ?_
 refine Zlx hc55 ?_
 rw [hn]
 refine oIdxE J J (hE2) (by obtain ⟨h,_⟩:=List.getElem?_eq_some_iff.1 hs;exact h) J J ?_
 have hc58:=(hE2).cell
 refine Zlx hc58 ?_
 refine oAlloc J ZP (fun b10=>?_)
 refine Zsa ?_
 refine Zn (Za (Zh (Zh (Zi (Zo J (Zla ?_))))))
 (refine ZC0 rfl ZK (fun w hS=>frame hS ZQ (fun B' hB hS'=>verify_fits hS' need s _ (kApiSymbol_mk _ s))) ?_;rintro ⟨⟩ -)
 refine Zno ?_
 refine Zn (Za (wC (fun h63=>?_) (fun h63=>?_)))
 refine Zh (Zi (oBuild Parts.nil J J Built.nil (Zsa ?_)))
 refine Zp J (Zn (Za (Zl (Zc (Zw (ZI2 ?_))))))
 have he:refE f l i=8:=by unfold refE;rw [hca,hne,hsa,if_neg ZO,if_neg ZO,if_neg (by simpa using h63)]
 have hr:refS f l i=default:=by unfold refS;rw [he,if_pos (.inr (by decide))]
 exact ⟨(),trivial,by rw [he,hr];rfl,Lh⟩
 refine Zj (Za (Zh (Zi (Zla ?_))))
 refine Zsa ?_
 refine Zp J (Zn (Za (Zl (Zw (ZI2 ?_)))))
 have he:refE f l i=0:=by unfold refE;rw [hca,hne,hsa,if_neg ZO,if_neg ZO,if_pos (by simpa using h63)]
 have hr:refS f l i=s:=by unfold refS;rw [he,hca,hne,hsa,if_neg ZO]
 exact ⟨(),trivial,by rw [he,hr];rfl,Lh⟩
def instrF (f:ApiFunc) (l:List ApiSymbol) (i:Int):Int:=if i<0∨(f.fCode.length:Int)≤i then 2 else if refE f l i≠0 then refE f l i else if (codeAt f i).fOp=20 then (if isC (codeAt f i).fC then operF f (codeAt f i) (codeAt f i).fC else 14) else if (codeAt f i).fOp=21 then (if latF (refS f l i).fKind then operF f (codeAt f i) (refS f l i).fKind else 14) else if (codeAt f i).fOp=18 then operF f (codeAt f i) (IntKind.i64.wrap ((refS f l i).fKind-1)) else operF f (codeAt f i) (refS f l i).fKind
theorem verify_Instr {B:Base}{w:World}(hS:St B [] w) (f:ApiFunc) (fc:List Value) (hf:kApiFunc.K B.e f fc) (Al:Option Addr) (cl:Nat) (l:List ApiSymbol) (hl:kApiSymbol.C B.e Al l) (i:Int) :
 CW 101 #[.agg fc.toArray,.slice Al l.length cl,.int .i64 i] w (Ret B (fun _:Unit=>True) (fun _=>.int .i64 (instrF f l i)) (fun _=>[])):=by
 obtain ⟨A0,c0,A1,c1,A2,c2,A3,c3,rfl,l0,g0,l1,g1,l2,g2,l3,g3⟩:=kApiFunc_open hf
 refine ZX Tryz.func101 hS ?_
 refine Zh (Zi (oBox J ZP (fun b3=>?_)))
 refine Zp J (Zn (Za (Zh (Zh (Zi (Zo J (Zx J J (Zo J (ZS (ZT 12) (fun h12=>?_) (fun h12=>?_))))))))))
 refine Zr J J J J (Zr J J J J (Zr J J J J (Zr J J J J (Zr J J J J (Zt J J (Zn (Za (wCondT J (Zh (Zi (Zze ?_)))))))))))
 exact ⟨(),trivial,by unfold instrF;rw [if_pos (.inl h12)];rfl,Lh⟩
 refine Zq J J (Zo J (Zq J J (Zz (n:=7) (m:=7) J J J (Zzi ?_))))
 refine Zq J J (Zv J J (Zq J J (Z2 J J (Zu J J (Zn (Za (wC (fun h18=>?_) (fun h18=>?_))))))))
 refine Zh (Zi (Zze ?_))
 exact ⟨(),trivial,by unfold instrF;rw [if_pos (.inr h18)];rfl,Lh⟩
 have hir:¬ (i<0∨(f.fCode.length:Int)≤i):=by omega
 obtain ⟨n,rfl⟩:=Int.eq_ofNat_of_zero_le (show 0≤i by omega)
 have hnl:n<f.fCode.length:=by omega
 obtain ⟨x,hx⟩:∃ x,f.fCode[n]?=some x:=⟨_,List.getElem?_eq_getElem hnl⟩
 have hca:codeAt f (n:Int)=x:=by unfold codeAt;rw [Int.toNat_natCast,List.getD_eq_getElem?_getD,hx];rfl
 obtain ⟨e0,cs0,hE0⟩:=g2.elm hx
 obtain rfl:=kApiInstr_open hE0.K
 refine Zj (Za (Zh (Zi (Zla ?_))))
 refine Zo J (Zo J ?_)
 (refine ZC0 rfl ZK (fun w hS=>frame hS ZQ (fun B' hB hS'=>verify_refers hS' f _ (kApiFunc.K_grow hB hf) Al cl l (Kd.C_grow hB hl) n hnl)) ?_;rintro ⟨⟩ -)
 refine Zo J (oExt J ZP ?_)
 refine oExt J ZP ?_
 refine oAlloc J ZP (fun b7=>?_)
 refine Zsa ?_
 refine Zp J (Zn (Za (Zh (Zh (Zi (Zo J (Z0 J J (Zn (Za (wC (fun h27=>?_) (fun h27=>?_)))))))))))
 refine Zh (Zi (Zo J (Zze ?_)))
 exact ⟨(),trivial,by unfold instrF;rw [if_neg hir,if_pos h27];rfl,Lh⟩
 generalize hs:refS f l (n:Int)=s
 refine Zj (Za (Zh (wDraw2 J J [3] [0,1,2,4,5,6,7,8,9] 10 ZK J J J (fun w0=>?_))))
 refine Zla ?_
 refine Zz (n:=7) (m:=7) J J J (Zld ?_)
 refine oIdxE J J (hE0) ZO J J ?_
 have hc33:=(hE0).cell
 refine Zlx hc33 ?_
 refine Zla ?_
 refine Zz (n:=3) (m:=3) J J J (Zld ?_)
 refine oBuild (Parts.cons J (Parts.cons J (Parts.cons J (Parts.cons J Parts.nil)))) J J (Built.cons (off:=0) (s:=9) J ZP J ZP (Built.cons (off:=9) (s:=5) J ZP J ZP (Built.cons (off:=14) (s:=5) J ZP J ZP (Built.cons (off:=19) (s:=1) J ZP J ZP Built.nil)))) ?_
 refine oHead (oBox J ZP (fun b39=>?_))
 refine Zp J (oNilT (Za (Zh (Zh (Zi (Zo J (Z3 J (Zz (n:=9) (m:=9) J J J (Zz (n:=0) (m:=9) J J J (Zld ?_))))))))))
 refine Zn (Za (Zk (Zh (Zi (Zy J J (Zp J (Zn (Za (wC (fun h45=>?_) (fun h45=>?_))))))))))
 refine Zh (Zi (Zo J (Zo J (Z3 J (Zz (n:=9) (m:=9) J J J (Zz (n:=3) (m:=12) J J J (Zld ?_)))))))
 refine Z3 J (Zz (n:=19) (m:=19) J J J (Zst ?_))
 refine Zn (Za (Zh (Zi (Zo J (Z3 J (Zz (n:=19) (m:=19) J J J (Zld ?_)))))))
 (refine ZC0 rfl ZK (fun w hS=>frame hS ZQ (fun B' hB hS'=>sig_Is hS' x.fC)) ?_;rintro ⟨⟩ -)
 refine Zno ?_
 refine Zn (Za (wC (fun h60=>?_) (fun h60=>?_)))
 refine Zh (Zi (Zzd ?_))
 exact ⟨(),trivial,by unfold instrF;rw [if_neg hir,if_neg h27,hca,if_pos h45,if_neg (by simpa using h60)];rfl,Lh⟩
 refine Zj (Zd (Zzl ?_))
 (refine ZC0 rfl ZK (fun w hS=>frame hS ZQ (fun B' hB hS'=>ck_operands (a:=⟨A0,c0,A1,c1,A2,c2,A3,c3⟩) (f:=f) (x:=x) (s:=s) (k:=x.fC) hS' (Kd.C_grow hB g0))) ?_;rintro ⟨⟩ -)
 refine Zp J (Zza ?_)
 exact ⟨(),trivial,by unfold instrF;rw [if_neg hir,if_neg h27,hca,if_pos h45,if_pos (by simpa using h60)];rfl,Lh⟩
 refine Zh (Zi (Zy J J (Zp J (Zn (Za (wC (fun h61=>?_) (fun h61=>?_)))))))
 refine Zh (Zi (Zo J (Z3 J (Zz (n:=19) (m:=19) J J J (Zld ?_)))))
 (refine ZC0 rfl ZK (fun w hS=>frame hS ZQ (fun B' hB hS'=>sig_Later hS' s.fKind)) ?_;rintro ⟨⟩ -)
 refine Zno ?_
 refine Zn (Za (wC (fun h68=>?_) (fun h68=>?_)))
 refine Zh (Zi (Zzd ?_))
 exact ⟨(),trivial,by unfold instrF;rw [if_neg hir,if_neg h27,hca,hs,if_neg h45,if_pos h61,if_neg (by simpa using h68)];rfl,Lh⟩
 refine Zj (Zd (Zzl ?_))
 (refine ZC0 rfl ZK (fun w hS=>frame hS ZQ (fun B' hB hS'=>ck_operands (a:=⟨A0,c0,A1,c1,A2,c2,A3,c3⟩) (f:=f) (x:=x) (s:=s) (k:=s.fKind) hS' (Kd.C_grow hB g0))) ?_;rintro ⟨⟩ -)
 refine Zp J (Zza ?_)
 exact ⟨(),trivial,by unfold instrF;rw [if_neg hir,if_neg h27,hca,hs,if_neg h45,if_pos h61,if_pos (by simpa using h68)];rfl,Lh⟩
 refine Zh (Zi (Zy J J (Zp J (Zn (Za (wC (fun h69=>?_) (fun h69=>?_)))))))
 refine Zi (Zo J (Z3 J (Zz (n:=19) (m:=19) J J J (Zld ?_))))
 refine oSubW J J (Z3 J (Zz (n:=19) (m:=19) J J J (Zst ?_)))
 refine Zn (Zd (Zzl ?_))
 (refine ZC0 rfl ZK (fun w hS=>frame hS ZQ (fun B' hB hS'=>ck_operands (a:=⟨A0,c0,A1,c1,A2,c2,A3,c3⟩) (f:=f) (x:=x) (s:=s) (k:=IntKind.i64.wrap (s.fKind-1)) hS' (Kd.C_grow hB g0))) ?_;rintro ⟨⟩ -)
 refine Zp J (Zza ?_)
 exact ⟨(),trivial,by unfold instrF;rw [if_neg hir,if_neg h27,hca,hs,if_neg h45,if_neg h61,if_pos h69];rfl,Lh⟩
 refine Zj (Zd (Zzl ?_))
 (refine ZC0 rfl ZK (fun w hS=>frame hS ZQ (fun B' hB hS'=>ck_operands (a:=⟨A0,c0,A1,c1,A2,c2,A3,c3⟩) (f:=f) (x:=x) (s:=s) (k:=s.fKind) hS' (Kd.C_grow hB g0))) ?_;rintro ⟨⟩ -)
 refine Zp J (Zza ?_)
 exact ⟨(),trivial,by unfold instrF;rw [if_neg hir,if_neg h27,hca,hs,if_neg h45,if_neg h61,if_neg h69];rfl,Lh⟩
def insL (f:ApiFunc) (l:List ApiSymbol):List Int:=(List.range f.fCode.length).map fun i:Nat=>instrF f l (i:Int)
abbrev non0 (e:Int):Bool:=decide (e≠0)
def chkE (f:ApiFunc) (l:List ApiSymbol):Int:=if funF f≠0 then funF f else fstE (insL f l)
def chkI (f:ApiFunc) (l:List ApiSymbol):Int:=if funF f≠0 then -1 else idxI non0 (insL f l)
theorem verify_Check {B:Base}{w:World}(hS:St B [] w) (f:ApiFunc) (fc:List Value) (hf:kApiFunc.K B.e f fc) (hsm:f.fRelocs.length≤1000) (Al:Option Addr) (cl:Nat) (l:List ApiSymbol) (hl:kApiSymbol.C B.e Al l) :
 CW 68 #[.agg fc.toArray,.slice Al l.length cl] w (Ret B (fun _:Unit=>True) (fun _=>.tuple #[.int .i64 (chkE f l),.int .i64 (chkI f l)]) (fun _=>[])):=by
 obtain ⟨A0,c0,A1,c1,A2,c2,A3,c3,rfl,l0,g0,l1,g1,l2,g2,l3,g3⟩:=kApiFunc_open hf
 have hcl:=g2.1
 have hil:(insL f l).length=f.fCode.length:=by simp [insL]
 refine ZX Tryz.func68 hS ?_
 refine Zh (Zi (oBox J ZP (fun b2=>?_)))
 refine Zp J (Zp J (Zn (Za (Zh (Zh (Zi (Zla ?_)))))))
 (refine ZC0 rfl ZK (fun w hS=>frame hS ZQ (fun B' hB hS'=>fun_Check hS' f _ (kApiFunc.K_grow hB hf) hsm)) ?_;rintro ⟨⟩ -)
 refine Zp J (Zn (Za (Zh (Zi (Zo J (Z0 J J (Zn (Za (wC (fun h12=>?_) (fun h12=>?_))))))))))
 refine Zh (Zi (Zo J (Zp J (Zp J (Zn (Za (Zl (Zc (Zw ?_)))))))))
 refine ⟨rfl,_,(ResL.cons (ResR.tmp rfl) (ResL.cons (ResR.tmp rfl) ResL.nil)),?_⟩
 exact ⟨(),trivial,by unfold chkE chkI;rw [if_pos h12,if_pos h12];rfl,Lh⟩
 refine Zj (Za (Zh (Zh (Zi (Zz (n:=7) (m:=7) J J J (Zld ?_))))))
 refine Zv J J (Zo J (Zn (Za (Zk (wLoop (ι:=Nat) (fun i=>[(1,.slice Al l.length cl),(2,.pointer (some ⟨b2,0,none⟩)),(16,.int .i64 (f.fCode.length:Int)),(17,.int .i64 (i:Int))]) (fun i=>[blk b2 57 [.int .i64 f.fClass,.slice A0 f.fKinds.length c0,.int .i64 f.fPad,.bool f.fNosplit,.int .i64 f.fFrom,.int .i64 f.fTo,.slice A1 f.fLines.length c1,.slice A2 f.fCode.length c2,.slice A3 f.fRelocs.length c3]]) (fun i=>i≤f.fCode.length∧fstE ((insL f l).take i)=0∧∀ y ∈ (insL f l).take i,non0 y=false) (fun i=>f.fCode.length-i) 0 ?_ cv (Leads.has ZQ) ?_)))))
 exact ⟨Nat.zero_le _,rfl,by simp⟩
 rintro i ⟨hi,hs,hs2⟩
 try dsimp only
 refine Zh (Zi (Zx J J (Zn (Za (Zh (wC (fun h18=>?_) (fun h18=>?_)))))))
 have hxe:(insL f l)[i]?=some (instrF f l (i:Int)):=rmap_at (e:=fun i:Nat=>instrF f l (i:Int)) ZO
 refine Zj (Za (Zh (Zk (Zh (Zi (Zo J (Zp J (Zn (Za (Zh (Zi (Zla ?_))))))))))))
 refine Zo J (Zo J ?_)
 (refine ZC0 rfl ZK (fun w hS=>frame hS ZQ (fun B' hB hS'=>verify_Instr hS' f _ (kApiFunc.K_grow hB hf) Al cl l (Kd.C_grow hB hl) (i:Int))) ?_;rintro ⟨⟩ -)
 refine Zp J (Zn (Za (Zh (Zi (Zo J (Z0 J J (Zn (Za (wC (fun h25=>?_) (fun h25=>?_))))))))))
 refine Zh (Zi (Zo J (Zo J (Zp J (Zp J (Zn (Za (Zl (Zf (Zc (Zc (Zf (Zc (Zw ?_))))))))))))))
 refine ⟨rfl,_,(ResL.cons (ResR.tmp rfl) (ResL.cons (ResR.tmp rfl) ResL.nil)),?_⟩
 exact ⟨(),trivial,by unfold chkE chkI;rw [if_neg h12,if_neg h12,fstE_stop hs hxe h25,idxI_stop hs2 hxe (decide_eq_true h25)];rfl,Lh⟩
 refine Zj (Zzg ?_)
 refine Zo J (Zn (Za ?_))
 exact ⟨rfl,i+1,⟨by omega,fstE_next hs hxe (Classical.not_not.1 h25),take_not hs2 hxe (decide_eq_false h25)⟩,by omega,cv,Lh⟩
 refine Zm (Zb (Zb (Ze (Za (Zh (Zi (Zp J (Zp J (Zn (Za (Zl (Zw ?_))))))))))))
 refine ⟨rfl,_,(ResL.cons (ResR.tmp rfl) (ResL.cons (ResR.tmp rfl) ResL.nil)),?_⟩
 obtain rfl:i=f.fCode.length:=by omega
 rw [← hil,List.take_length] at hs hs2
 exact ⟨(),trivial,by unfold chkE chkI;rw [if_neg h12,if_neg h12,hs,idxI_none hs2];rfl,Lh⟩
theorem nextL_any (x:ApiInstr) (i:Int) (p:Int→Bool):(nextL x i).any p=(nextR x i).any p:=by
 rw [Bool.eq_iff_iff,List.any_eq_true,List.any_eq_true]
 constructor
 · rintro ⟨y,hy,h⟩;exact ⟨y,((sorted_spec _).2 y).1 hy,h⟩
 · rintro ⟨y,hy,h⟩;exact ⟨y,((sorted_spec _).2 y).2 hy,h⟩
theorem flowF_eq (code:List ApiInstr):flowF code=if code.length=0 then 3 else if 64<code.length then 6 else if (List.range code.length).any (fun i=>(nextR (code.getD i default) (i:Int)).any (outF code.length)) then 10 else 0:=by
 have h:(graphF code).any (fun l=>l.any (outF code.length))=(List.range code.length).any (fun i=>(nextR (code.getD i default) (i:Int)).any (outF code.length)):=by
  unfold graphF
  rw [List.any_map]
  rw [Bool.eq_iff_iff,List.any_eq_true,List.any_eq_true]
  have key:∀ i ∈ List.range code.length,((fun l:List Int=>l.any (outF code.length)) ∘ fun i:Nat=>nextF code (i:Int)) i=(nextR (code.getD i default) (i:Int)).any (outF code.length):=by
   intro i hi
   have:=List.mem_range.1 hi
   show (nextF code (i:Int)).any _=_
   unfold nextF
   rw [if_neg ZO,Int.toNat_natCast,nextL_any]
  constructor
  · rintro ⟨i,hi,hp⟩;exact ⟨i,hi,by rw [← key i hi];exact hp⟩
  · rintro ⟨i,hi,hp⟩;exact ⟨i,hi,by rw [key i hi];exact hp⟩
 unfold flowF
 rw [h]
def rnext (x:ApiInstr) (i:Int):List Int:=if x.fOp=11 then [x.fN] else if endsF x.fOp then [] else if x.fOp≠12∨x.fN=i+1 then [i+1] else if x.fN<i+1 then [x.fN,i+1] else [i+1,x.fN]
theorem rnext_any (x:ApiInstr) (i:Int) (p:Int→Bool):(rnext x i).any p=(nextR x i).any p:=by
  unfold rnext nextR
  by_cases h11:x.fOp=11
  · rw [if_pos h11,if_neg ZO,if_pos h11]
  · rw [if_neg h11]
    by_cases h12:x.fOp=12
    · rw [if_pos h12,if_neg (by unfold endsF;rw [h12];decide)]
      split
      · next h => rcases h with h | h
                  · exact absurd h12 h
                  · rw [h];simp
      · split
        · simp [Bool.or_comm]
        · simp
    · rw [if_neg h12,if_neg h11]
      by_cases he:endsF x.fOp=true
      · rw [if_pos he,if_pos he]
      · rw [if_neg he,if_neg he,if_pos (.inl h12)]
end Go.Proofs.YtafiabekcekdbaaGreatV
namespace Go.Proofs.YtafiabekcekdbaaGreatW
set_option maxRecDepth 100000
set_option maxHeartbeats 4000000
open Go.RowKit Go.Proofs.YtafiabekcekdbaaGreatK Go.Proofs.YtafiabekcekdbaaGreatT Go.Proofs.YtafiabekcekdbaaGreatL Go.Proofs.YtafiabekcekdbaaGreatV

def mayF (b:Int) (first:Bool):Bool:=(decide (97≤b) && decide (b≤122)) || decide (b=95) || decide (b=46) || (decide (48≤b) && decide (b≤57) && !first)
def badC (s:ByteArray) (i:Nat):Bool:=!mayF (byteAt s i) (decide (i=0))
def nameF4 (s:ByteArray):Int:=if 24<s.size then 6 else if s.size=0 then 7 else if (List.range s.size).any (badC s) then 7 else 0
theorem size_zero {s:ByteArray} : s=ByteArray.empty↔s.size=0:=by
 constructor
 · rintro rfl;rfl
 · intro h
   cases s with
   | mk d=>
    have:d=#[]:=Array.eq_empty_of_size_eq_zero h
    subst this;rfl
structure FewO (l:List ApiObject):Prop where
  len:l.length≤9
  syms:∀ o ∈ l,o.fSymbols.length≤60
  funcs:∀ o ∈ l,o.fFuncs.length≤20
  datas:∀ o ∈ l,o.fDatas.length≤20
  fun_:∀ o ∈ l,∀ f ∈ o.fFuncs,f.fKinds.length≤100∧f.fLines.length≤100∧f.fCode.length≤100∧f.fRelocs.length≤100
  data:∀ o ∈ l,∀ d ∈ o.fDatas,d.fWords.length≤100∧d.fRelocs.length≤100
theorem ref15_Few {B:Base}{w:World}(hS:St B [] w) (d:ApiData) (dc:List Value) (hd:kApiData.K B.e d dc) :
 CW 27 #[.agg dc.toArray] w (Ret B (fun r:Bool=>r=true→d.fWords.length≤100∧d.fRelocs.length≤100) (fun r=>.bool r) (fun _=>[])):=by
 obtain ⟨A0,c0,A1,c1,rfl,l0,g0,l1,g1⟩:=kApiData_open hd
 refine ZX Tryz.func27 hS ?_
 refine Zh (Zi (oBox J ZP (fun b1=>?_)))
 refine Zp J (Zn (Za (Zh (Zi (Zz (n:=1) (m:=1) J J J (Zld ?_))))))
 refine Zv J J (oLeq J J (Zo J (ZS (ZT 7) (fun h7=>?_) (fun h7=>?_))))
 refine Zq J J (Zz (n:=2) (m:=2) J J J (Zzi ?_))
 refine Zq J J (Zv J J (Zq J J (oLeq J J (Zt J J (Zzh ?_)))))
 exact ⟨_,(by intro h;first | focus (simp at h;done) | (have:=of_decide_eq_true h;constructor <;> omega)),rfl,Lh⟩
 refine Zr J J J J (Zzj ?_)
 exact ⟨_,(by intro h;first | focus (simp at h;done) | (have:=of_decide_eq_true h;constructor <;> omega)),rfl,Lh⟩
def dP (code:List ApiInstr) (k:Nat):Bool:=decide ((code.getD k default).fOp=21)
def dfr (code:List ApiInstr) (n:Nat):List Int:=((List.range n).filter (dP code)).map fun k=>((k:Nat):Int)
theorem dfr_succ (code:List ApiInstr) (n:Nat):dfr code (n+1)=dfr code n++(if dP code n=true then [(n:Int)] else []):=by
 unfold dfr
 rw [List.range_succ,List.filter_append,List.map_append]
 congr 1
 simp only [List.filter_cons,List.filter_nil]
 split <;> rfl
theorem dfr_len (code:List ApiInstr) (n:Nat):(dfr code n).length≤n:=by
 unfold dfr
 rw [List.length_map]
 exact Nat.le_trans (List.length_filter_le _ _) (by simp)
theorem dP_at {code:List ApiInstr}{k:Nat}{x:ApiInstr}(h:code[k]?=some x):dP code k=decide (x.fOp=21):=by
 unfold dP;rw [List.getD_eq_getElem?_getD,h];rfl
def rg (code:List ApiInstr):List (List Int):=(List.range code.length).map fun k=>rnext (code.getD k default) k
theorem rg_len (code:List ApiInstr):(rg code).length=code.length:=by simp [rg]
end Go.Proofs.YtafiabekcekdbaaGreatW
/-
  Package digraph: ends and its iterator; the library's AppendSeq and Collect over it.
-/
namespace Go.Proofs.YtafiabekcekdbaaGreatG
set_option maxRecDepth 100000
set_option maxHeartbeats 4000000
open Go.RowKit Go.Proofs.YtafiabekcekdbaaGreatK Go.Proofs.YtafiabekcekdbaaGreatT

abbrev kII:Kd (List Int):=Kd.slice (Kd.int .i64)
abbrev Graph:=List (List Int)
def inG (g:Graph) (x:Int):Bool:=decide (0≤x) && decide (x<(g.length:Int))
def endsOf (g:Graph) (a:Nat):List Int:=(g.getD a []).filter (inG g)
def intV (x:Int):List Value:=[.int .i64 x]
theorem getD_at {α:Type}{l:List α}{i:Nat}{o d:α}(h:l[i]?=some o):l.getD i d=o:=by rw [List.getD_eq_getElem?_getD,h];rfl
theorem filter_drop {u:List Int}{i:Nat}{x:Int}{P:Int→Bool}(h:u[i]?=some x):(u.drop i).filter P=if P x=true then x :: (u.drop (i+1)).filter P else (u.drop (i+1)).filter P:=by
 obtain ⟨hi,rfl⟩:=List.getElem?_eq_some_iff.1 h
 rw [List.drop_eq_getElem_cons hi,List.filter_cons]
theorem drop_cons {α:Type}{l:List α}{j:Nat}{y:α}{r:List α}(h:l.drop j=y :: r):∃ hj:j<l.length,l[j]=y∧l.drop (j+1)=r:=by
 have hj:j<l.length:=by
  rcases Nat.lt_or_ge j l.length with hj | hj
  · exact hj
  · rw [List.drop_of_length_le hj] at h;cases h
 rw [List.drop_eq_getElem_cons hj] at h
 injection h with h1 h2
 exact ⟨hj,h1,h2⟩

theorem ends_any {B:Base}{w:World}(hS:St B [] w) (A:Option Addr) (n cp:Nat) (a:Int) :
 CW 197 #[.slice A n cp,.int .i64 a] w (Ret B (fun _:Nat×Nat=>True) (fun p=>.func (.func 203) #[] #[.pointer (some ⟨p.1,0,none⟩),.pointer (some ⟨p.2,0,none⟩)]) (fun p=>[blk p.1 183 [.slice A n cp],blk p.2 3 [.int .i64 a]])):=by
 refine ZX Tryz.func197 hS ?_
 refine Zh (Zi (oBox J ZP (fun b2=>?_)))
 refine oBox J ZP (fun b3=>?_)
 refine Zp J (Zn (Za (Zh (Zi (oMakeFunc J (Zzh ?_))))))
 exact ⟨(b2,b3),trivial,rfl,Lh⟩

theorem ends1 {B:Base}(g:Graph) (A:Option Addr) (cp a p2 p3:Nat) (hC:kII.C B.e A g) (ha:a<g.length) :
 IterC Tryz.prog 203 #[.pointer (some ⟨p2,0,none⟩),.pointer (some ⟨p3,0,none⟩)] B ((endsOf g a).map intV) [blk p2 183 [.slice A g.length cp],blk p3 3 [.int .i64 (a:Int)]]:=by
 intro lp AI Ax r0 w hbody hA hS
 have hl1:=hC.1
 show CW 203 #[.func (.yield lp) #[] #[],.pointer (some ⟨p2,0,none⟩),.pointer (some ⟨p3,0,none⟩)] w _
 refine ZX Tryz.func203 hS ?_
 refine Zh (Zi (Zld ?_))
 refine Zld ?_
 refine oIdx J J (hC) J ZO J J (fun e8 u8 cs8 hu8 hk8 hc8=>?_)
 obtain ⟨A0,c0,rfl,hle8,g0⟩:=hk8
 have hbig8:=g0.1
 have hends:endsOf g a=u8.filter (inG g):=by unfold endsOf;rw [getD_at hu8]
 refine Zlx hc8 ?_
 refine Zv J J (Zo J (Zn (Za (Zk (wLoop (ι:=Nat×Nat×Res) (fun z=>[(0,.func (.yield lp) #[] #[]),(1,.pointer (some ⟨p2,0,none⟩)),(9,.slice A0 u8.length c0),(10,.int .i64 (u8.length:Int)),(11,.int .i64 (z.1:Int))]) (fun z=>[z.2.2,blk p2 183 [.slice A g.length cp],blk p3 3 [.int .i64 (a:Int)]]) (fun z=>z.1≤u8.length∧z.2.1≤(endsOf g a).length∧AI z.2.1 z.2.2∧(endsOf g a).drop z.2.1=(u8.drop z.1).filter (inG g)) (fun z=>u8.length-z.1) (0,0,r0) ?_ cv (Leads.has ZQ) ?_)))))
 exact ⟨Nat.zero_le _,Nat.zero_le _,hA,hends⟩
 rintro ⟨i,j,r⟩ ⟨hi,hj,hA,hd⟩
 dsimp only at hi hj hA hd
 try dsimp only
 refine Zh (Zi (Zx J J (Zn (Za (Zh (wC (fun h12=>?_) (fun h12=>?_)))))))
 refine Zj (Za (Zh (Zk (Zh (Zi (oIdx J J (g0) J ZO J J (fun e13 u13 cs13 hu13 hk13 hc13=>?_)))))))
 obtain rfl:=hk13
 have hfd:=filter_drop (P:=inG g) hu13
 refine Zlx hc13 ?_
 refine Zp J (Zn (Za (Zh (Zi (Zo J (Z2 J J (Zo J (ZS (ZT 17) (fun h17=>?_) (fun h17=>?_)))))))))
 refine Zq J J (Zo J (Zzi ?_))
 refine Zq J J (Zv J J (Zq J J (Zx J J (Zt J J (Zo J (ZS (ZT 23) (fun h23=>?_) (fun h23=>?_)))))))
 rw [if_pos (by simp [inG];omega)] at hfd
 obtain ⟨hjlt,hjg,hjd⟩:=drop_cons (hd.trans hfd)
 have hY:∀ Fr W1,St B (r :: Fr) W1→YieldAt Fence.wide 0 Tryz.prog lp (intV u13).toArray W1 (YEnd B j AI Ax Fr):=by
  intro Fr W1 h1
  have:=hbody j (by simpa using hjlt) r Fr W1 hA h1
  rwa [List.getElem_map,hjg] at this
 refine Zq J J (Zo J (Zq J J (Zo J (Zq J J (oYield J J J (fun w hS=>hY _ w (hS.perm (Pick.perm ZP))) ?_)))))
 rintro ⟨bb,r'⟩ hr'
 dsimp only at hr' ⊢
 refine Zq J J (Zno ?_)
 refine Zt J J (Zn (Za (wC (fun h28=>?_) (fun h28=>?_))))
 refine Zl (Zf (Zc (Zc (Zf (Zw ?_)))))
 refine ⟨rfl,_,ResL.nil,?_⟩
 exact ⟨r',.inr ⟨j,by simpa using hjlt,by rw [if_neg (by simpa using h28)] at hr';exact hr'⟩,rfl,Lh⟩
 refine Zj (Zzg ?_)
 refine Zo J (Zn (Za ?_))
 exact ⟨rfl,(i+1,j+1,r'),⟨by show i+1≤_;omega,hjlt,by rw [if_pos (by simpa using h28)] at hr';exact hr',hjd⟩,by show u8.length-(i+1)<u8.length-i;omega,cv,Lh⟩
 refine Zr J J J J (Zr J J J J (Zr J J J J (Zr J J J J (Zu J J (Zn (Za (wCondF J (Zj (Zzg ?_)))))))))
 refine Zo J (Zn (Za ?_))
 exact ⟨rfl,(i+1,j,r),⟨by show i+1≤_;omega,hj,hA,by rw [hd,hfd,if_neg (by simp [inG];omega)]⟩,by show u8.length-(i+1)<u8.length-i;omega,cv,Lh⟩
 refine Zr J J J J (Zr J J J J (Zr J J J J (Zr J J J J (Zu J J (Zo J (Zr J J J J (Zr J J J J (Zr J J J J (Zr J J J J (Zu J J (Zn (Za (wCondF J (Zj (Zzg ?_)))))))))))))))
 refine Zo J (Zn (Za ?_))
 exact ⟨rfl,(i+1,j,r),⟨by show i+1≤_;omega,hj,hA,by rw [hd,hfd,if_neg (by simp [inG];omega)]⟩,by show u8.length-(i+1)<u8.length-i;omega,cv,Lh⟩
 refine Zm (Zb (Zb (Ze (fin_n ?_))))
 refine ⟨rfl,_,ResL.nil,?_⟩
 have hj:j=((endsOf g a).map intV).length:=by
  obtain rfl:i=u8.length:=by omega
  rw [List.drop_length] at hd
  have:=List.drop_eq_nil_iff.1 hd
  rw [List.length_map];omega
 exact ⟨r,.inl (hj ▸ hA),rfl,Lh⟩

end Go.Proofs.YtafiabekcekdbaaGreatG


/-
  Package digraph: Clean; the library's Sorted.
-/
namespace Go.Proofs.YtafiabekcekdbaaGreatG
set_option maxRecDepth 100000
set_option maxHeartbeats 4000000
open Go.RowKit Go.Proofs.YtafiabekcekdbaaGreatK Go.Proofs.YtafiabekcekdbaaGreatT Go.Proofs.YtafiabekcekdbaaGreatL

def SmallG (g:Graph):Prop:=g.length≤1000∧∀ l ∈ g,l.length≤1000
theorem ends_le {g:Graph}(h:SmallG g) (a:Nat):(endsOf g a).length≤1000:=by
 unfold endsOf
 refine Nat.le_trans (List.length_filter_le _ _) ?_
 by_cases ha:a<g.length
 · rw [getD_at (List.getElem?_eq_getElem ha)]
   exact h.2 _ (List.getElem_mem ha)
 · rw [List.getD_eq_getElem?_getD,List.getElem?_eq_none ZO];simp
def cl (g:Graph) (a:Nat):List Int:=Lib.compact ((endsOf g a).mergeSort leI)
end Go.Proofs.YtafiabekcekdbaaGreatG


/-
  Package digraph: Reach.
-/
namespace Go.Proofs.YtafiabekcekdbaaGreatG
set_option maxRecDepth 100000
set_option maxHeartbeats 4000000
open Go.RowKit Go.Proofs.YtafiabekcekdbaaGreatK Go.Proofs.YtafiabekcekdbaaGreatT Go.Proofs.YtafiabekcekdbaaGreatL

inductive RP (g:Graph) (from_:List Int):Int→Prop
  | start {a:Int} : a ∈ from_→inG g a=true→RP g from_ a
  | step {a:Nat}{b:Int} : RP g from_ (a:Int)→b ∈ endsOf g a→RP g from_ b
theorem inG_iff {g:Graph}{x:Int} : inG g x=true↔0≤x∧x<(g.length:Int):=by simp [inG]
theorem ends_in {g:Graph}{a:Nat}{b:Int}(h:b ∈ endsOf g a):inG g b=true:=(List.mem_filter.1 h).2
theorem RP.inG {g:Graph}{f:List Int}{x:Int}(h:RP g f x):inG g x=true:=by
 cases h with
 | start _ h=>exact h
 | step _ h=>exact ends_in h
structure RS (g:Graph) (from_:List Int) (out:List Bool) (wait:List Int):Prop where
  len:out.length=g.length
  sound:∀ i:Nat,out[i]?=some true→RP g from_ (i:Int)
  waits:∀ x ∈ wait,RP g from_ x
  starts:∀ x ∈ from_,inG g x=true→out[x.toNat]?=some true∨x ∈ wait
  closed:∀ i:Nat,out[i]?=some true→∀ b ∈ endsOf g i,out[b.toNat]?=some true∨b ∈ wait
theorem RS.done {g:Graph}{f:List Int}{out:List Bool}(h:RS g f out []):∀ x,RP g f x→out[x.toNat]?=some true:=by
 intro x hx
 induction hx with
 | start h1 h2=>
  rcases h.starts _ h1 h2 with h | h
  · exact h
  · cases h
 | step h1 h2 ih=>
  rcases h.closed _ (by simpa using ih) _ h2 with h | h
  · exact h
  · cases h
theorem RS.skip {g:Graph}{f:List Int}{out:List Bool}{wait:List Int}{x:Int}(h:RS g f out (wait++[x])) (hx:out[x.toNat]?=some true):RS g f out wait:=by
 refine ⟨h.len,h.sound,fun y hy=>h.waits y (List.mem_append_left _ hy),fun y hy hi=>?_,fun i hi b hb=>?_⟩
 · rcases h.starts y hy hi with h | h
   · exact .inl h
   · rcases List.mem_append.1 h with h | h
     · exact .inr h
     · rw [List.mem_singleton.1 h];exact .inl hx
 · rcases h.closed i hi b hb with h | h
   · exact .inl h
   · rcases List.mem_append.1 h with h | h
     · exact .inr h
     · rw [List.mem_singleton.1 h];exact .inl hx
theorem RS.take {g:Graph}{f:List Int}{out:List Bool}{wait:List Int}{a:Nat}(h:RS g f out (wait++[(a:Int)])) (ha:a<out.length):RS g f (out.set a true) (wait++endsOf g a):=by
 have hR:RP g f (a:Int):=h.waits _ (by simp)
 have hset:∀ i:Nat,out[i]?=some true→(out.set a true)[i]?=some true:=fun i hi=>by
  rw [List.getElem?_set]
  split
  · rename_i e;subst e;simp [ha]
  · exact hi
 have haa:(out.set a true)[a]?=some true:=by simp [ha]
 refine ⟨by rw [List.length_set];exact h.len,fun i hi=>?_,fun x hx=>?_,fun x hx hi=>?_,fun i hi b hb=>?_⟩
 · rw [List.getElem?_set] at hi
   split at hi
   · rename_i e;subst e;exact hR
   · exact h.sound i hi
 · rcases List.mem_append.1 hx with hx | hx
   · exact h.waits x (List.mem_append_left _ hx)
   · exact .step hR hx
 · rcases h.starts x hx hi with h | h
   · exact .inl (hset _ h)
   · rcases List.mem_append.1 h with h | h
     · exact .inr (List.mem_append_left _ h)
     · rw [List.mem_singleton.1 h];exact .inl (by simpa using haa)
 · by_cases e:i=a
   · subst e;exact .inr (List.mem_append_right _ hb)
   · have hi':out[i]?=some true:=by rw [List.getElem?_set,if_neg (fun h=>e h.symm)] at hi;exact hi
     rcases h.closed i hi' b hb with h | h
     · exact .inl (hset _ h)
     · rcases List.mem_append.1 h with h | h
       · exact .inr (List.mem_append_left _ h)
       · rw [List.mem_singleton.1 h];exact .inl (by simpa using haa)
theorem RS.init (g:Graph) (f:List Int):RS g f (List.replicate g.length false) (f.filter (inG g)):=by
 refine ⟨by simp,fun i h=>?_,fun x hx=>?_,fun x hx hi=>.inr (List.mem_filter.2 ⟨hx,hi⟩),fun i h=>?_⟩
 · rw [List.getElem?_replicate] at h;split at h <;> simp at h
 · obtain ⟨h1,h2⟩:=List.mem_filter.1 hx;exact .start h1 h2
 · rw [List.getElem?_replicate] at h;split at h <;> simp at h
def falses (out:List Bool):Nat:=(out.filter (fun b=>!b)).length
theorem falses_set {out:List Bool}{a:Nat}(h:out[a]?=some false):falses (out.set a true)+1=falses out:=by
 unfold falses
 induction out generalizing a with
 | nil=>simp at h
 | cons b out ih=>
  cases a with
  | zero=>simp at h;subst h;simp
  | succ a=>
   have:=ih (a:=a) (by simpa using h)
   cases b <;> simp_all <;> omega
theorem falses_le (out:List Bool):falses out≤out.length:=List.length_filter_le _ _
theorem filter_take {u:List Int}{i:Nat}{x:Int}{P:Int→Bool}(h:u[i]?=some x):(u.take (i+1)).filter P=(u.take i).filter P++(if P x=true then [x] else []):=by
 obtain ⟨hi,rfl⟩:=List.getElem?_eq_some_iff.1 h
 rw [List.take_succ_eq_append_getElem hi,List.filter_append,List.filter_cons,List.filter_nil]

theorem reach_any {B:Base}{w:World}(hS:St B [] w) (g:Graph) (A:Option Addr) (cp:Nat) (hC:kII.C B.e A g) (hsm:SmallG g) (from_:List Int) (A1:Option Addr) (cp1:Nat) (hC1:(Kd.int .i64).C B.e A1 from_) (hf:from_.length≤1000) (W0:World) :
 CW 170 #[.slice A g.length cp,.slice A1 from_.length cp1] w
  (Ret B (fun z:Option Addr×Nat×List Bool=>z.2.2.length=g.length∧∀ i:Nat,z.2.2[i]?=some true↔RP g from_ (i:Int)) (fun z=>.slice z.1 g.length z.2.1) (fun z=>[row Kd.bool W0 4 (.slice z.1 g.length z.2.1) z.2.2])):=by
 have hn:=hsm.1
 (refine enterM Tryz.func170 J J hS ?_;simp only [List.zipIdx_cons,List.zipIdx_nil,List.map_cons,List.map_nil,Nat.reduceAdd,Nat.zero_add])
 refine Zh (Zi (Zp J (Zn (Za (Zh (Zi (Zo J (Zv J J (oMake (kd:=Kd.bool) (W:=W0) false J J J J J J ZO J (fun g13=>?_))))))))))
 refine Zp J (Zn (Za (Zh (Zi (oAlloc J ZP (fun b6=>?_))))))
 refine Zn (Za (Zh (Zh (Zi (Zo J (Zv J J (Zo J (Zn (Za (Zk (wLoop (ι:=Nat×Option Addr×Nat) (fun z=>[(0,.slice A g.length cp),(5,.slice (some ⟨g13,0,none⟩) g.length g.length),(6,.pointer (some ⟨b6,0,none⟩)),(14,.slice A1 from_.length cp1),(15,.int .i64 (from_.length:Int)),(16,.int .i64 (z.1:Int))]) (fun z=>[row Kd.bool W0 4 (.slice (some ⟨g13,0,none⟩) g.length g.length) (List.replicate g.length false),blk b6 35 [.slice z.2.1 ((from_.take z.1).filter (inG g)).length z.2.2],row (Kd.int .i64) W0 3 (.slice z.2.1 ((from_.take z.1).filter (inG g)).length z.2.2) ((from_.take z.1).filter (inG g))]) (fun z=>z.1≤from_.length) (fun z=>from_.length-z.1) (0,none,0) ?_ cv (Leads.nilrow.trans Lh) ?_)))))))))))
 exact Nat.zero_le _
 rintro ⟨i,A2,c2⟩ hi
 dsimp only at hi
 have hle:((from_.take i).filter (inG g)).length≤1000:=Nat.le_trans (List.length_filter_le _ _) (by rw [List.length_take];omega)
 try dsimp only
 refine Zh (Zi (Zx J J (Zn (Za (Zh (wC (fun h17=>?_) (fun h17=>?_)))))))
 refine Zj (Za (Zh (Zk (Zh (Zi (oIdx J J (hC1) J ZO J J (fun e18 u18 cs18 hu18 hk18 hc18=>?_)))))))
 obtain rfl:=hk18
 have hft:=filter_take (P:=inG g) hu18
 refine Zlx hc18 ?_
 refine Zp J (Zn (Za (Zh (Zi (Zo J (Z2 J J (Zo J (ZS (ZT 22) (fun h22=>?_) (fun h22=>?_)))))))))
 refine Zq J J (Zo J (Zq J J (Zo J (Zq J J (Zv J J (Zq J J (Zx J J (Zt J J (Zn (Za (wC (fun h27=>?_) (fun h27=>?_))))))))))))
 refine Zi (Zld ?_)
 refine Zo J (oBuildSlice1 J J J J J ZP J (fun b30=>?_))
 refine oApp1 u18 J J J J ZP ZP J ZO J (fun g31 cp31=>?_)
 rw [if_pos (by simp [inG];omega)] at hft
 rw [show ((from_.take i).filter (inG g)).length+1=((from_.take (i+1)).filter (inG g)).length by rw [hft,List.length_append];rfl,← hft]
 refine Zst ?_
 refine Zn (Zzg ?_)
 refine Zo J (Zn (Za ?_))
 exact ⟨rfl,(i+1,some ⟨g31,0,none⟩,cp31),by show i+1≤_;omega,by show from_.length-(i+1)<from_.length-i;omega,cv,Lh⟩
 refine Zj (Zzg ?_)
 refine Zo J (Zn (Za ?_))
 rw [show (if inG g u18=true then [u18] else [])=[] by rw [if_neg];simp [inG];omega,List.append_nil] at hft
 exact ⟨rfl,(i+1,A2,c2),by show i+1≤_;omega,by show from_.length-(i+1)<from_.length-i;omega,cv,by dsimp only;rw [hft];exact Lh⟩
 refine Zr J J J J (Zr J J J J (Zr J J J J (Zr J J J J (Zu J J (Zn (Za (wCondF J (Zj (Zzg ?_)))))))))
 refine Zo J (Zn (Za ?_))
 rw [show (if inG g u18=true then [u18] else [])=[] by rw [if_neg];simp [inG];omega,List.append_nil] at hft
 exact ⟨rfl,(i+1,A2,c2),by show i+1≤_;omega,by show from_.length-(i+1)<from_.length-i;omega,cv,by dsimp only;rw [hft];exact Lh⟩
 obtain rfl:i=from_.length:=by omega
 rw [List.take_length]
 refine Zm (Zb (Zb (Ze (Za (Zh (Zk (wLoopM (ι:=List Bool×List Int×Option Addr×Nat) (fun z=>[(0,.slice A g.length cp),(5,.slice (some ⟨g13,0,none⟩) g.length g.length),(6,.pointer (some ⟨b6,0,none⟩))]) (fun z=>[row Kd.bool W0 4 (.slice (some ⟨g13,0,none⟩) g.length g.length) z.1,blk b6 35 [.slice z.2.2.1 z.2.1.length z.2.2.2],row (Kd.int .i64) W0 3 (.slice z.2.2.1 z.2.1.length z.2.2.2) z.2.1]) (fun z=>RS g from_ z.1 z.2.1∧z.2.1.length+falses z.1 * 1000≤2000000) (fun z=>falses z.1 * 1001+z.2.1.length) (List.replicate g.length false,from_.filter (inG g),A2,c2) ?_ cv [] J (marks_nil.trans Lh) ?_)))))))
 exact ⟨RS.init g from_,by have h1:falses (List.replicate g.length false)≤g.length:=Nat.le_trans (falses_le _) (by simp);have h2:(from_.filter (inG g)).length≤from_.length:=List.length_filter_le _ _;show (from_.filter (inG g)).length+falses (List.replicate g.length false) * 1000≤2000000;omega⟩
 rintro ⟨out,wait,A3,c3⟩ Ms ⟨hrs,hbd⟩
 dsimp only at hrs hbd
 have hol:=hrs.len
 try dsimp only
 refine Zh (Zh (Zi (Zld ?_)))
 refine Zv J J (Z1 J J (Zn (Za (wC (fun h35=>?_) (fun h35=>?_)))))
 refine Zj (Za (Zk (Zh (Zi (Zld ?_)))))
 refine Zld ?_
 refine Zv J J ?_
 first | refine oSub rfl rfl ZO ?_ | refine oSubW rfl rfl ?_
 refine ZS0 (t:=39) (v':=.int .i64 ((wait.length-1:Nat):Int)) J (by congr 1;omega) ?_
 refine ZR J J ZP ZO J J (fun g40 hg40=>?_)
 first | subst hg40 | (injection hg40 with hg40;injection hg40 with hg40;subst hg40)
 refine ZR1 J ZP ZO J (fun u41 hu41=>?_)
 have hW:(wait.take (wait.length-1)).length=wait.length-1:=by simp
 have hw:wait=wait.take (wait.length-1)++[u41]:=by
  have h1:wait.length-1<wait.length:=by omega
  have h2:=(List.getElem?_eq_some_iff.1 hu41).2
  rw [← h2,← List.take_succ_eq_append_getElem h1,show wait.length-1+1=wait.length by omega,List.take_length]
 have hin:=inG_iff.1 (hrs.waits u41 (by rw [hw];simp)).inG
 obtain ⟨a,rfl⟩:=Int.eq_ofNat_of_zero_le hin.1
 have ha:a<g.length:=by omega
 have hel:=ends_le hsm a
 have hrs':RS g from_ out (wait.take (wait.length-1)++[(a:Int)]):=by rw [← hw];exact hrs
 refine Zp J (Zn (Za (Zh (Zi (Zld ?_)))))
 refine Zld ?_
 refine Zv J J ?_
 first | refine oSub rfl rfl ZO ?_ | refine oSubW rfl rfl ?_
 refine ZS0 (t:=45) (v':=.int .i64 ((wait.length-1:Nat):Int)) J (by congr 1;omega) ?_
 refine oSliceTo J J ZO J ZP ?_
 refine Zst ?_
 refine Zn (Za (Zh (Zh (Zi (Zo J (Zo J (ZR J J ZP ZO J J (fun g49 hg49=>?_))))))))
 first | subst hg49 | (injection hg49 with hg49;injection hg49 with hg49;subst hg49)
 refine ZR1 J ZP ZO J (fun u50 hu50=>?_)
 refine Zn (Za (wC (fun h50=>?_) (fun h50=>?_)))
 refine Zm (Zb (Ze (Za ?_)))
 exact ⟨Ms,rfl,(out,wait.take (wait.length-1),some ⟨g40,0,none⟩,c3),⟨hrs'.skip (by rw [Int.toNat_natCast,hu50,h50]),by show (wait.take (wait.length-1)).length+falses out * 1000≤2000000;rw [hW];omega⟩,by show falses out * 1001+(wait.take (wait.length-1)).length<falses out * 1001+wait.length;rw [hW];omega,cv,by (try dsimp only);rw [hW];exact Lh⟩
 have hfs:=falses_set (out:=out) (a:=a) (by rw [hu50,h50])
 refine Zj (Za (Zh (Zi (Zo J (Zo J (ZR J J ZP ZO J J (fun g53 hg53=>?_)))))))
 first | subst hg53 | (injection hg53 with hg53;injection hg53 with hg53;subst hg53)
 refine oStR _ J J J J ZP (by first | omega | (simp only [List.length_set];omega)) ?_
 refine Zn (Za (Zh (Zi (Zo J (Zo J ?_)))))
 (refine ZC0 rfl ZK (fun w hS=>frame hS ZQ (fun B' hB hS'=>ends_any hS' A g.length cp (a:Int))) ?_;rintro ⟨p2,p3⟩ -)
 refine Zn (Za (Zk ?_))
 refine wRange rfl rfl ZK (ends1 g A cp a p2 p3 hC ha) (by rintro _ h;obtain ⟨y,_,rfl⟩:=List.mem_map.1 h;rfl) rfl (ι:=Nat×Option Addr×Nat) (κ:=Unit) (fun j z=>z.1=j) (fun z=>[marksR Ms,row Kd.bool W0 4 (.slice (some ⟨g13,0,none⟩) g.length g.length) (out.set a true),blk b6 35 [.slice z.2.1 (wait.length-1+z.1) z.2.2],row (Kd.int .i64) W0 3 (.slice z.2.1 (wait.length-1+z.1) z.2.2) (wait.take (wait.length-1)++(endsOf g a).take z.1)]) (fun x z=>False) (fun x z=>[]) (0,some ⟨g40,0,none⟩,c3) rfl (by dsimp only;rw [List.take_zero,List.append_nil,Nat.add_zero];exact Lh) ?_ ?_ ?_
 intro lp4 B' R1 R2 j hj
 rintro ⟨i,A2,c2⟩ hB rfl
 dsimp only
 have hj':i<(endsOf g a).length:=by simpa using hj
 have hlt:(wait.take (wait.length-1)++(endsOf g a).take i).length=wait.length-1+i:=by rw [List.length_append,hW,List.length_take];omega
 have htk:wait.take (wait.length-1)++(endsOf g a).take i++[(endsOf g a)[i]]=wait.take (wait.length-1)++(endsOf g a).take (i+1):=by rw [List.append_assoc,List.take_succ_eq_append_getElem hj']
 rw [List.getElem_map]
 generalize (endsOf g a)[i]=x at *
 dsimp only [hand,intV]
 refine Zi (Zp J (Zn (aq_n ZP ?_)))
 refine Zk (Zi (Zld ?_))
 refine Zo J (oBuildSlice1 J J J J J ZP J (fun b60=>?_))
 refine oApp1 x J J J J ZP ZP J ZO J (fun g61 cp61=>?_)
 rw [hlt,htk]
 refine Zst ?_
 refine Zn (Zd (rq_n ?_))
 exact ⟨(i+1,some ⟨g61,0,none⟩,cp61),rfl,Lh⟩
 rintro ⟨i,A2,c2⟩ Dm4 h
 dsimp only at h
 rw [List.length_map] at h
 subst h
 dsimp only
 rw [List.take_length]
 try dsimp only
 refine Zd (Zd (Za ?_))
 exact ⟨Dm4 :: Ms,rfl,(out.set a true,wait.take (wait.length-1)++endsOf g a,A2,c2),⟨hrs'.take ZO,by show (wait.take (wait.length-1)++endsOf g a).length+falses (out.set a true) * 1000≤2000000;rw [List.length_append,hW];omega⟩,by show falses (out.set a true) * 1001+(wait.take (wait.length-1)++endsOf g a).length<falses out * 1001+wait.length;rw [List.length_append,hW];omega,cv,by (try dsimp only);rw [List.length_append,hW];exact (marks_push ZP ZP).trans Lh⟩
 rintro _ _ _ h;exact h.elim
 refine Zm (Zb (Zb (Ze (Za (Zh (Zi (Zo J (Zp J (Zn (Za (Zl (finMb_r (Ds:=Ms) J ZP (ResL.cons (ResR.tmp J) ResL.nil) ?_))))))))))))
 have hw0:wait=[]:=List.eq_nil_of_length_eq_zero ZO
 subst hw0
 exact ⟨(some ⟨g13,0,none⟩,g.length,out),⟨hrs.len,fun i=>⟨hrs.sound i,fun h=>by simpa using hrs.done _ h⟩⟩,rfl,Lh⟩
end Go.Proofs.YtafiabekcekdbaaGreatG


/-
  The references' small ones: Few, Edge, Ints, In, Member.
-/
namespace Go.Proofs.YtafiabekcekdbaaGreatG
set_option maxRecDepth 100000
set_option maxHeartbeats 4000000
open Go.RowKit Go.Proofs.YtafiabekcekdbaaGreatK Go.Proofs.YtafiabekcekdbaaGreatT Go.Proofs.YtafiabekcekdbaaGreatL

def memF (g:Graph) (ib:List Bool) (a:Int):Bool:=decide (0≤a) && decide (a<(g.length:Int)) && decide (a<(ib.length:Int)) && ib.getD a.toNat false
end Go.Proofs.YtafiabekcekdbaaGreatG


/-
  The reference's Reach.
-/
namespace Go.Proofs.YtafiabekcekdbaaGreatG
set_option maxRecDepth 100000
set_option maxHeartbeats 4000000
open Go.RowKit Go.Proofs.YtafiabekcekdbaaGreatK Go.Proofs.YtafiabekcekdbaaGreatT Go.Proofs.YtafiabekcekdbaaGreatL

def Tr (out:List Bool) (i:Nat):Prop:=out[i]?=some true
theorem Tr.set {out:List Bool}{i j:Nat}(h:Tr out i):Tr (out.set j true) i:=by
 unfold Tr at *
 rw [List.getElem?_set]
 split
 · rename_i e;subst e;have:=(List.getElem?_eq_some_iff.1 h).1;simp [this]
 · exact h
theorem Tr.of_set {out:List Bool}{i j:Nat}(h:Tr (out.set j true) i):Tr out i∨i=j:=by
 unfold Tr at *
 rw [List.getElem?_set] at h
 split at h
 · rename_i e;exact .inr e.symm
 · exact .inl h
theorem Tr.set_same {out:List Bool}{j:Nat}(h:Tr out j):out.set j true=out:=by
 obtain ⟨hj,he⟩:=List.getElem?_eq_some_iff.1 h
 rw [← he];exact List.set_getElem_self hj
def Closed (g:Graph) (out:List Bool):Prop:=∀ a,Tr out a→∀ b ∈ endsOf g a,Tr out b.toNat
theorem falses_mono:∀ {old out:List Bool},old.length=out.length→(∀ i,Tr old i→Tr out i)→falses out≤falses old∧(∀ i,old[i]?=some false→Tr out i→falses out<falses old)
 | [],[],_,_=>⟨Nat.le_refl _,fun i h=>by simp at h⟩
 | a :: old,b :: out,hl,h=>by
  obtain ⟨h1,h2⟩:=falses_mono (old:=old) (out:=out) (by simpa using hl) (fun i hi=>by simpa [Tr] using h (i+1) (by simpa [Tr] using hi))
  have h0:=h 0
  simp only [Tr,List.getElem?_cons_zero,Option.some.injEq] at h0
  have e1:falses (a :: old)=falses old+(if a then 0 else 1):=by unfold falses;cases a <;> simp
  have e2:falses (b :: out)=falses out+(if b then 0 else 1):=by unfold falses;cases b <;> simp
  rw [e1,e2]
  refine ⟨?_,fun i hi ht=>?_⟩
  · cases a <;> cases b <;> simp_all <;> omega
  · cases i with
    | zero=>
     simp only [List.getElem?_cons_zero,Option.some.injEq,Tr] at hi ht
     subst hi ht
     simp;omega
    | succ i=>
     have:=h2 i (by simpa using hi) (by simpa [Tr] using ht)
     cases a <;> cases b <;> simp_all <;> omega
structure RI (g:Graph) (f:List Int) (out:List Bool):Prop where
  len:out.length=g.length
  sound:∀ i,Tr out i→RP g f (i:Int)
theorem RI.set {g:Graph}{f:List Int}{out:List Bool}{j:Nat}(h:RI g f out) (hj:RP g f (j:Int)):RI g f (out.set j true):=
 ⟨by rw [List.length_set];exact h.len,fun i hi=>by
  rcases hi.of_set with hi | rfl
  · exact h.sound i hi
  · exact hj⟩
structure Rd (g:Graph) (f:List Int) (old out:List Bool) (a:Nat):Prop where
  ri:RI g f out
  mono:∀ i,Tr old i→Tr out i
  done:∀ a',a'<a→Tr old a'→∀ b ∈ endsOf g a',Tr out b.toNat
  same:Closed g old→out=old
theorem Rd.set {g:Graph}{f:List Int}{old out:List Bool}{a:Nat}{x:Int}(h:Rd g f old out a) (ha:Tr out a) (hx:x ∈ endsOf g a):Rd g f old (out.set x.toNat true) a:=by
 have hin:=inG_iff.1 (ends_in hx)
 refine ⟨h.ri.set ?_,fun i hi=>(h.mono i hi).set,fun a' h1 h2 b hb=>(h.done a' h1 h2 b hb).set,fun hc=>?_⟩
 · rw [Int.toNat_of_nonneg hin.1];exact .step (h.ri.sound a ha) hx
 · have e:=h.same hc
   subst e
   exact Tr.set_same (hc a ha x hx)
theorem Rd.next {g:Graph}{f:List Int}{old out:List Bool}{a:Nat}(h:Rd g f old out a) (hd:¬ Tr out a∨∀ b ∈ endsOf g a,Tr out b.toNat):Rd g f old out (a+1):=by
 refine ⟨h.ri,h.mono,fun a' h1 h2 b hb=>?_,h.same⟩
 by_cases e:a'=a
 · subst e
   rcases hd with hd | hd
   · exact absurd (h.mono _ h2) hd
   · exact hd b hb
 · exact h.done a' ZO h2 b hb
theorem Rd.end {g:Graph}{f:List Int}{old out:List Bool}{n:Nat}(h:Rd g f old out g.length) (hl:old.length=g.length) (hr:Closed g old∨falses old+n≤g.length):Closed g out∨falses out+(n+1)≤g.length:=by
 by_cases hc:Closed g old
 · rw [h.same hc];exact .inl hc
 · right
   rcases hr with hr | hr
   · exact absurd hr hc
   · obtain ⟨a, ha, b, hb, hn⟩ : ∃ a, Tr old a ∧ ∃ b, b ∈ endsOf g a ∧ ¬ Tr old b.toNat := by
      apply Classical.byContradiction
      intro hne
      apply hc
      intro a ha b hb
      apply Classical.byContradiction
      intro hn
      exact hne ⟨a,ha,b,hb,hn⟩
     have hin:=inG_iff.1 (ends_in hb)
     have hal:a<g.length:=by rw [← hl];exact (List.getElem?_eq_some_iff.1 ha).1
     have hbl:b.toNat<old.length:=by omega
     have hbf:old[b.toNat]?=some false:=by
      unfold Tr at hn
      rw [List.getElem?_eq_getElem hbl] at hn ⊢
      cases hv:old[b.toNat] with
      | true=>rw [hv] at hn;exact absurd rfl hn
      | false=>rfl
     have:=(falses_mono (by rw [hl,h.ri.len]) h.mono).2 _ hbf (h.done a hal ha b hb)
     omega
end Go.Proofs.YtafiabekcekdbaaGreatG


/-
  Graphs within members: the reference's Within and On.
-/
namespace Go.Proofs.YtafiabekcekdbaaGreatG
set_option maxRecDepth 100000
set_option maxHeartbeats 4000000
open Go.RowKit Go.Proofs.YtafiabekcekdbaaGreatK Go.Proofs.YtafiabekcekdbaaGreatT Go.Proofs.YtafiabekcekdbaaGreatL

def inP (g:Graph) (ib:List Bool) (a:Nat) (x:Int):Bool:=memF g ib (a:Int) && memF g ib x
end Go.Proofs.YtafiabekcekdbaaGreatG


/-
  Package cycle: within.
-/
namespace Go.Proofs.YtafiabekcekdbaaGreatG
set_option maxRecDepth 100000
set_option maxHeartbeats 4000000
open Go.RowKit Go.Proofs.YtafiabekcekdbaaGreatK Go.Proofs.YtafiabekcekdbaaGreatT Go.Proofs.YtafiabekcekdbaaGreatL

def wp (g:Graph) (ib:List Bool) (a:Nat):List Int:=(cl g a).filter (inP g ib a)
end Go.Proofs.YtafiabekcekdbaaGreatG
namespace Go.Proofs.YtafiabekcekdbaaGreatW
set_option maxRecDepth 100000
set_option maxHeartbeats 4000000
open Go.RowKit Go.Proofs.YtafiabekcekdbaaGreatK Go.Proofs.YtafiabekcekdbaaGreatT Go.Proofs.YtafiabekcekdbaaGreatL Go.Proofs.YtafiabekcekdbaaGreatV Go.Proofs.YtafiabekcekdbaaGreatG

def fromL (code:List ApiInstr) (marks:List Nat):List Int:=(marks.map fun k=>rnext (code.getD k default) k).flatten
def dfrN (code:List ApiInstr):List Nat:=(List.range code.length).filter (dP code)
theorem dfr_N (code:List ApiInstr):dfr code code.length=(dfrN code).map fun k=>((k:Nat):Int):=rfl
theorem dfrN_lt {code:List ApiInstr}{k:Nat}(h:k ∈ dfrN code):k<code.length:=List.mem_range.1 (List.mem_filter.1 h).1
def inR (f:ApiFunc) (i:Int):Bool:=decide (f.fFrom≤i) && decide (i<f.fTo)
def outR (f:ApiFunc):Prop:=∃ i:Nat,i<f.fCode.length∧RP (rg f.fCode) (fromL f.fCode (dfrN f.fCode)) (i:Int)∧inR f (i:Int)=false
open Classical in
noncomputable def rangeF (f:ApiFunc):Int:=if outR f then 9 else 0
def dRelE (d:ApiData) (l:List ApiSymbol) (i:Nat) (x:ApiReloc):Int:=
  if d.fKind=0∨x.fAt<0∨(d.fWords.length:Int)≤x.fAt∨(0<i∧x.fAt≤(d.fRelocs.getD (i-1) default).fAt)∨x.fSym<0∨(l.length:Int)≤x.fSym then 11 else
  if (l.getD x.fSym.toNat default).fSort≠1∨(l.getD x.fSym.toNat default).fKind≠d.fKind-1 then 8 else 0
def relE (d:ApiData) (l:List ApiSymbol) (i:Nat):Int:=dRelE d l i (d.fRelocs.getD i default)
def dataF (d:ApiData) (l:List ApiSymbol):Int:=
  if textF d.fKind=ByteArray.empty then 8 else if 32<d.fWords.length then 6 else
  if d.fWords.any (fun w=>decide (d.fKind≠0∧w≠0)) then 2 else fstE ((List.range d.fRelocs.length).map (relE d l))
theorem relE_at {d:ApiData}{l:List ApiSymbol}{i:Nat}{x:ApiReloc}(h:d.fRelocs[i]?=some x):relE d l i=dRelE d l i x:=by
 unfold relE;rw [List.getD_eq_getElem?_getD,h];rfl
structure GoodO (o:ApiObject):Prop where
  v:vApiObject o
  syms:o.fSymbols.length≤60
  funcs:o.fFuncs.length≤20
  datas:o.fDatas.length≤20
  fun_:∀ f ∈ o.fFuncs,f.fKinds.length≤100∧f.fLines.length≤100∧f.fCode.length≤100∧f.fRelocs.length≤100
  data:∀ d ∈ o.fDatas,d.fWords.length≤100∧d.fRelocs.length≤100
theorem FewO.one {l:List ApiObject}(h:FewO l) (hv:∀ o ∈ l,vApiObject o) {o:ApiObject}(ho:o ∈ l):GoodO o:=⟨hv o ho,h.syms o ho,h.funcs o ho,h.datas o ho,h.fun_ o ho,h.data o ho⟩
def itemsF (o:ApiObject):Int:=(o.fFuncs.length:Int)+(o.fDatas.length:Int)
def definesF (o:ApiObject) (item:Int) (x:ApiSymbol):Bool:=if item<0∨itemsF o≤item then false else if item<(o.fFuncs.length:Int) then decide (x.fSort=1) && decide (x.fDef=item) else decide (x.fSort=2) && decide (x.fDef=item-(o.fFuncs.length:Int))
def definerF (o:ApiObject) (item:Int):Int:=idxI (definesF o item) o.fSymbols
def kindB (x:ApiSymbol):Bool:=(decide (x.fSort≠1) && decide (x.fSort≠2)) || (decide (x.fSort=1) && !isC x.fKind) || (decide (x.fSort=2) && decide (textF x.fKind=ByteArray.empty))
def nameP (x y:ApiSymbol):Bool:=decide (y.fName=x.fName)
def aheadP (x y:ApiSymbol):Bool:=decide (y.fSort=x.fSort) && decide (y.fDef≠-1)
def aheadN (x:ApiSymbol) (l:List ApiSymbol):Nat:=(l.filter (aheadP x)).length
def mostN (o:ApiObject) (x:ApiSymbol):Nat:=if x.fSort=2 then o.fDatas.length else o.fFuncs.length
def symX (o:ApiObject) (i:Nat) (x:ApiSymbol):Int:=
  if nameF4 x.fName≠0 then nameF4 x.fName else if kindB x=true then 8 else if (o.fSymbols.take i).any (nameP x)=true then 12 else
  if x.fDef≠-1∧(x.fDef≠(aheadN x (o.fSymbols.take i):Int)∨(mostN o x:Int)≤x.fDef) then 9 else if x.fLocal=true∧x.fDef = -1 then 13 else 0
def symE (o:ApiObject) (i:Nat):Int:=symX o i (o.fSymbols.getD i default)
theorem symE_at {o:ApiObject}{i:Nat}{x:ApiSymbol}(h:o.fSymbols[i]?=some x):symE o i=symX o i x:=by unfold symE;rw [List.getD_eq_getElem?_getD,h];rfl
theorem ahead_succ (x:ApiSymbol) {l:List ApiSymbol}{k:Nat}{y:ApiSymbol}(h:l[k]?=some y):aheadN x (l.take (k+1))=aheadN x (l.take k)+(if aheadP x y=true then 1 else 0):=by
 unfold aheadN
 rw [List.take_add_one,h,List.filter_append,List.length_append]
 congr 1
 show ((List.filter (aheadP x) [y]).length)=_
 rw [List.filter_cons]
 split <;> simp
theorem ahead_le (x:ApiSymbol) (l:List ApiSymbol):aheadN x l≤l.length:=List.length_filter_le _ _
def symsL (o:ApiObject):List Int:=(List.range o.fSymbols.length).map (symE o)
def dKind (o:ApiObject) (i:Nat):Int:=(o.fSymbols.getD (definerF o (i:Int)).toNat default).fKind
noncomputable def funE (o:ApiObject) (f:ApiFunc):Int:=if chkE f o.fSymbols≠0 then chkE f o.fSymbols else rangeF f
noncomputable def itemE (o:ApiObject) (i:Nat):Int:=
  if definerF o (i:Int)<0 then 13 else
  if o.fFuncs.length≤i then (if (o.fDatas.getD (i-o.fFuncs.length) default).fKind≠dKind o i then 14 else dataF (o.fDatas.getD (i-o.fFuncs.length) default) o.fSymbols) else
  if (o.fFuncs.getD i default).fClass≠dKind o i then 14 else funE o (o.fFuncs.getD i default)
noncomputable def itsL (o:ApiObject):List Int:=(List.range (o.fFuncs.length+o.fDatas.length)).map (itemE o)
def manyO (o:ApiObject):Prop:=32<o.fSymbols.length∨12<o.fFuncs.length∨8<o.fDatas.length
instance (o:ApiObject):Decidable (manyO o):=by unfold manyO;infer_instance
noncomputable def objE (o:ApiObject):Int:=if manyO o then 19 else if fstE (symsL o)≠0 then fstE (symsL o) else fstE (itsL o)
noncomputable def objI (o:ApiObject):Int:=if manyO o then -1 else if fstE (symsL o)≠0 then idxI non0 (symsL o) else idxI non0 (itsL o)
theorem definer_at {o:ApiObject}{item:Int}(h:0≤definerF o item):∃ (k:Nat) (x:ApiSymbol),definerF o item=(k:Int)∧o.fSymbols[k]?=some x∧definesF o item x=true:=idxI_at h
theorem ref16_FewA {B:Base}{w:World}(hS:St B [] w) (f:ApiFunc) (fc:List Value) (hf:kApiFunc.K B.e f fc) :
 CW 26 #[.agg fc.toArray] w (Ret B (fun r:Bool=>r=true→f.fKinds.length≤100∧f.fLines.length≤100∧f.fCode.length≤100∧f.fRelocs.length≤100) (fun r=>.bool r) (fun _=>[])):=by
 obtain ⟨A0,c0,A1,c1,A2,c2,A3,c3,rfl,l0,g0,l1,g1,l2,g2,l3,g3⟩:=kApiFunc_open hf
 refine ZX Tryz.func26 hS ?_
 refine Zh (Zi (oBox J ZP (fun b1=>?_)))
 refine Zp J (Zn (Za (Zh (Zi (Zz (n:=1) (m:=1) J J J (Zld ?_))))))
 refine Zv J J (oLeq J J (Zo J (ZS (ZT 7) (fun h7=>?_) (fun h7=>?_))))
 refine Zq J J (Zz (n:=6) (m:=6) J J J (Zzi ?_))
 refine Zq J J (Zv J J (Zq J J (oLeq J J (Zt J J (Zo J (ZS (ZT 13) (fun h13=>?_) (fun h13=>?_)))))))
 refine Zq J J (Zz (n:=7) (m:=7) J J J (Zzi ?_))
 refine Zq J J (Zv J J (Zq J J (oLeq J J (Zt J J (Zo J (ZS (ZT 19) (fun h19=>?_) (fun h19=>?_)))))))
 refine Zq J J (Zz (n:=8) (m:=8) J J J (Zzi ?_))
 refine Zq J J (Zv J J (Zq J J (oLeq J J (Zt J J (Zzh ?_)))))
 exact ⟨_,(by intro h;first | focus (simp at h;done) | (have:=of_decide_eq_true h;omega)),rfl,Lh⟩
 refine Zr J J J J (Zzj ?_)
 exact ⟨_,(by intro h;first | focus (simp at h;done) | (have:=of_decide_eq_true h;omega)),rfl,Lh⟩
 refine Zr J J J J (Zr J J J J (Zr J J J J (Zr J J J J (Zu J J (Zo J (Zr J J J J (Zzj ?_)))))))
 exact ⟨_,(by intro h;first | focus (simp at h;done) | (have:=of_decide_eq_true h;omega)),rfl,Lh⟩
 refine Zr J J J J (Zr J J J J (Zr J J J J (Zr J J J J (Zu J J (Zo J (Zr J J J J (Zr J J J J (Zr J J J J (Zr J J J J (Zu J J (Zo J (Zr J J J J (Zzj ?_)))))))))))))
 exact ⟨_,(by intro h;first | focus (simp at h;done) | (have:=of_decide_eq_true h;omega)),rfl,Lh⟩
structure FewB (o:ApiObject):Prop where
  syms:o.fSymbols.length≤60
  funcs:o.fFuncs.length≤20
  datas:o.fDatas.length≤20
  fun_:∀ f ∈ o.fFuncs,f.fKinds.length≤100∧f.fLines.length≤100∧f.fCode.length≤100∧f.fRelocs.length≤100
  data:∀ d ∈ o.fDatas,d.fWords.length≤100∧d.fRelocs.length≤100
theorem take_all {α:Type}{P:α→Prop}{l:List α}{i:Nat}{x:α}(h:∀ y ∈ l.take i,P y) (hi:l[i]?=some x) (hp:P x):∀ y ∈ l.take (i+1),P y:=by
 intro y hy
 rw [List.take_add_one,hi] at hy
 rcases List.mem_append.1 hy with k | k
 · exact h y k
 · obtain rfl:y=x:=by simpa using k
   exact hp
abbrev fewF (f:ApiFunc):Prop:=f.fKinds.length≤100∧f.fLines.length≤100∧f.fCode.length≤100∧f.fRelocs.length≤100
abbrev fewD (d:ApiData):Prop:=d.fWords.length≤100∧d.fRelocs.length≤100
theorem ref19_Few {B:Base}{w:World}(hS:St B [] w) (o:ApiObject) (oc:List Value) (ho:kApiObject.K B.e o oc) :
 CW 8 #[.agg oc.toArray] w (Ret B (fun r:Bool=>r=true→FewB o) (fun r=>.bool r) (fun _=>[])):=by
 obtain ⟨A0,c0,A1,c1,A2,c2,rfl,m0,q0,m1,q1,m2,q2⟩:=kApiObject_open ho
 have hl0:=q0.1
 have hl1:=q1.1
 have hl2:=q2.1
 refine ZX Tryz.func8 hS ?_
 refine Zh (Zi (oBox J ZP (fun b1=>?_)))
 refine Zp J (Zn (Za (Zh (Zh (Zi (Zp J (Zn (Za (Zk (wLoop (ι:=Nat) (fun i=>[(1,.pointer (some ⟨b1,0,none⟩)),(3,.int .i64 (i:Int))]) (fun i=>[blk b1 26 [.slice A0 o.fSymbols.length c0,.slice A1 o.fFuncs.length c1,.slice A2 o.fDatas.length c2]]) (fun i=>i≤o.fSymbols.length) (fun i=>o.fSymbols.length-i) 0 ?_ cv (Leads.has ZQ) ?_))))))))))
 exact Nat.zero_le _
 rintro i hi
 try dsimp only
 refine Zh (Zh (Zi (Zo J (Zz (n:=0) (m:=0) J J J (Zld ?_)))))
 refine Zv J J (Zx J J (Zn (Za (wC (fun h10=>?_) (fun h10=>?_)))))
 obtain ⟨x,hx⟩:∃ x,o.fSymbols[i]?=some x:=⟨_,List.getElem?_eq_getElem ZO⟩
 obtain ⟨e1,cs1,hE⟩:=q0.elm hx
 obtain rfl:=kApiSymbol_open hE.K
 refine Zj (Za (Zh (Zk (Zh (Zi (Zz (n:=0) (m:=0) J J J (Zld ?_)))))))
 refine Zo J (oIdxE J J (hE) ZO J J ?_)
 have hc16:=(hE).cell
 refine ZF (ZT 0) (ZT 0) ?_
 refine Zlx hc16 ?_
 refine oLenStr J J (Z1 J J (Zn (Za (wC (fun h20=>?_) (fun h20=>?_)))))
 refine Zh (Zi (Zzc ?_))
 exact ⟨false,(by intro h;cases h),rfl,Lh⟩
 refine Zj (Zd (Za (Zi (Zo J (Zsu ?_)))))
 refine Zp J (Zn (Za ?_))
 exact ⟨rfl,i+1,by omega,by omega,cv,Lh⟩
 refine Zm (Zb (Zb (Ze (Za (Zh (Zh (Zi (Zp J (Zn (Za (Zk (wLoop (ι:=Nat) (fun i=>[(1,.pointer (some ⟨b1,0,none⟩)),(4,.int .i64 (i:Int))]) (fun i=>[blk b1 26 [.slice A0 o.fSymbols.length c0,.slice A1 o.fFuncs.length c1,.slice A2 o.fDatas.length c2]]) (fun i=>i≤o.fFuncs.length∧i≤20∧∀ f ∈ o.fFuncs.take i,fewF f) (fun i=>o.fFuncs.length-i) 0 ?_ cv (Leads.has ZQ) ?_))))))))))))
 exact ⟨Nat.zero_le _,by omega,by simp⟩
 rintro i ⟨hi,hi2,hs⟩
 try dsimp only
 refine Zh (Zh (Zi (Zo J (Zz (n:=1) (m:=1) J J J (Zld ?_)))))
 refine Zv J J (Zx J J (Zn (Za (wC (fun h25=>?_) (fun h25=>?_)))))
 obtain ⟨f,hf⟩:∃ f,o.fFuncs[i]?=some f:=⟨_,List.getElem?_eq_getElem ZO⟩
 obtain ⟨e3,cs3,hE3⟩:=q1.elm hf
 obtain ⟨F0,f0,F1,f1,F2,f2,F3,f3,rfl,n0,r0,n1,r1,n2,r2,n3,r3⟩:=kApiFunc_open hE3.K
 refine Zj (Za (Zh (Zk (Zh (Zi (Zo J (Z2 J J (Zo J (ZS (ZT 30) (fun h30=>?_) (fun h30=>?_))))))))))
 refine Zr J J J J (Zr J J J J (Zr J J J J (Zr J J J J (Zr J J J J (Zr J J J J (Zr J J J J (Zt J J (Zn (Za (wCondT J (Zh (Zi (Zzc ?_)))))))))))))
 exact ⟨false,(by intro h;cases h),rfl,Lh⟩
 refine Zq J J (Zz (n:=1) (m:=1) J J J (Zzi ?_))
 refine Zq J J (Zo J (Zq J J (oIdxE J J (hE3) ZO J J ?_)))
 have hc34:=(hE3).cell
 refine Zq J J (Zlx hc34 ?_)
 refine Zq J J ?_
 (refine ZC0 rfl ZK (fun w hS=>frame hS ZQ (fun B' hB hS'=>ref16_FewA hS' f _ (kApiFunc_mk _ f n0 (Kd.C_grow hB r0) n1 (Kd.C_grow hB r1) n2 (Kd.C_grow hB r2) n3 (Kd.C_grow hB r3)))) ?_;rintro r36 h36)
 refine Zq J J (Zno ?_)
 refine Zu J J (Zn (Za (wC (fun h38=>?_) (fun h38=>?_))))
 refine Zh (Zi (Zzc ?_))
 exact ⟨false,(by intro h;cases h),rfl,Lh⟩
 refine Zj (Zd (Za (Zi (Zo J (Zsu ?_)))))
 refine Zp J (Zn (Za ?_))
 exact ⟨rfl,i+1,⟨by omega,by omega,take_all hs hf (h36 (by simp_all))⟩,by omega,cv,Lh⟩
 obtain rfl:i=o.fFuncs.length:=by omega
 rw [List.take_length] at hs
 have hsF:=hs
 have hsN:=hi2
 refine Zm (Zb (Zb (Ze (Za (Zh (Zh (Zi (Zp J (Zn (Za (Zk (wLoop (ι:=Nat) (fun i=>[(1,.pointer (some ⟨b1,0,none⟩)),(5,.int .i64 (i:Int))]) (fun i=>[blk b1 26 [.slice A0 o.fSymbols.length c0,.slice A1 o.fFuncs.length c1,.slice A2 o.fDatas.length c2]]) (fun i=>i≤o.fDatas.length∧i≤20∧∀ f ∈ o.fDatas.take i,fewD f) (fun i=>o.fDatas.length-i) 0 ?_ cv (Leads.has ZQ) ?_))))))))))))
 exact ⟨Nat.zero_le _,by omega,by simp⟩
 rintro i ⟨hi,hi2,hs⟩
 try dsimp only
 refine Zh (Zh (Zi (Zo J (Zz (n:=2) (m:=2) J J J (Zld ?_)))))
 refine Zv J J (Zx J J (Zn (Za (wC (fun h43=>?_) (fun h43=>?_)))))
 obtain ⟨d,hd⟩:∃ d,o.fDatas[i]?=some d:=⟨_,List.getElem?_eq_getElem ZO⟩
 obtain ⟨e2,cs2,hE2⟩:=q2.elm hd
 obtain ⟨D0,d0,D1,d1,rfl,n0,r0,n1,r1⟩:=kApiData_open hE2.K
 refine Zj (Za (Zh (Zk (Zh (Zi (Zo J (Z2 J J (Zo J (ZS (ZT 48) (fun h48=>?_) (fun h48=>?_))))))))))
 refine Zr J J J J (Zr J J J J (Zr J J J J (Zr J J J J (Zr J J J J (Zr J J J J (Zr J J J J (Zt J J (Zn (Za (wCondT J (Zh (Zi (Zzc ?_)))))))))))))
 exact ⟨false,(by intro h;cases h),rfl,Lh⟩
 refine Zq J J (Zz (n:=2) (m:=2) J J J (Zzi ?_))
 refine Zq J J (Zo J (Zq J J (oIdxE J J (hE2) ZO J J ?_)))
 have hc52:=(hE2).cell
 refine Zq J J (Zlx hc52 ?_)
 refine Zq J J ?_
 (refine ZC0 rfl ZK (fun w hS=>frame hS ZQ (fun B' hB hS'=>ref15_Few hS' d _ (kApiData_mk _ d n0 (Kd.C_grow hB r0) n1 (Kd.C_grow hB r1)))) ?_;rintro r54 h54)
 refine Zq J J (Zno ?_)
 refine Zu J J (Zn (Za (wC (fun h56=>?_) (fun h56=>?_))))
 refine Zh (Zi (Zzc ?_))
 exact ⟨false,(by intro h;cases h),rfl,Lh⟩
 refine Zj (Zd (Za (Zi (Zo J (Zsu ?_)))))
 refine Zp J (Zn (Za ?_))
 exact ⟨rfl,i+1,⟨by omega,by omega,take_all hs hd (h54 (by simp_all))⟩,by omega,cv,Lh⟩
 refine Zm (Zb (Zb (Ze (Za (Zh (Zi (Zz (n:=0) (m:=0) J J J (Zld ?_))))))))
 refine Zv J J (oLeq J J (Zzh ?_))
 obtain rfl:i=o.fDatas.length:=by omega
 rw [List.take_length] at hs
 exact ⟨_,(by intro h;have:=of_decide_eq_true h;exact ⟨by omega,hsN,hi2,hsF,hs⟩),rfl,Lh⟩
end Go.Proofs.YtafiabekcekdbaaGreatW
namespace Go.Proofs.YtafiabekcekdbaaGreatK
open Go.RowKit

def stepL (F:Fence) (n:Nat) (P:Program) (ops:Array Oper) (Q:Exit→Act→World→Prop) (K:Act→World→Prop):List Oper→Act→World→Prop
  | [],a,w=>K a w
  | o :: rest,a,w=>
    if Region.wanted o (yielded ops a.tmps) then o.wpIn F n P a w (stepL F n P ops Q K rest) Q
    else (∀ f,o.about P w a.eval=some f→F.fn f)∧stepL F n P ops Q K rest (a.put o.dst undef) w
def Me.step (c:Cx) (ops:Array Oper) (Q:Post) (K:Act→World→Prop):Me c where
  X:=stepL c.F 0 c.P ops (lift c Q) K
  ops:=ops
  calm o rest a w v hw hp hr hK:=by
    simp only [stepL,hw,if_true]
    exact ⟨fun f _=>c.fn f,by rw [semAt_plain' _ _ _ hp,hr];exact hK⟩
  skip o rest a w hw hK:=by
    simp only [stepL,hw]
    exact ⟨fun f _=>c.fn f,hK⟩
  want dst op ty pos af g rest a w hw h:=by
    simp only [stepL] at h ⊢
    rw [if_pos hw]
    rw [if_pos (show Region.wanted { dst:=dst,op:=op,type:=ty,pos:=pos,after:=af,guard:=none } (yielded ops a.tmps)=true from rfl)] at h
    exact h
  eff o rest a w v w' hw hp hr hK:=by
    simp only [stepL]
    rw [if_pos (show Region.wanted o (yielded ops a.tmps)=true from hw)]
    exact ⟨fun f _=>c.fn f,by rw [semAt_plain' _ _ _ hp,hr];exact hK⟩
  effs o rest a w w' hw hp hr hK:=by
    simp only [stepL]
    rw [if_pos (show Region.wanted o (yielded ops a.tmps)=true from hw)]
    exact ⟨fun f _=>c.fn f,by rw [semAt_plain' _ _ _ hp,hr];exact hK⟩
  enter o rest a w g args w1 hw hp hr hK:=by
    simp only [stepL]
    rw [if_pos (show Region.wanted o (yielded ops a.tmps)=true from hw)]
    refine ⟨fun f _=>c.fn f,?_⟩
    rw [semAt_plain' _ _ _ hp,hr]
    refine ⟨fun h=>absurd h (by rw [c.dp];simp),(c.call hK).mono ?_⟩
    rintro e w2 ⟨v,rfl,hx⟩
    exact hx
inductive AllN (c:Cx) (ops:Array Oper) (Q:Post) (f:Nat) (listed:Array Bool) (E:Env) (D:List Deferred) (H:List Res):List Nat→Prop
  | nil:AllN c ops Q f listed E D H []
  | cons {i:Nat}{o:Oper}{rs:List Nat}(ho:ops[i]?=some o) (h:O (Me.step c ops Q (wpAnyIn c.F 0 c.P .any ops (lift c Q) f (listed.setIfInBounds i true))).toMd [o] E D H) (k:AllN c ops Q f listed E D H rs):AllN c ops Q f listed E D H (i :: rs)
section
variable {c : Cx} {Q : Post} {ops : Array Oper} {E : Env} {D : List Deferred} {H : List Res} {f : Nat} {listed : Array Bool}
theorem AllN.get {rs:List Nat}(h:AllN c ops Q f listed E D H rs):∀ i ∈ rs,∀ a w,Ok c.N E D a→St c.B H w→wpOpIn c.F 0 c.P ops (lift c Q) i (wpAnyIn c.F 0 c.P .any ops (lift c Q) f (listed.setIfInBounds i true)) a w:=by
 induction h with
 | nil=>intro i hi;cases hi
 | @cons j o rs ho h k ih=>
  intro i hi a w ha hw
  rcases List.mem_cons.1 hi with rfl | hi
  · have:=h a w ha hw
    simp only [Me.step,stepL] at this
    unfold wpOpIn
    rw [ho]
    exact this
  · exact ih i hi a w ha hw
end
section
variable {c : Cx} {N : Md c} {M : Me c} {d : Nat} {ty t t' : TypeId} {pos : String} {af : Array Edge} {rest : List Oper} {E : Env} {D : List Deferred} {H H' : List Res} {x y : Operand}
end
end Go.Proofs.YtafiabekcekdbaaGreatK
namespace Go.Proofs.YtafiabekcekdbaaGreatK
open Go.RowKit
def ZA:=@AllN.cons
def ZB:=@AllN.nil
end Go.Proofs.YtafiabekcekdbaaGreatK
namespace Go.Proofs.YtafiabekcekdbaaGreatO
set_option maxRecDepth 100000
set_option maxHeartbeats 4000000
open Go.RowKit Go.Proofs.YtafiabekcekdbaaGreatK Go.Proofs.YtafiabekcekdbaaGreatT Go.Proofs.YtafiabekcekdbaaGreatL Go.Proofs.YtafiabekcekdbaaGreatV Go.Proofs.YtafiabekcekdbaaGreatG Go.Proofs.YtafiabekcekdbaaGreatW

section
variable {c : Cx} {M : Md c} {d : Nat} {ty : TypeId} {pos : String} {af : Array Edge} {rest : List Oper} {E : Env} {D : List Deferred} {H : List Res} {x y : Operand} {t : TypeId}
theorem oSliceU {k:IntKind}{A:Option Addr}{n cp m s:Nat}{e':TypeId}(hx:E.op x=some (.slice A n cp)) (hy:E.op y=some (.int k (m:Int))) (hm:m≤cp) (ht:elemT c.P t=some (e',s))
 (h:O M rest ((d,.slice A m cp) :: E) D H) (hN:Nat.blt d c.N=true:=by rfl):O M (⟨some d,.slice t x none (some y) none,ty,pos,af,none⟩ :: rest) E D H:=
 oC _ rfl hN (fun a w ha hw=>by
  obtain ⟨h1,inf,h2,h3⟩:=run_elemT ht
  cases A <;> simp [execOp,ha.op hx,ha.op hy,Instr.sliceAt,Instr.slice,run_underlying h1,Instr.sliceBounds,Instr.sliceBound,asIntOf,hm,sizeOf,typeInfo,h2,h3,Addr.add]) h
end
theorem C_take {α:Type}{d:Kd α}{w:World}{A:Option Addr}{xs:List α}(h:d.C w A xs) (i:Nat):d.C w A (xs.take i):=by
 refine ⟨by have:=h.1;rw [List.length_take];omega,fun hn=>?_⟩
 obtain ⟨ad,e,hc⟩:=h.2 (by rw [List.length_take] at hn;omega)
 exact ⟨ad,e,fun j x hx=>hc j x (by rw [List.getElem?_take] at hx;split at hx;exact hx;cases hx)⟩
def rn (s:ByteArray) (p:Nat):Int:=((Utf8.decode s p).1:Int)
theorem nextV_rn {s:ByteArray}{p:Nat}(h:p<s.size):nextV s p=.tuple #[.bool true,.int .i64 (p:Int),.int .i32 (rn s p)]:=by unfold nextV rn;rw [if_pos h]
theorem rn_lo {s:ByteArray}{p:Nat}(h:p<s.size) (ha:byteAt s p<128):rn s p=byteAt s p:=by
 have h1:=nextV_T h ha
 rw [nextV_rn h] at h1
 simpa using h1
theorem rn_hi {s:ByteArray}{p:Nat}(h:p<s.size) (ha:¬ byteAt s p<128):128≤rn s p:=by
 rw [byteAt_eq h] at ha
 have hg:(s.get! (p+0)).toNat=(s[p]'h).toNat:=by
  show (s.data[p]!).toNat=_
  rw [getElem!_pos s.data p h];rfl
 have h0:128≤(s[p]'h).toNat:=by omega
 have key:128≤(Utf8.decode s p).1:=by
  unfold Utf8.decode Utf8.runeError
  simp only [hg]
  rw [if_neg ZO]
  repeat' split
  all_goals first | (dsimp only;omega) | (rename_i hc;simp only [Bool.and_eq_true,decide_eq_true_eq] at hc;dsimp only;omega)
 unfold rn;omega
def mayR (c:Int) (i:Int):Bool:=(decide (97≤c) && decide (c≤122)) || decide (c=95) || decide (c=46) || ((decide (48≤c) && decide (c≤57)) && decide (0<i))
theorem bad_rn {s:ByteArray}{i:Nat}(h:i<s.size):badC s i=!mayR (rn s i) (i:Int):=by
 unfold badC mayF mayR
 by_cases ha:byteAt s i<128
 · rw [rn_lo h ha]
   congr 1
   by_cases h0:i=0
   · subst h0;simp
   · simp [h0,show 0<i by omega]
 · have:=rn_hi h ha
   rw [decide_eq_false (show ¬ byteAt s i≤122 by omega),decide_eq_false (show ¬ byteAt s i=95 by omega),decide_eq_false (show ¬ byteAt s i=46 by omega),decide_eq_false (show ¬ byteAt s i≤57 by omega),decide_eq_false (show ¬ rn s i≤122 by omega),decide_eq_false (show ¬ rn s i=95 by omega),decide_eq_false (show ¬ rn s i=46 by omega),decide_eq_false (show ¬ rn s i≤57 by omega)]
   simp
theorem ok_lo {s:ByteArray}{i:Nat}(h:badC s i=false):byteAt s i<128:=by
 unfold badC mayF at h
 simp at h
 omega
theorem name_Check {B:Base}{w:World}(hS:St B [] w) (s:ByteArray) :
 CW 63 #[.string s] w (Ret B (fun _:Unit=>True) (fun _=>.int .i64 (nameF4 s)) (fun _=>[])):=by
 refine ZX Tryz.func63 hS ?_
 refine Zh (Zi (Zp J (Zn (Za (Zh (Zk (Zh (Zi (Zo J (oLenStr J J (Z1 J J (Zp J (Zn (Za (wC (fun h5=>?_) (fun h5=>?_))))))))))))))))
 refine Zh (Zi (Zzd ?_))
 exact ⟨(),trivial,by unfold nameF4;rw [if_pos ZO];rfl,Lh⟩
 have hs24:¬ 24<s.size:=by omega
 refine Zh (Zi (Zo J (oSEq J J (Zp J (Zn (Za (wC (fun h9=>?_) (fun h9=>?_))))))))
 refine Zh (Zi (Zzd ?_))
 exact ⟨(),trivial,by unfold nameF4;rw [if_neg hs24,if_pos (size_zero.1 h9)];rfl,Lh⟩
 have hz:¬ s.size=0:=fun h=>h9 (size_zero.2 h)
 refine Zj (Zd (Za (Zh (Zh (Zi (Zo J (oRangeStr J J (fun b13=>?_))))))))
 refine Zn (Za (Zk (wLoop (ι:=Nat) (fun i=>[(0,.string s),(13,.pointer (some ⟨b13,0,none⟩))]) (fun i=>[ob b13 (.stringIter s i)]) (fun i=>i≤s.size∧∀ j,j<i→badC s j=false) (fun i=>s.size-i) 0 ?_ cv (Leads.has ZQ) ?_)))
 exact ⟨Nat.zero_le _,fun j hj=>by omega⟩
 rintro i ⟨hi,hs⟩
 try dsimp only
 refine Zh (Zi (oNextStr J ZP ?_))
 refine oExtN J (Zn (Za (Zh (wC (fun h15=>?_) (fun h15=>?_)))))
 have hil:i<s.size:=h15
 rw [nextV_rn hil]
 refine Zj (Za (Zk (Zh (Zi (oExt J ZP ?_)))))
 refine oExt J ZP ?_
 refine Zp J (Zp J (Zn (Za (Zk (Zh (Zh (Zi (Zo J (Z2 J J (Zo J (ZS (ZT 21) (fun h21=>?_) (fun h21=>?_))))))))))))
 refine Zq J J (Zo J (Zq J J (oLeq J J (Zt J J (Zp J (Zn (Za (wC (fun h18=>?_) (fun h18=>?_)))))))))
 refine Zj (Za (ZY h18 ?_))
 refine Zj (Zd (Zd (Za ?_)))
 have hno:badC s i=false:=by rw [bad_rn hil];unfold mayR;simp_all <;> omega
 rw [nextP_T hil (ok_lo hno)]
 exact ⟨rfl,i+1,⟨by omega,fun j hj=>by
 by_cases e:j=i
 · subst e;exact hno
 · exact hs j ZO⟩,by omega,cv,Lh⟩
 refine Zh (Zi (Zo J (Zy J J (Zp J (Zn (Za (wC (fun h18=>?_) (fun h18=>?_))))))))
 refine Zj (Za (ZY h18 ?_))
 refine Zj (Zd (Zd (Za ?_)))
 have hno:badC s i=false:=by rw [bad_rn hil];unfold mayR;simp_all <;> omega
 rw [nextP_T hil (ok_lo hno)]
 exact ⟨rfl,i+1,⟨by omega,fun j hj=>by
 by_cases e:j=i
 · subst e;exact hno
 · exact hs j ZO⟩,by omega,cv,Lh⟩
 refine Zh (Zi (Zo J (Zy J J (Zp J (Zn (Za (wC (fun h18=>?_) (fun h18=>?_))))))))
 refine Zj (Za (ZY h18 ?_))
 refine Zj (Zd (Zd (Za ?_)))
 have hno:badC s i=false:=by rw [bad_rn hil];unfold mayR;simp_all <;> omega
 rw [nextP_T hil (ok_lo hno)]
 exact ⟨rfl,i+1,⟨by omega,fun j hj=>by
 by_cases e:j=i
 · subst e;exact hno
 · exact hs j ZO⟩,by omega,cv,Lh⟩
 refine Zi (Zo J (Z2 J J (Zo J (ZS (ZT 31) (fun h31=>?_) (fun h31=>?_)))))
 refine Zq J J (Zo J (Zq J J (oLeq J J (Zt J J (Zo J (ZS (ZT 35) (fun h35=>?_) (fun h35=>?_)))))))
 refine Zq J J (Zo J (Zq J J (Z1 J J (Zt J J (Zp J (Zn (Za (wC (fun h18=>?_) (fun h18=>?_)))))))))
 refine Zj (Zd (Zd (Za ?_)))
 have hno:badC s i=false:=by rw [bad_rn hil];unfold mayR;simp_all <;> omega
 rw [nextP_T hil (ok_lo hno)]
 exact ⟨rfl,i+1,⟨by omega,fun j hj=>by
 by_cases e:j=i
 · subst e;exact hno
 · exact hs j ZO⟩,by omega,cv,Lh⟩
 refine Zh (Zi (Zp J (Zn (Za (Zl (Zf (Zf (Zc (Zf (Zzb ?_))))))))))
 have hyes:badC s i=true:=by rw [bad_rn hil];unfold mayR;simp_all <;> omega
 exact ⟨(),trivial,by unfold nameF4;rw [if_neg hs24,if_neg hz,if_pos (any_T hil hyes)];rfl,Lh⟩
 refine Zr J J J J (Zr J J J J (Zu J J (Zp J (Zn (Za (ZY h18 ?_))))))
 refine Zh (Zi (Zp J (Zn (Za (Zl (Zf (Zf (Zc (Zf (Zzb ?_))))))))))
 have hyes:badC s i=true:=by rw [bad_rn hil];unfold mayR;simp_all <;> omega
 exact ⟨(),trivial,by unfold nameF4;rw [if_neg hs24,if_neg hz,if_pos (any_T hil hyes)];rfl,Lh⟩
 refine Zr J J J J (Zr J J J J (Zu J J (Zo J (Zr J J J J (Zr J J J J (Zu J J (Zp J (Zn (Za (ZY h18 ?_))))))))))
 refine Zh (Zi (Zp J (Zn (Za (Zl (Zf (Zf (Zc (Zf (Zzb ?_))))))))))
 have hyes:badC s i=true:=by rw [bad_rn hil];unfold mayR;simp_all <;> omega
 exact ⟨(),trivial,by unfold nameF4;rw [if_neg hs24,if_neg hz,if_pos (any_T hil hyes)];rfl,Lh⟩
 refine Zr J J J J (Zr J J J J (Zu J J (Zp J (Zn (Za (wCondF J (Zh (Zi (Zo J (Zy J J (Zp J (Zn (Za (wC (fun h18=>?_) (fun h18=>?_)))))))))))))))
 refine Zj (Za (ZY h18 ?_))
 refine Zj (Zd (Zd (Za ?_)))
 have hno:badC s i=false:=by rw [bad_rn hil];unfold mayR;simp_all <;> omega
 rw [nextP_T hil (ok_lo hno)]
 exact ⟨rfl,i+1,⟨by omega,fun j hj=>by
 by_cases e:j=i
 · subst e;exact hno
 · exact hs j ZO⟩,by omega,cv,Lh⟩
 refine Zh (Zi (Zo J (Zy J J (Zp J (Zn (Za (wC (fun h18=>?_) (fun h18=>?_))))))))
 refine Zj (Za (ZY h18 ?_))
 refine Zj (Zd (Zd (Za ?_)))
 have hno:badC s i=false:=by rw [bad_rn hil];unfold mayR;simp_all <;> omega
 rw [nextP_T hil (ok_lo hno)]
 exact ⟨rfl,i+1,⟨by omega,fun j hj=>by
 by_cases e:j=i
 · subst e;exact hno
 · exact hs j ZO⟩,by omega,cv,Lh⟩
 refine Zi (Zo J (Z2 J J (Zo J (ZS (ZT 31) (fun h31=>?_) (fun h31=>?_)))))
 refine Zq J J (Zo J (Zq J J (oLeq J J (Zt J J (Zo J (ZS (ZT 35) (fun h35=>?_) (fun h35=>?_)))))))
 refine Zq J J (Zo J (Zq J J (Z1 J J (Zt J J (Zp J (Zn (Za (wC (fun h18=>?_) (fun h18=>?_)))))))))
 refine Zj (Zd (Zd (Za ?_)))
 have hno:badC s i=false:=by rw [bad_rn hil];unfold mayR;simp_all <;> omega
 rw [nextP_T hil (ok_lo hno)]
 exact ⟨rfl,i+1,⟨by omega,fun j hj=>by
 by_cases e:j=i
 · subst e;exact hno
 · exact hs j ZO⟩,by omega,cv,Lh⟩
 refine Zh (Zi (Zp J (Zn (Za (Zl (Zf (Zf (Zc (Zf (Zzb ?_))))))))))
 have hyes:badC s i=true:=by rw [bad_rn hil];unfold mayR;simp_all <;> omega
 exact ⟨(),trivial,by unfold nameF4;rw [if_neg hs24,if_neg hz,if_pos (any_T hil hyes)];rfl,Lh⟩
 refine Zr J J J J (Zr J J J J (Zu J J (Zp J (Zn (Za (ZY h18 ?_))))))
 refine Zh (Zi (Zp J (Zn (Za (Zl (Zf (Zf (Zc (Zf (Zzb ?_))))))))))
 have hyes:badC s i=true:=by rw [bad_rn hil];unfold mayR;simp_all <;> omega
 exact ⟨(),trivial,by unfold nameF4;rw [if_neg hs24,if_neg hz,if_pos (any_T hil hyes)];rfl,Lh⟩
 refine Zr J J J J (Zr J J J J (Zu J J (Zo J (Zr J J J J (Zr J J J J (Zu J J (Zp J (Zn (Za (ZY h18 ?_))))))))))
 refine Zh (Zi (Zp J (Zn (Za (Zl (Zf (Zf (Zc (Zf (Zzb ?_))))))))))
 have hyes:badC s i=true:=by rw [bad_rn hil];unfold mayR;simp_all <;> omega
 exact ⟨(),trivial,by unfold nameF4;rw [if_neg hs24,if_neg hz,if_pos (any_T hil hyes)];rfl,Lh⟩
 refine Zm (Zzf ?_)
 obtain rfl:i=s.size:=by omega
 exact ⟨(),trivial,by unfold nameF4;rw [if_neg hs24,if_neg hz,if_neg (by rw [any_F hs];simp)];rfl,Lh⟩
theorem indexFunc_sym1 {B:Base}{w:World}{R1:Res}(hS:St B [R1] w) (l:List ApiSymbol) (A:Option Addr) (n cp:Nat) (hn:n=l.length) (hC:kApiSymbol.C B.e A l) (gf:Nat) (lb:Array Value) (p:ApiSymbol→Bool) (hg:goodF Tryz.prog gf=true)
 (hh:∀ B' w (x:ApiSymbol),Grow B.e B'.e→x ∈ l→St B' [R1] w→CW gf (#[]++[Value.agg #[.string x.fName,.bool x.fLocal,.int .i64 x.fSort,.int .i64 x.fKind,.int .i64 x.fDef]].toArray++lb) w (Ret B' (fun _:Unit=>True) (fun _=>.bool (p x)) (fun _=>[R1]))) :
 CW 35 #[.slice A n cp,.func (.func gf) #[] lb] w (Ret B (fun _:Unit=>True) (fun _=>.int .i64 (idxI p l)) (fun _=>[R1])):=by
 subst hn
 have hl:=hC.1
 refine ZX Tryz.func35 hS ?_
 refine Zh (Zi (Zp J (Zn (Za (Zh (Zh (Zi (Zo J (Zv J J (Zo J (Zn (Za (Zk (wLoop (ι:=Nat) (fun i=>[(0,.slice A l.length cp),(1,.func (.func gf) #[] lb),(7,.int .i64 (l.length:Int)),(8,.int .i64 (i:Int))]) (fun i=>[R1]) (fun i=>i≤l.length∧∀ y ∈ l.take i,p y=false) (fun i=>l.length-i) 0 ?_ cv (Leads.has ZQ) ?_))))))))))))))
 exact ⟨Nat.zero_le _,by simp⟩
 rintro i ⟨hi,hs⟩
 try dsimp only
 refine Zh (Zi (Zx J J (Zn (Za (Zh (wC (fun h9=>?_) (fun h9=>?_)))))))
 obtain ⟨x,hx⟩:∃ x,l[i]?=some x:=⟨_,List.getElem?_eq_getElem ZO⟩
 obtain ⟨e1,cs1,hE⟩:=hC.elm hx
 obtain rfl:=kApiSymbol_open hE.K
 refine Zj (Za (Zh (Zk (Zh (Zi (Zo J (Zp J (Zn (Za (Zh (Zi (Zo J (Zo J (Zo J (oIdxE J J (hE) ZO J J ?_)))))))))))))))
 have hc14:=(hE).cell
 refine Zlx hc14 ?_
 (refine oCallV rfl rfl rfl hg (fun w hS=>frame hS ZQ (fun B' hB hS'=>hh B' w x hB (List.mem_of_getElem? hx) hS')) ?_;rintro ⟨⟩ -)
 refine Zn (Za (wC (fun h16=>?_) (fun h16=>?_)))
 refine Zh (Zi (Zo J (Zzc ?_)))
 exact ⟨(),trivial,by rw [idxI_stop hs hx (by simpa using h16)];rfl,Lh⟩
 refine Zj (Zzg ?_)
 refine Zo J (Zn (Za ?_))
 exact ⟨rfl,i+1,⟨by omega,take_not hs hx (by simpa using h16)⟩,by omega,cv,Lh⟩
 refine Zm (Zzf ?_)
 obtain rfl:i=l.length:=by omega
 rw [List.take_length] at hs
 exact ⟨(),trivial,by rw [idxI_none hs];rfl,Lh⟩
theorem indexFunc_sym2 {B:Base}{w:World}{R1 R2:Res}(hS:St B [R1,R2] w) (l:List ApiSymbol) (A:Option Addr) (n cp:Nat) (hn:n=l.length) (hC:kApiSymbol.C B.e A l) (gf:Nat) (lb:Array Value) (p:ApiSymbol→Bool) (hg:goodF Tryz.prog gf=true)
 (hh:∀ B' w (x:ApiSymbol),Grow B.e B'.e→x ∈ l→St B' [R1,R2] w→CW gf (#[]++[Value.agg #[.string x.fName,.bool x.fLocal,.int .i64 x.fSort,.int .i64 x.fKind,.int .i64 x.fDef]].toArray++lb) w (Ret B' (fun _:Unit=>True) (fun _=>.bool (p x)) (fun _=>[R1,R2]))) :
 CW 35 #[.slice A n cp,.func (.func gf) #[] lb] w (Ret B (fun _:Unit=>True) (fun _=>.int .i64 (idxI p l)) (fun _=>[R1,R2])):=by
 subst hn
 have hl:=hC.1
 refine ZX Tryz.func35 hS ?_
 refine Zh (Zi (Zp J (Zn (Za (Zh (Zh (Zi (Zo J (Zv J J (Zo J (Zn (Za (Zk (wLoop (ι:=Nat) (fun i=>[(0,.slice A l.length cp),(1,.func (.func gf) #[] lb),(7,.int .i64 (l.length:Int)),(8,.int .i64 (i:Int))]) (fun i=>[R1,R2]) (fun i=>i≤l.length∧∀ y ∈ l.take i,p y=false) (fun i=>l.length-i) 0 ?_ cv (Leads.has ZQ) ?_))))))))))))))
 exact ⟨Nat.zero_le _,by simp⟩
 rintro i ⟨hi,hs⟩
 try dsimp only
 refine Zh (Zi (Zx J J (Zn (Za (Zh (wC (fun h9=>?_) (fun h9=>?_)))))))
 obtain ⟨x,hx⟩:∃ x,l[i]?=some x:=⟨_,List.getElem?_eq_getElem ZO⟩
 obtain ⟨e1,cs1,hE⟩:=hC.elm hx
 obtain rfl:=kApiSymbol_open hE.K
 refine Zj (Za (Zh (Zk (Zh (Zi (Zo J (Zp J (Zn (Za (Zh (Zi (Zo J (Zo J (Zo J (oIdxE J J (hE) ZO J J ?_)))))))))))))))
 have hc14:=(hE).cell
 refine Zlx hc14 ?_
 (refine oCallV rfl rfl rfl hg (fun w hS=>frame hS ZQ (fun B' hB hS'=>hh B' w x hB (List.mem_of_getElem? hx) hS')) ?_;rintro ⟨⟩ -)
 refine Zn (Za (wC (fun h16=>?_) (fun h16=>?_)))
 refine Zh (Zi (Zo J (Zzc ?_)))
 exact ⟨(),trivial,by rw [idxI_stop hs hx (by simpa using h16)];rfl,Lh⟩
 refine Zj (Zzg ?_)
 refine Zo J (Zn (Za ?_))
 exact ⟨rfl,i+1,⟨by omega,take_not hs hx (by simpa using h16)⟩,by omega,cv,Lh⟩
 refine Zm (Zzf ?_)
 obtain rfl:i=l.length:=by omega
 rw [List.take_length] at hs
 exact ⟨(),trivial,by rw [idxI_none hs];rfl,Lh⟩
theorem containsFunc_sym {B:Base}{w:World}{R1:Res}(hS:St B [R1] w) (l:List ApiSymbol) (A:Option Addr) (n cp:Nat) (hn:n=l.length) (hC:kApiSymbol.C B.e A l) (gf:Nat) (lb:Array Value) (p:ApiSymbol→Bool) (hg:goodF Tryz.prog gf=true)
 (hh:∀ B' w (x:ApiSymbol),Grow B.e B'.e→x ∈ l→St B' [R1] w→CW gf (#[]++[Value.agg #[.string x.fName,.bool x.fLocal,.int .i64 x.fSort,.int .i64 x.fKind,.int .i64 x.fDef]].toArray++lb) w (Ret B' (fun _:Unit=>True) (fun _=>.bool (p x)) (fun _=>[R1]))) :
 CW 66 #[.slice A n cp,.func (.func gf) #[] lb] w (Ret B (fun _:Unit=>True) (fun _=>.bool (l.any p)) (fun _=>[R1])):=by
 refine ZX Tryz.func66 hS ?_
 refine Zh (Zi (Zp J (Zn (Za (Zh (Zi (Zo J (Zo J ?_))))))))
 (refine ZC0 rfl ZK (fun w hS=>frame hS ZQ (fun B' hB hS'=>indexFunc_sym1 hS' l A n cp hn (Kd.C_grow hB hC) gf lb p hg (fun B2 w2 x hB2 hx hS2=>hh B2 w2 x (hB.trans hB2) hx hS2))) ?_;rintro ⟨⟩ -)
 refine Z2 J J (Zzh ?_)
 exact ⟨(),trivial,by show Value.bool (decide (0≤idxI p l))=_;congr 1;rw [Bool.eq_iff_iff,decide_eq_true_eq];exact idxI_iff,Lh⟩
theorem obj_Items {B:Base}{w:World}(hS:St B [] w) (o:ApiObject) (oc:List Value) (ho:kApiObject.K B.e o oc) (hg:GoodO o) :
 CW 12 #[.agg oc.toArray] w (Ret B (fun _:Unit=>True) (fun _=>.int .i64 (itemsF o)) (fun _=>[])):=by
 obtain ⟨A0,c0,A1,c1,A2,c2,rfl,m0,q0,m1,q1,m2,q2⟩:=kApiObject_open ho
 have hn1:=hg.funcs
 have hn2:=hg.datas
 refine ZX Tryz.func12 hS ?_
 refine Zh (Zi (oBox J ZP (fun b1=>?_)))
 refine Zp J (Zn (Za (Zh (Zi (Zz (n:=1) (m:=1) J J J (Zld ?_))))))
 refine Zv J J (Zz (n:=2) (m:=2) J J J (Zld ?_))
 refine Zv J J ?_
 first | refine oAdd rfl rfl ZO ?_ | refine oAddW rfl rfl ?_
 refine Zp J (Zza ?_)
 exact ⟨(),trivial,rfl,Lh⟩
theorem obj_defines {B:Base}{w:World}(hS:St B [] w) (o:ApiObject) (oc:List Value) (ho:kApiObject.K B.e o oc) (hg:GoodO o) (x:ApiSymbol) (xc:List Value) (hx:kApiSymbol.K B.e x xc) (item:Int) :
 CW 37 #[.agg oc.toArray,.agg xc.toArray,.int .i64 item] w (Ret B (fun _:Unit=>True) (fun _=>.bool (definesF o item x)) (fun _=>[])):=by
 obtain ⟨A0,c0,A1,c1,A2,c2,rfl,m0,q0,m1,q1,m2,q2⟩:=kApiObject_open ho
 obtain rfl:=kApiSymbol_open hx
 have hn1:=hg.funcs
 have hn2:=hg.datas
 have hit:itemsF o=(o.fFuncs.length:Int)+(o.fDatas.length:Int):=rfl
 refine ZX Tryz.func37 hS ?_
 refine Zh (Zi (oBox J ZP (fun b3=>?_)))
 refine oBox J ZP (fun b4=>?_)
 refine Zp J (Zn (Za (Zh (Zk (Zh (Zh (Zi (Zo J (Zx J J (Zp J (Zn (Za (wC (fun h7=>?_) (fun h7=>?_))))))))))))))
 refine Zj (Za (ZY h7 ?_))
 refine Zh (Zi (Zzd ?_))
 exact ⟨(),trivial,by unfold definesF;rw [if_pos (by first | omega | (rcases Int.lt_or_le item 0 with h | h;exact .inl h;right;first | omega | simp_all))];rfl,Lh⟩
 refine Zi (Zo J (Zla ?_))
 (refine ZC0 rfl ZK (fun w hS=>frame hS ZQ (fun B' hB hS'=>obj_Items hS' o _ (kApiObject.K_grow hB ho) hg)) ?_;rintro ⟨⟩ -)
 refine Z2 J J (Zp J (Zn (Za (wC (fun h7=>?_) (fun h7=>?_)))))
 refine Zh (Zi (Zzd ?_))
 exact ⟨(),trivial,by unfold definesF;rw [if_pos (by first | omega | (rcases Int.lt_or_le item 0 with h | h;exact .inl h;right;first | omega | simp_all))];rfl,Lh⟩
 refine Zh (Zi (Zo J (Zz (n:=1) (m:=1) J J J (Zld ?_))))
 refine Zv J J (Zx J J (Zp J (Zn (Za (wC (fun h14=>?_) (fun h14=>?_))))))
 refine Zh (Zi (Zz (n:=2) (m:=2) J J J (Zld ?_)))
 refine Zy J J (Zo J (ZS (ZT 23) (fun h23=>?_) (fun h23=>?_)))
 refine Zq J J (Zz (n:=4) (m:=4) J J J (Zzi ?_))
 refine Zq J J (Zo J (Zq J J (Zy J J (Zt J J (Zzd ?_)))))
 exact ⟨(),trivial,by unfold definesF;rw [if_neg ZO,if_pos ZO];simp [resVal,h23],Lh⟩
 refine Zr J J J J (Zr J J J J (Zr J J J J (Zr J J J J (Zu J J (Zzd ?_)))))
 exact ⟨(),trivial,by unfold definesF;rw [if_neg ZO,if_pos ZO];simp [resVal,h23],Lh⟩
 refine Zj (Zd (Za (Zh (Zi (Zz (n:=2) (m:=2) J J J (Zld ?_))))))
 refine Zy J J (Zo J (ZS (ZT 32) (fun h32=>?_) (fun h32=>?_)))
 refine Zq J J (Zz (n:=4) (m:=4) J J J (Zzi ?_))
 refine Zq J J (Zo J (Zq J J (Zz (n:=1) (m:=1) J J J (Zzi ?_))))
 refine Zq J J (Zv J J (Zq J J (oSub J J ZO ?_)))
 refine Zq J J (Zy J J (Zt J J (Zzh ?_)))
 exact ⟨(),trivial,by unfold definesF;rw [if_neg ZO,if_neg ZO];simp [resVal,h32],Lh⟩
 refine Zr J J J J (Zr J J J J (Zr J J J J (Zr J J J J (Zr J J J J (Zzj ?_)))))
 exact ⟨(),trivial,by unfold definesF;rw [if_neg ZO,if_neg ZO];simp [resVal,h32],Lh⟩
theorem obj_Definer1 {B:Base}{w:World}(o:ApiObject) (A0:Option Addr) (c0:Nat) (A1:Option Addr) (c1:Nat) (A2:Option Addr) (c2 b2 b3:Nat) (item:Int) (hS:St B [blk b2 26 [.slice A0 o.fSymbols.length c0,.slice A1 o.fFuncs.length c1,.slice A2 o.fDatas.length c2],blk b3 3 [.int .i64 item]] w) (ho:kApiObject.K B.e o [.slice A0 o.fSymbols.length c0,.slice A1 o.fFuncs.length c1,.slice A2 o.fDatas.length c2]) (hg:GoodO o) (x:ApiSymbol) (hx:kApiSymbol.K B.e x [.string x.fName,.bool x.fLocal,.int .i64 x.fSort,.int .i64 x.fKind,.int .i64 x.fDef]) :
 CW 36 #[.agg #[.string x.fName,.bool x.fLocal,.int .i64 x.fSort,.int .i64 x.fKind,.int .i64 x.fDef],.pointer (some ⟨b2,0,none⟩),.pointer (some ⟨b3,0,none⟩)] w (Ret B (fun _:Unit=>True) (fun _=>.bool (definesF o item x)) (fun _=>[blk b2 26 [.slice A0 o.fSymbols.length c0,.slice A1 o.fFuncs.length c1,.slice A2 o.fDatas.length c2],blk b3 3 [.int .i64 item]])):=by
 refine ZX Tryz.func36 hS ?_
 refine Zh (Zi (oBox J ZP (fun b3=>?_)))
 refine Zp J (Zn (Za (Zh (Zi (Zla ?_)))))
 refine Zla ?_
 refine Zld ?_
 (refine ZC0 rfl ZK (fun w hS=>frame hS ZQ (fun B' hB hS'=>obj_defines hS' o _ (kApiObject.K_grow hB ho) hg x _ (kApiSymbol.K_grow hB hx) item)) ?_;rintro ⟨⟩ -)
 refine Zp J (Zza ?_)
 exact ⟨(),trivial,rfl,Lh⟩
theorem obj_Definer {B:Base}{w:World}(hS:St B [] w) (o:ApiObject) (oc:List Value) (ho:kApiObject.K B.e o oc) (hg:GoodO o) (item:Int) :
 CW 14 #[.agg oc.toArray,.int .i64 item] w (Ret B (fun _:Unit=>True) (fun _=>.int .i64 (definerF o item)) (fun _=>[])):=by
 obtain ⟨A0,c0,A1,c1,A2,c2,rfl,m0,q0,m1,q1,m2,q2⟩:=kApiObject_open ho
 refine ZX Tryz.func14 hS ?_
 refine Zh (Zi (oBox J ZP (fun b2=>?_)))
 refine oBox J ZP (fun b3=>?_)
 refine Zp J (Zn (Za (Zh (Zi (Zz (n:=0) (m:=0) J J J (Zld ?_))))))
 refine oMakeFunc J ?_
 (refine ZC0 rfl ZK (fun w hS=>frame hS ZQ (fun B' hB hS'=>indexFunc_sym2 hS' o.fSymbols A0 o.fSymbols.length c0 rfl (Kd.C_grow hB q0) 36 #[.pointer (some ⟨b2,0,none⟩),.pointer (some ⟨b3,0,none⟩)] (definesF o item) ZK (fun B2 w2 x hB2 hx2 hS2=>obj_Definer1 o A0 c0 A1 c1 A2 c2 b2 b3 item hS2 (kApiObject.K_grow (hB.trans hB2) ho) hg x (kApiSymbol_mk _ x)))) ?_;rintro ⟨⟩ -)
 refine Zp J (Zza ?_)
 exact ⟨(),trivial,rfl,Lh⟩
theorem obj_kind {B:Base}{w:World}(hS:St B [] w) (x:ApiSymbol) (xc:List Value) (hx:kApiSymbol.K B.e x xc) :
 CW 65 #[.agg xc.toArray] w (Ret B (fun _:Unit=>True) (fun _=>.bool (kindB x)) (fun _=>[])):=by
 obtain rfl:=kApiSymbol_open hx
 refine ZX Tryz.func65 hS ?_
 refine Zh (Zi (oBox J ZP (fun b1=>?_)))
 refine Zp J (Zn (Za (Zh (Zh (Zi (Zz (n:=2) (m:=2) J J J (Zld ?_)))))))
 refine Zn (Za (Zk (Zh (Zi (Zy J J (Zp J (Zn (Za (wC (fun h5=>?_) (fun h5=>?_))))))))))
 refine Zh (Zi (Zz (n:=3) (m:=3) J J J (Zld ?_)))
 (refine ZC0 rfl ZK (fun w hS=>frame hS ZQ (fun B' hB hS'=>sig_Is hS' x.fKind)) ?_;rintro ⟨⟩ -)
 refine Zno ?_
 refine Zp J (Zn (Za (Zl (Zf (Zzb ?_)))))
 exact ⟨(),trivial,by unfold kindB;rw [show x.fSort=1 from h5];simp [resVal],Lh⟩
 refine Zh (Zi (Zy J J (Zp J (Zn (Za (wC (fun h11=>?_) (fun h11=>?_)))))))
 refine Zh (Zi (Zz (n:=3) (m:=3) J J J (Zld ?_)))
 (refine ZC0 rfl ZK (fun w hS=>frame hS ZQ (fun B' hB hS'=>sig_Text hS' x.fKind)) ?_;rintro ⟨⟩ -)
 refine oSEq J J (Zzd ?_)
 exact ⟨(),trivial,by unfold kindB;rw [show x.fSort=2 from h11];simp [resVal];exact Iff.rfl,Lh⟩
 refine Zj (Zd (Za (Zh (Zi (Zzh ?_)))))
 exact ⟨(),trivial,by unfold kindB;simp [resVal,show ¬ x.fSort=1 from h5,show ¬ x.fSort=2 from h11],Lh⟩
theorem obj_named {B:Base}{w:World}(x:ApiSymbol) (b5:Nat) (hS:St B [blk b5 37 [.string x.fName,.bool x.fLocal,.int .i64 x.fSort,.int .i64 x.fKind,.int .i64 x.fDef]] w) (y:ApiSymbol) :
 CW 61 #[.agg #[.string y.fName,.bool y.fLocal,.int .i64 y.fSort,.int .i64 y.fKind,.int .i64 y.fDef],.pointer (some ⟨b5,0,none⟩)] w (Ret B (fun _:Unit=>True) (fun _=>.bool (nameP x y)) (fun _=>[blk b5 37 [.string x.fName,.bool x.fLocal,.int .i64 x.fSort,.int .i64 x.fKind,.int .i64 x.fDef]])):=by
 refine ZX Tryz.func61 hS ?_
 refine Zh (Zi (oBox J ZP (fun b2=>?_)))
 refine Zp J (Zn (Za (Zh (Zi (Zz (n:=0) (m:=0) J J J (Zld ?_))))))
 refine Zz (n:=0) (m:=0) J J J (Zld ?_)
 refine oSEq J J (Zzh ?_)
 exact ⟨(),trivial,rfl,Lh⟩
def whenF (is:Bool) (e:Int):Int:=if is=true then e else 0
theorem obj_when {B:Base}{w:World}(hS:St B [] w) (is:Bool) (e:Int) :
 CW 64 #[.bool is,.int .i64 e] w (Ret B (fun _:Unit=>True) (fun _=>.int .i64 (whenF is e)) (fun _=>[])):=by
 refine ZX Tryz.func64 hS ?_
 refine Zh (Zi (Zp J (Zn (Za (Zh (Zh (Zi (Zo J (Zn (Za (wC (fun h5=>?_) (fun h5=>?_))))))))))))
 refine Zh (Zi (Zo J (Zze ?_)))
 exact ⟨(),trivial,by unfold whenF;rw [if_pos h5];rfl,Lh⟩
 refine Zj (Za (Zh (Zi (Zzh ?_))))
 exact ⟨(),trivial,by unfold whenF;rw [if_neg (by rw [h5];simp)];rfl,Lh⟩
theorem fst_drop {l:List Int}{i:Nat}{x:Int}(h:l[i]?=some x):fstE (l.drop i)=if x≠0 then x else fstE (l.drop (i+1)):=by
 obtain ⟨hi,rfl⟩:=List.getElem?_eq_some_iff.1 h
 rw [← List.getElem_cons_drop (h:=hi)];rfl
theorem obj_first {B:Base}{w:World}(hS:St B [] w) (l:List Int) (A:Option Addr) (n cp:Nat) (hn:n=l.length) (hC:(Kd.int .i64).C B.e A l) :
 CW 62 #[.slice A n cp] w (Ret B (fun _:Unit=>True) (fun _=>.int .i64 (fstE l)) (fun _=>[])):=by
 subst hn
 have hl:=hC.1
 refine ZX Tryz.func62 hS ?_
 refine Zh (Zi (Zp J (Zn (Za (Zh (Zh (Zi (Zo J (Zv J J (Zo J (Zn (Za (Zk (wLoop (ι:=Nat) (fun i=>[(5,.slice A l.length cp),(6,.int .i64 (l.length:Int)),(7,.int .i64 (i:Int))]) (fun i=>[]) (fun i=>i≤l.length∧fstE (l.drop i)=fstE l) (fun i=>l.length-i) 0 ?_ cv (Leads.has ZQ) ?_))))))))))))))
 exact ⟨Nat.zero_le _,rfl⟩
 rintro i ⟨hi,hs⟩
 try dsimp only
 refine Zh (Zi (Zx J J (Zn (Za (Zh (wC (fun h8=>?_) (fun h8=>?_)))))))
 obtain ⟨x,hx⟩:∃ x,l[i]?=some x:=⟨_,List.getElem?_eq_getElem ZO⟩
 obtain ⟨e1,cs1,hE⟩:=hC.elm hx
 obtain rfl:=(show cs1=[Value.int .i64 x] from hE.K)
 refine Zj (Za (Zh (Zk (Zh (Zi (oIdxE J J (hE) ZO J J ?_))))))
 have hc9:=(hE).cell
 refine Zlx hc9 ?_
 refine Zp J (Zn (Za (Zh (Zi (Zo J (Z0 J J (Zn (Za (wC (fun h12=>?_) (fun h12=>?_))))))))))
 refine Zh (Zi (Zo J (Zzc ?_)))
 exact ⟨(),trivial,by rw [← hs,fst_drop hx,if_pos (by first | exact h12 | simpa using h12)];rfl,Lh⟩
 refine Zj (Zzg ?_)
 refine Zo J (Zn (Za ?_))
 exact ⟨rfl,i+1,⟨by omega,by rw [← hs,fst_drop hx,if_neg (by first | exact h12 | simpa using h12)]⟩,by omega,cv,Lh⟩
 refine Zm (Zzf ?_)
 obtain rfl:i=l.length:=by omega
 exact ⟨(),trivial,by rw [← hs,List.drop_length];rfl,Lh⟩
theorem when_fst {c:Bool}{e:Int}{l:List Int}(h:e≠0):fstE (whenF c e :: l)=if c=true then e else fstE l:=by
 cases c with
 | false=>rfl
 | true=>show (if e≠0 then e else fstE l)=e;rw [if_pos h]
theorem sym_fir {o:ApiObject}{i:Nat}{x:ApiSymbol} : fstE [nameF4 x.fName,whenF (kindB x) 8,whenF ((o.fSymbols.take i).any (nameP x)) 12,whenF (decide (x.fDef≠-1) && (decide (x.fDef≠(aheadN x (o.fSymbols.take i):Int)) || decide ((mostN o x:Int)≤(aheadN x (o.fSymbols.take i):Int)))) 9,whenF (x.fLocal && decide (x.fDef = -1)) 13]=symX o i x:=by
 have h4:(decide (x.fDef≠-1) && (decide (x.fDef≠(aheadN x (o.fSymbols.take i):Int)) || decide ((mostN o x:Int)≤(aheadN x (o.fSymbols.take i):Int))))=true↔x.fDef≠-1∧(x.fDef≠(aheadN x (o.fSymbols.take i):Int)∨(mostN o x:Int)≤x.fDef):=by
  simp only [Bool.and_eq_true,Bool.or_eq_true,decide_eq_true_eq]
  constructor
  · rintro ⟨a,b⟩
    refine ⟨a,?_⟩
    by_cases c:x.fDef=(aheadN x (o.fSymbols.take i):Int)
    · right;rcases b with b | b
      · exact absurd c b
      · omega
    · exact .inl c
  · rintro ⟨a,b⟩
    refine ⟨a,?_⟩
    by_cases c:x.fDef=(aheadN x (o.fSymbols.take i):Int)
    · right;rcases b with b | b
      · exact absurd c b
      · omega
    · exact .inl c
 have h6:(x.fLocal && decide (x.fDef = -1))=true↔x.fLocal=true∧x.fDef = -1:=by simp
 unfold symX
 show (if nameF4 x.fName≠0 then nameF4 x.fName else fstE _)=_
 rw [when_fst (by decide),when_fst (by decide),when_fst (by decide),when_fst (by decide)]
 simp only [h4,h6]
 rfl
theorem obj_symbol {B:Base}{w:World}(hS:St B [] w) (o:ApiObject) (oc:List Value) (ho:kApiObject.K B.e o oc) (hg:GoodO o) (i:Nat) (hi:i<o.fSymbols.length) :
 CW 30 #[.agg oc.toArray,.int .i64 (i:Int)] w (Ret B (fun _:Unit=>True) (fun _=>.int .i64 (symE o i)) (fun _=>[])):=by
 obtain ⟨A0,c0,A1,c1,A2,c2,rfl,m0,q0,m1,q1,m2,q2⟩:=kApiObject_open ho
 have hn0:=hg.syms
 have hn1:=hg.funcs
 have hn2:=hg.datas
 obtain ⟨x,hx⟩:∃ x,o.fSymbols[i]?=some x:=⟨_,List.getElem?_eq_getElem hi⟩
 obtain ⟨e1,cs1,hE⟩:=q0.elm hx
 obtain rfl:=kApiSymbol_open hE.K
 have hxK:=hE.K
 have htl:(o.fSymbols.take i).length=i:=by rw [List.length_take];omega
 have hqt:kApiSymbol.C B.e A0 (o.fSymbols.take i):=C_take q0 i
 rw [symE_at hx,← sym_fir]
 refine ZX Tryz.func30 hS ?_
 refine Zh (Zi (oBox J ZP (fun b2=>?_)))
 refine Zp J (Zn (Za (Zh (Zi (Zz (n:=0) (m:=0) J J J (Zld ?_))))))
 refine Zo J (oIdxE J J (hE) ZO J J ?_)
 have hc14:=(hE).cell
 refine Zlx hc14 ?_
 refine oAlloc J ZP (fun b5=>?_)
 refine Zsa ?_
 refine Zn (Za (Zh (Zi (Zz (n:=1) (m:=1) J J J (Zld ?_)))))
 refine Zv J J (Zp J (Zn (Za (Zh (Zh (Zi (Zz (n:=2) (m:=2) J J J (Zld ?_))))))))
 refine Zy J J (Zn (Za (wC (fun h21=>?_) (fun h21=>?_))))
 refine Zi (Zz (n:=2) (m:=2) J J J (Zld ?_))
 refine Zv J J (Zp J (Zn (Za (Zh (Zi (oMakeFunc J ?_))))))
 refine ZS0 (t:=6) (v':=.int .i64 (mostN o x:Int)) J (by unfold mostN;rw [if_pos (show x.fSort=2 from h21)]) ?_
 refine Zp J (Zn (Za (Zh (Zi (Zp J ?_)))))
 refine ZS0 (t:=8) (v':=.int .i64 (aheadN x (o.fSymbols.take 0):Int)) J (by unfold aheadN;simp) ?_
 refine Zn (Za (Zh (Zh (Zi (Zz (n:=0) (m:=0) J J J (Zld ?_))))))
 refine Zo J (oSliceU J J ZO J ?_)
 refine Zv J J (Zo J (Zn (Za (Zk (wLoop (ι:=Nat) (fun k=>[(1,.int .i64 (i:Int)),(2,.pointer (some ⟨b2,0,none⟩)),(5,.pointer (some ⟨b5,0,none⟩)),(6,.int .i64 (mostN o x:Int)),(7,.func (.func 61) #[] #[.pointer (some ⟨b5,0,none⟩)]),(8,.int .i64 (aheadN x (o.fSymbols.take k):Int)),(29,.slice A0 i c0),(30,.int .i64 (i:Int)),(31,.int .i64 (k:Int))]) (fun k=>[blk b2 26 [.slice A0 o.fSymbols.length c0,.slice A1 o.fFuncs.length c1,.slice A2 o.fDatas.length c2],blk b5 37 [.string x.fName,.bool x.fLocal,.int .i64 x.fSort,.int .i64 x.fKind,.int .i64 x.fDef]]) (fun k=>k≤i) (fun k=>i-k) 0 ?_ cv (Leads.has ZQ) ?_)))))
 exact Nat.zero_le _
 rintro k hk
 have hal:=ahead_le x (o.fSymbols.take k)
 have htk:(o.fSymbols.take k).length≤60:=by rw [List.length_take];omega
 try dsimp only
 refine Zh (Zi (Zx J J (Zn (Za (Zh (wC (fun h32=>?_) (fun h32=>?_)))))))
 obtain ⟨y,hy⟩:∃ y,o.fSymbols[k]?=some y:=⟨_,List.getElem?_eq_getElem ZO⟩
 have hyt:(o.fSymbols.take i)[k]?=some y:=by rw [List.getElem?_take,if_pos ZO,hy]
 obtain ⟨e2,cs2,hE2⟩:=hqt.elm hyt
 obtain rfl:=kApiSymbol_open hE2.K
 refine Zj (Za (Zh (Zk (Zh (Zi (oIdxE J J (hE2) ZO J J ?_))))))
 have hc33:=(hE2).cell
 refine Zlx hc33 ?_
 refine oAlloc J ZP (fun b10=>?_)
 refine Zsa ?_
 refine Zn (Za (Zh (Zi (Zz (n:=2) (m:=2) J J J (Zld ?_)))))
 refine Zz (n:=2) (m:=2) J J J (Zld ?_)
 refine Zy J J (Zo J (ZS (ZT 40) (fun h40=>?_) (fun h40=>?_)))
 refine Zq J J (Zz (n:=4) (m:=4) J J J (Zzi ?_))
 refine Zq J J (Z0 J J (Zt J J (Zn (Za (wC (fun h44=>?_) (fun h44=>?_))))))
 have hap:aheadP x y=true:=by unfold aheadP;simp [show y.fSort=x.fSort from h40];first | exact h44 | simpa using h44
 refine Zi (Zo J ?_)
 first | refine oAdd rfl rfl ZO ?_ | refine oAddW rfl rfl ?_
 refine Zp J ?_
 skip
 refine Zn (Zzg ?_)
 refine Zo J (Zn (Za ?_))
 exact ⟨rfl,k+1,by omega,by omega,by rw [ahead_succ x hy,if_pos hap];exact cv,Lh⟩
 have hap:¬ aheadP x y=true:=by unfold aheadP;simp [show y.fSort=x.fSort from h40];first | exact h44 | simpa using h44
 refine Zj (Zzg ?_)
 refine Zo J (Zn (Za ?_))
 exact ⟨rfl,k+1,by omega,by omega,by rw [ahead_succ x hy,if_neg hap,Nat.add_zero];exact cv,Lh⟩
 have hap:¬ aheadP x y=true:=by unfold aheadP;simp [show ¬ y.fSort=x.fSort from h40]
 refine Zr J J J J (Zr J J J J (Zr J J J J (Zu J J (Zn (Za (wCondF J (Zj (Zzg ?_))))))))
 refine Zo J (Zn (Za ?_))
 exact ⟨rfl,k+1,by omega,by omega,by rw [ahead_succ x hy,if_neg hap,Nat.add_zero];exact cv,Lh⟩
 obtain rfl:k=i:=by omega
 refine Zm (Zb (Zb (Ze (Za (Zh (wDrawG J [0,1,3,6,7,8,9,10,13,14,15,28,29] [(2,[3,6,7,8,9,10,13,14,15,28,29],[]),(4,[6,7,8,9,10,13,14,15,28,29],[]),(5,[6,7,8,9,10,13,14,15,28,29],[]),(11,[13,14,15,28,29],[]),(12,[13,14,15,28,29],[16,17,18,19,20,21,22,23,24,25,26]),(27,[28,29],[30,31,32,33,34]),(35,[],[]),(36,[],[]),(37,[],[])] [38] 24 ZK J J (fun w0=>?_)))))))
 refine Zz (n:=0) (m:=0) J J J (Zld ?_)
 refine Zla ?_
 refine Zz (n:=0) (m:=0) J J J (Zld ?_)
 refine Zo J (oSliceU J J ZO J ?_)
 refine Zo J (Zz (n:=4) (m:=4) J J J (Zld ?_))
 refine Z0 J J (Zz (n:=1) (m:=1) J J J (Zld ?_))
 refine Z4 (Z5 J ?_)
 (refine ZC0 rfl ZK (fun w hS=>frame hS ZQ (fun B' hB hS'=>name_Check hS' x.fName)) ?_;rintro ⟨⟩ -)
 refine ZG ?_ J (fun w0=>?_)
 refine Z8 J J J J (fun w0=>?_) ?_
 refine Zla ?_
 exact Z9 rfl
 refine Z8 J J J J (fun w0=>?_) ?_
 refine Zz (n:=0) (m:=0) J J J ?_
 exact Z9 rfl
 refine Z8 J J J J (fun w0=>?_) ?_
 refine Zld ?_
 exact Z9 rfl
 refine Z8 J J J J (fun w0=>?_) ?_
 refine Zo J ?_
 exact Z9 rfl
 refine Z8 J J J J (fun w0=>?_) ?_
 refine oSliceU J J ZO J ?_
 exact Z9 rfl
 refine Z8 J J J J (fun w0=>?_) ?_
 refine Zo J ?_
 exact Z9 rfl
 refine Z8 J J J J (fun w0=>?_) ?_
 refine Zz (n:=4) (m:=4) J J J ?_
 exact Z9 rfl
 refine Z8 J J J J (fun w0=>?_) ?_
 refine Zld ?_
 exact Z9 rfl
 refine Z8 J J J J (fun w0=>?_) ?_
 refine Z0 J J ?_
 exact Z9 rfl
 refine Z8 J J J J (fun w0=>?_) ?_
 refine Zz (n:=1) (m:=1) J J J ?_
 exact Z9 rfl
 refine Z8 J J J J (fun w0=>?_) ?_
 refine Zld ?_
 exact Z9 rfl
 exact AgainG.nil
 refine Z4 (Z5 J ?_)
 (refine ZC0 rfl ZK (fun w hS=>frame hS ZQ (fun B' hB hS'=>obj_kind hS' x _ (kApiSymbol.K_grow hB hxK))) ?_;rintro ⟨⟩ -)
 refine ZG ?_ J (fun w0=>?_)
 refine Z8 J J J J (fun w0=>?_) ?_
 refine Zz (n:=0) (m:=0) J J J ?_
 exact Z9 rfl
 refine Z8 J J J J (fun w0=>?_) ?_
 refine Zld ?_
 exact Z9 rfl
 refine Z8 J J J J (fun w0=>?_) ?_
 refine Zo J ?_
 exact Z9 rfl
 refine Z8 J J J J (fun w0=>?_) ?_
 refine oSliceU J J ZO J ?_
 exact Z9 rfl
 refine Z8 J J J J (fun w0=>?_) ?_
 refine Zo J ?_
 exact Z9 rfl
 refine Z8 J J J J (fun w0=>?_) ?_
 refine Zz (n:=4) (m:=4) J J J ?_
 exact Z9 rfl
 refine Z8 J J J J (fun w0=>?_) ?_
 refine Zld ?_
 exact Z9 rfl
 refine Z8 J J J J (fun w0=>?_) ?_
 refine Z0 J J ?_
 exact Z9 rfl
 refine Z8 J J J J (fun w0=>?_) ?_
 refine Zz (n:=1) (m:=1) J J J ?_
 exact Z9 rfl
 refine Z8 J J J J (fun w0=>?_) ?_
 refine Zld ?_
 exact Z9 rfl
 exact AgainG.nil
 refine Z4 (Z5 J ?_)
 (refine ZC0 rfl ZK (fun w hS=>frame hS ZQ (fun B' hB hS'=>obj_when hS' (kindB x) 8)) ?_;rintro ⟨⟩ -)
 refine ZG ?_ J (fun w0=>?_)
 refine Z8 J J J J (fun w0=>?_) ?_
 refine Zz (n:=0) (m:=0) J J J ?_
 exact Z9 rfl
 refine Z8 J J J J (fun w0=>?_) ?_
 refine Zld ?_
 exact Z9 rfl
 refine Z8 J J J J (fun w0=>?_) ?_
 refine Zo J ?_
 exact Z9 rfl
 refine Z8 J J J J (fun w0=>?_) ?_
 refine oSliceU J J ZO J ?_
 exact Z9 rfl
 refine Z8 J J J J (fun w0=>?_) ?_
 refine Zo J ?_
 exact Z9 rfl
 refine Z8 J J J J (fun w0=>?_) ?_
 refine Zz (n:=4) (m:=4) J J J ?_
 exact Z9 rfl
 refine Z8 J J J J (fun w0=>?_) ?_
 refine Zld ?_
 exact Z9 rfl
 refine Z8 J J J J (fun w0=>?_) ?_
 refine Z0 J J ?_
 exact Z9 rfl
 refine Z8 J J J J (fun w0=>?_) ?_
 refine Zz (n:=1) (m:=1) J J J ?_
 exact Z9 rfl
 refine Z8 J J J J (fun w0=>?_) ?_
 refine Zld ?_
 exact Z9 rfl
 exact AgainG.nil
 refine Z4 (Z5 J ?_)
 (refine ZC0 rfl ZK (fun w hS=>frame hS ZQ (fun B' hB hS'=>containsFunc_sym hS' (o.fSymbols.take k) A0 k c0 htl.symm (Kd.C_grow hB hqt) 61 #[.pointer (some ⟨b5,0,none⟩)] (nameP x) ZK (fun B2 w2 y hB2 hy2 hS2=>obj_named x b5 hS2 y))) ?_;rintro ⟨⟩ -)
 refine ZG ?_ J (fun w0=>?_)
 refine Z8 J J J J (fun w0=>?_) ?_
 refine Zz (n:=4) (m:=4) J J J ?_
 exact Z9 rfl
 refine Z8 J J J J (fun w0=>?_) ?_
 refine Zld ?_
 exact Z9 rfl
 refine Z8 J J J J (fun w0=>?_) ?_
 refine Z0 J J ?_
 exact Z9 rfl
 refine Z8 J J J J (fun w0=>?_) ?_
 refine Zz (n:=1) (m:=1) J J J ?_
 exact Z9 rfl
 refine Z8 J J J J (fun w0=>?_) ?_
 refine Zld ?_
 exact Z9 rfl
 exact AgainG.nil
 refine Z4 (Z5 J ?_)
 (refine ZC0 rfl ZK (fun w hS=>frame hS ZQ (fun B' hB hS'=>obj_when hS' ((o.fSymbols.take k).any (nameP x)) 12)) ?_;rintro ⟨⟩ -)
 refine ZG ?_ J (fun w0=>?_)
 refine Z8 J J J J (fun w0=>?_) ?_
 refine Zz (n:=4) (m:=4) J J J ?_
 exact Z9 rfl
 refine Z8 J J J J (fun w0=>?_) ?_
 refine Zld ?_
 exact Z9 rfl
 refine Z8 J J J J (fun w0=>?_) ?_
 refine Z0 J J ?_
 exact Z9 rfl
 refine Z8 J J J J (fun w0=>?_) ?_
 refine Zz (n:=1) (m:=1) J J J ?_
 exact Z9 rfl
 refine Z8 J J J J (fun w0=>?_) ?_
 refine Zld ?_
 exact Z9 rfl
 exact AgainG.nil
 refine Zo J (ZS (ZT 64) (fun h64=>?_) (fun h64=>?_))
 refine Zq J J (Zz (n:=4) (m:=4) J J J (Zzi ?_))
 refine Zq J J (Zo J (Zq J J (Z0 J J (Zq J J (Zo J (ZS (ZT 69) (fun h69=>?_) (fun h69=>?_)))))))
 refine Zr J J J J (Zr J J J J (Zr J J J J (Zq J J (Zt J J (Zt J J ?_)))))
 refine ZS0 (t:=74) (v':=.bool (decide (x.fDef≠-1) && (decide (x.fDef≠(aheadN x (o.fSymbols.take k):Int)) || decide ((mostN o x:Int)≤(aheadN x (o.fSymbols.take k):Int))))) J (by congr 1;rw [decide_eq_true (show x.fDef≠-1 from h64),decide_eq_true (show x.fDef≠(aheadN x (o.fSymbols.take k):Int) from h69)];rfl) ?_
 refine Z4 (Z5 J ?_)
 (refine ZC0 rfl ZK (fun w hS=>frame hS ZQ (fun B' hB hS'=>obj_when hS' (decide (x.fDef≠-1) && (decide (x.fDef≠(aheadN x (o.fSymbols.take k):Int)) || decide ((mostN o x:Int)≤(aheadN x (o.fSymbols.take k):Int)))) 9)) ?_;rintro ⟨⟩ -)
 refine ZG ?_ J (fun w0=>?_)
 refine Z8 J J J J (fun w0=>?_) ?_
 refine Zz (n:=1) (m:=1) J J J ?_
 exact Z9 rfl
 refine Z8 J J J J (fun w0=>?_) ?_
 refine Zld ?_
 exact Z9 rfl
 exact AgainG.nil
 refine Zo J (ZS (ZT 78) (fun h78=>?_) (fun h78=>?_))
 refine Zq J J (Zz (n:=4) (m:=4) J J J (Zzi ?_))
 refine Zq J J (Zy J J (Zt J J ?_))
 refine ZS0 (t:=82) (v':=.bool (x.fLocal && decide (x.fDef = -1))) rfl (by rw [show x.fLocal=true from h78];rfl) ?_
 refine Z4 (Z5 J ?_)
 (refine ZC0 rfl ZK (fun w hS=>frame hS ZQ (fun B' hB hS'=>obj_when hS' (x.fLocal && decide (x.fDef = -1)) 13)) ?_;rintro ⟨⟩ -)
 refine ZG ?_ J (fun w0=>?_)
 exact AgainG.nil
 refine Z4 (Z5 J ?_)
 refine oBuildSliceF (Parts.cons J (Parts.cons J (Parts.cons J (Parts.cons J (Parts.cons J Parts.nil))))) J J J J J (Fulls.cons ZP J (Fulls.cons ZP J (Fulls.cons ZP J (Fulls.cons ZP J (Fulls.cons ZP J Fulls.nil ap) ap) ap) ap) ap) (fun b84=>?_)
 refine oConv (blk_row (enc:=Value.int .i64) (h1:=fun _=>J) (W:=B.e) (xs:=[nameF4 x.fName,whenF (kindB x) 8,whenF ((o.fSymbols.take k).any (nameP x)) 12,whenF (decide (x.fDef≠-1) && (decide (x.fDef≠(aheadN x (o.fSymbols.take k):Int)) || decide ((mostN o x:Int)≤(aheadN x (o.fSymbols.take k):Int)))) 9,whenF (x.fLocal && decide (x.fDef = -1)) 13]) (n:=5) ZP J J (by decide)) ?_
 refine ZG ?_ J (fun w0=>?_)
 exact AgainG.nil
 refine Z4 (Z5 J ?_)
 (refine ZD J (fun w B' hB hR hS'=>obj_first hS' [nameF4 x.fName,whenF (kindB x) 8,whenF ((o.fSymbols.take k).any (nameP x)) 12,whenF (decide (x.fDef≠-1) && (decide (x.fDef≠(aheadN x (o.fSymbols.take k):Int)) || decide ((mostN o x:Int)≤(aheadN x (o.fSymbols.take k):Int)))) 9,whenF (x.fLocal && decide (x.fDef = -1)) 13] (some ⟨b84,0,none⟩) 5 5 rfl (row_Cs (W:=B.e) (e:=29) (A:=some ⟨b84,0,none⟩) (n:=5) (cp:=5) (hR _ _ ZP))) ?_;rintro ⟨⟩ -)
 refine ZG ?_ J (fun w0=>?_)
 exact AgainG.nil
 refine Z6 (Zzh ?_)
 exact ⟨(),trivial,rfl,Lh⟩
 refine Zr J J J J (Zr J J J J (Zr J J J J (Zu J J ?_)))
 refine ZS0 (t:=82) (v':=.bool (x.fLocal && decide (x.fDef = -1))) rfl (by rw [show x.fLocal=false from h78];rfl) ?_
 refine Z4 (Z5 J ?_)
 (refine ZC0 rfl ZK (fun w hS=>frame hS ZQ (fun B' hB hS'=>obj_when hS' (x.fLocal && decide (x.fDef = -1)) 13)) ?_;rintro ⟨⟩ -)
 refine ZG ?_ J (fun w0=>?_)
 exact AgainG.nil
 refine Z4 (Z5 J ?_)
 refine oBuildSliceF (Parts.cons J (Parts.cons J (Parts.cons J (Parts.cons J (Parts.cons J Parts.nil))))) J J J J J (Fulls.cons ZP J (Fulls.cons ZP J (Fulls.cons ZP J (Fulls.cons ZP J (Fulls.cons ZP J Fulls.nil ap) ap) ap) ap) ap) (fun b84=>?_)
 refine oConv (blk_row (enc:=Value.int .i64) (h1:=fun _=>J) (W:=B.e) (xs:=[nameF4 x.fName,whenF (kindB x) 8,whenF ((o.fSymbols.take k).any (nameP x)) 12,whenF (decide (x.fDef≠-1) && (decide (x.fDef≠(aheadN x (o.fSymbols.take k):Int)) || decide ((mostN o x:Int)≤(aheadN x (o.fSymbols.take k):Int)))) 9,whenF (x.fLocal && decide (x.fDef = -1)) 13]) (n:=5) ZP J J (by decide)) ?_
 refine ZG ?_ J (fun w0=>?_)
 exact AgainG.nil
 refine Z4 (Z5 J ?_)
 (refine ZD J (fun w B' hB hR hS'=>obj_first hS' [nameF4 x.fName,whenF (kindB x) 8,whenF ((o.fSymbols.take k).any (nameP x)) 12,whenF (decide (x.fDef≠-1) && (decide (x.fDef≠(aheadN x (o.fSymbols.take k):Int)) || decide ((mostN o x:Int)≤(aheadN x (o.fSymbols.take k):Int)))) 9,whenF (x.fLocal && decide (x.fDef = -1)) 13] (some ⟨b84,0,none⟩) 5 5 rfl (row_Cs (W:=B.e) (e:=29) (A:=some ⟨b84,0,none⟩) (n:=5) (cp:=5) (hR _ _ ZP))) ?_;rintro ⟨⟩ -)
 refine ZG ?_ J (fun w0=>?_)
 exact AgainG.nil
 refine Z6 (Zzh ?_)
 exact ⟨(),trivial,rfl,Lh⟩
 refine Zq J J (Zo J (Zq J J (Zo J (Zq J J (Z2 J J (Zq J J (Zu J J (Zt J J ?_))))))))
 refine ZS0 (t:=74) (v':=.bool (decide (x.fDef≠-1) && (decide (x.fDef≠(aheadN x (o.fSymbols.take k):Int)) || decide ((mostN o x:Int)≤(aheadN x (o.fSymbols.take k):Int))))) J (by congr 1;rw [decide_eq_true (show x.fDef≠-1 from h64),decide_eq_false (show ¬ x.fDef≠(aheadN x (o.fSymbols.take k):Int) from h69)];rfl) ?_
 refine Z4 (Z5 J ?_)
 (refine ZC0 rfl ZK (fun w hS=>frame hS ZQ (fun B' hB hS'=>obj_when hS' (decide (x.fDef≠-1) && (decide (x.fDef≠(aheadN x (o.fSymbols.take k):Int)) || decide ((mostN o x:Int)≤(aheadN x (o.fSymbols.take k):Int)))) 9)) ?_;rintro ⟨⟩ -)
 refine ZG ?_ J (fun w0=>?_)
 refine Z8 J J J J (fun w0=>?_) ?_
 refine Zz (n:=1) (m:=1) J J J ?_
 exact Z9 rfl
 refine Z8 J J J J (fun w0=>?_) ?_
 refine Zld ?_
 exact Z9 rfl
 exact AgainG.nil
 refine Zo J (ZS (ZT 78) (fun h78=>?_) (fun h78=>?_))
 refine Zq J J (Zz (n:=4) (m:=4) J J J (Zzi ?_))
 refine Zq J J (Zy J J (Zt J J ?_))
 refine ZS0 (t:=82) (v':=.bool (x.fLocal && decide (x.fDef = -1))) rfl (by rw [show x.fLocal=true from h78];rfl) ?_
 refine Z4 (Z5 J ?_)
 (refine ZC0 rfl ZK (fun w hS=>frame hS ZQ (fun B' hB hS'=>obj_when hS' (x.fLocal && decide (x.fDef = -1)) 13)) ?_;rintro ⟨⟩ -)
 refine ZG ?_ J (fun w0=>?_)
 exact AgainG.nil
 refine Z4 (Z5 J ?_)
 refine oBuildSliceF (Parts.cons J (Parts.cons J (Parts.cons J (Parts.cons J (Parts.cons J Parts.nil))))) J J J J J (Fulls.cons ZP J (Fulls.cons ZP J (Fulls.cons ZP J (Fulls.cons ZP J (Fulls.cons ZP J Fulls.nil ap) ap) ap) ap) ap) (fun b84=>?_)
 refine oConv (blk_row (enc:=Value.int .i64) (h1:=fun _=>J) (W:=B.e) (xs:=[nameF4 x.fName,whenF (kindB x) 8,whenF ((o.fSymbols.take k).any (nameP x)) 12,whenF (decide (x.fDef≠-1) && (decide (x.fDef≠(aheadN x (o.fSymbols.take k):Int)) || decide ((mostN o x:Int)≤(aheadN x (o.fSymbols.take k):Int)))) 9,whenF (x.fLocal && decide (x.fDef = -1)) 13]) (n:=5) ZP J J (by decide)) ?_
 refine ZG ?_ J (fun w0=>?_)
 exact AgainG.nil
 refine Z4 (Z5 J ?_)
 (refine ZD J (fun w B' hB hR hS'=>obj_first hS' [nameF4 x.fName,whenF (kindB x) 8,whenF ((o.fSymbols.take k).any (nameP x)) 12,whenF (decide (x.fDef≠-1) && (decide (x.fDef≠(aheadN x (o.fSymbols.take k):Int)) || decide ((mostN o x:Int)≤(aheadN x (o.fSymbols.take k):Int)))) 9,whenF (x.fLocal && decide (x.fDef = -1)) 13] (some ⟨b84,0,none⟩) 5 5 rfl (row_Cs (W:=B.e) (e:=29) (A:=some ⟨b84,0,none⟩) (n:=5) (cp:=5) (hR _ _ ZP))) ?_;rintro ⟨⟩ -)
 refine ZG ?_ J (fun w0=>?_)
 exact AgainG.nil
 refine Z6 (Zzh ?_)
 exact ⟨(),trivial,rfl,Lh⟩
 refine Zr J J J J (Zr J J J J (Zr J J J J (Zu J J ?_)))
 refine ZS0 (t:=82) (v':=.bool (x.fLocal && decide (x.fDef = -1))) rfl (by rw [show x.fLocal=false from h78];rfl) ?_
 refine Z4 (Z5 J ?_)
 (refine ZC0 rfl ZK (fun w hS=>frame hS ZQ (fun B' hB hS'=>obj_when hS' (x.fLocal && decide (x.fDef = -1)) 13)) ?_;rintro ⟨⟩ -)
 refine ZG ?_ J (fun w0=>?_)
 exact AgainG.nil
 refine Z4 (Z5 J ?_)
 refine oBuildSliceF (Parts.cons J (Parts.cons J (Parts.cons J (Parts.cons J (Parts.cons J Parts.nil))))) J J J J J (Fulls.cons ZP J (Fulls.cons ZP J (Fulls.cons ZP J (Fulls.cons ZP J (Fulls.cons ZP J Fulls.nil ap) ap) ap) ap) ap) (fun b84=>?_)
 refine oConv (blk_row (enc:=Value.int .i64) (h1:=fun _=>J) (W:=B.e) (xs:=[nameF4 x.fName,whenF (kindB x) 8,whenF ((o.fSymbols.take k).any (nameP x)) 12,whenF (decide (x.fDef≠-1) && (decide (x.fDef≠(aheadN x (o.fSymbols.take k):Int)) || decide ((mostN o x:Int)≤(aheadN x (o.fSymbols.take k):Int)))) 9,whenF (x.fLocal && decide (x.fDef = -1)) 13]) (n:=5) ZP J J (by decide)) ?_
 refine ZG ?_ J (fun w0=>?_)
 exact AgainG.nil
 refine Z4 (Z5 J ?_)
 (refine ZD J (fun w B' hB hR hS'=>obj_first hS' [nameF4 x.fName,whenF (kindB x) 8,whenF ((o.fSymbols.take k).any (nameP x)) 12,whenF (decide (x.fDef≠-1) && (decide (x.fDef≠(aheadN x (o.fSymbols.take k):Int)) || decide ((mostN o x:Int)≤(aheadN x (o.fSymbols.take k):Int)))) 9,whenF (x.fLocal && decide (x.fDef = -1)) 13] (some ⟨b84,0,none⟩) 5 5 rfl (row_Cs (W:=B.e) (e:=29) (A:=some ⟨b84,0,none⟩) (n:=5) (cp:=5) (hR _ _ ZP))) ?_;rintro ⟨⟩ -)
 refine ZG ?_ J (fun w0=>?_)
 exact AgainG.nil
 refine Z6 (Zzh ?_)
 exact ⟨(),trivial,rfl,Lh⟩
 refine Zr J J J J (Zr J J J J (Zr J J J J (Zr J J J J (Zr J J J J (Zs J J J (Zs J J J (Zs J J J (Zr J J J J (Zu J J ?_)))))))))
 refine ZS0 (t:=74) (v':=.bool (decide (x.fDef≠-1) && (decide (x.fDef≠(aheadN x (o.fSymbols.take k):Int)) || decide ((mostN o x:Int)≤(aheadN x (o.fSymbols.take k):Int))))) J (by congr 1;rw [decide_eq_false (show ¬ x.fDef≠-1 from h64)];rfl) ?_
 refine Z4 (Z5 J ?_)
 (refine ZC0 rfl ZK (fun w hS=>frame hS ZQ (fun B' hB hS'=>obj_when hS' (decide (x.fDef≠-1) && (decide (x.fDef≠(aheadN x (o.fSymbols.take k):Int)) || decide ((mostN o x:Int)≤(aheadN x (o.fSymbols.take k):Int)))) 9)) ?_;rintro ⟨⟩ -)
 refine ZG ?_ J (fun w0=>?_)
 refine Z8 J J J J (fun w0=>?_) ?_
 refine Zz (n:=1) (m:=1) J J J ?_
 exact Z9 rfl
 refine Z8 J J J J (fun w0=>?_) ?_
 refine Zld ?_
 exact Z9 rfl
 exact AgainG.nil
 refine Zo J (ZS (ZT 78) (fun h78=>?_) (fun h78=>?_))
 refine Zq J J (Zz (n:=4) (m:=4) J J J (Zzi ?_))
 refine Zq J J (Zy J J (Zt J J ?_))
 refine ZS0 (t:=82) (v':=.bool (x.fLocal && decide (x.fDef = -1))) rfl (by rw [show x.fLocal=true from h78];rfl) ?_
 refine Z4 (Z5 J ?_)
 (refine ZC0 rfl ZK (fun w hS=>frame hS ZQ (fun B' hB hS'=>obj_when hS' (x.fLocal && decide (x.fDef = -1)) 13)) ?_;rintro ⟨⟩ -)
 refine ZG ?_ J (fun w0=>?_)
 exact AgainG.nil
 refine Z4 (Z5 J ?_)
 refine oBuildSliceF (Parts.cons J (Parts.cons J (Parts.cons J (Parts.cons J (Parts.cons J Parts.nil))))) J J J J J (Fulls.cons ZP J (Fulls.cons ZP J (Fulls.cons ZP J (Fulls.cons ZP J (Fulls.cons ZP J Fulls.nil ap) ap) ap) ap) ap) (fun b84=>?_)
 refine oConv (blk_row (enc:=Value.int .i64) (h1:=fun _=>J) (W:=B.e) (xs:=[nameF4 x.fName,whenF (kindB x) 8,whenF ((o.fSymbols.take k).any (nameP x)) 12,whenF (decide (x.fDef≠-1) && (decide (x.fDef≠(aheadN x (o.fSymbols.take k):Int)) || decide ((mostN o x:Int)≤(aheadN x (o.fSymbols.take k):Int)))) 9,whenF (x.fLocal && decide (x.fDef = -1)) 13]) (n:=5) ZP J J (by decide)) ?_
 refine ZG ?_ J (fun w0=>?_)
 exact AgainG.nil
 refine Z4 (Z5 J ?_)
 (refine ZD J (fun w B' hB hR hS'=>obj_first hS' [nameF4 x.fName,whenF (kindB x) 8,whenF ((o.fSymbols.take k).any (nameP x)) 12,whenF (decide (x.fDef≠-1) && (decide (x.fDef≠(aheadN x (o.fSymbols.take k):Int)) || decide ((mostN o x:Int)≤(aheadN x (o.fSymbols.take k):Int)))) 9,whenF (x.fLocal && decide (x.fDef = -1)) 13] (some ⟨b84,0,none⟩) 5 5 rfl (row_Cs (W:=B.e) (e:=29) (A:=some ⟨b84,0,none⟩) (n:=5) (cp:=5) (hR _ _ ZP))) ?_;rintro ⟨⟩ -)
 refine ZG ?_ J (fun w0=>?_)
 exact AgainG.nil
 refine Z6 (Zzh ?_)
 exact ⟨(),trivial,rfl,Lh⟩
 refine Zr J J J J (Zr J J J J (Zr J J J J (Zu J J ?_)))
 refine ZS0 (t:=82) (v':=.bool (x.fLocal && decide (x.fDef = -1))) rfl (by rw [show x.fLocal=false from h78];rfl) ?_
 refine Z4 (Z5 J ?_)
 (refine ZC0 rfl ZK (fun w hS=>frame hS ZQ (fun B' hB hS'=>obj_when hS' (x.fLocal && decide (x.fDef = -1)) 13)) ?_;rintro ⟨⟩ -)
 refine ZG ?_ J (fun w0=>?_)
 exact AgainG.nil
 refine Z4 (Z5 J ?_)
 refine oBuildSliceF (Parts.cons J (Parts.cons J (Parts.cons J (Parts.cons J (Parts.cons J Parts.nil))))) J J J J J (Fulls.cons ZP J (Fulls.cons ZP J (Fulls.cons ZP J (Fulls.cons ZP J (Fulls.cons ZP J Fulls.nil ap) ap) ap) ap) ap) (fun b84=>?_)
 refine oConv (blk_row (enc:=Value.int .i64) (h1:=fun _=>J) (W:=B.e) (xs:=[nameF4 x.fName,whenF (kindB x) 8,whenF ((o.fSymbols.take k).any (nameP x)) 12,whenF (decide (x.fDef≠-1) && (decide (x.fDef≠(aheadN x (o.fSymbols.take k):Int)) || decide ((mostN o x:Int)≤(aheadN x (o.fSymbols.take k):Int)))) 9,whenF (x.fLocal && decide (x.fDef = -1)) 13]) (n:=5) ZP J J (by decide)) ?_
 refine ZG ?_ J (fun w0=>?_)
 exact AgainG.nil
 refine Z4 (Z5 J ?_)
 (refine ZD J (fun w B' hB hR hS'=>obj_first hS' [nameF4 x.fName,whenF (kindB x) 8,whenF ((o.fSymbols.take k).any (nameP x)) 12,whenF (decide (x.fDef≠-1) && (decide (x.fDef≠(aheadN x (o.fSymbols.take k):Int)) || decide ((mostN o x:Int)≤(aheadN x (o.fSymbols.take k):Int)))) 9,whenF (x.fLocal && decide (x.fDef = -1)) 13] (some ⟨b84,0,none⟩) 5 5 rfl (row_Cs (W:=B.e) (e:=29) (A:=some ⟨b84,0,none⟩) (n:=5) (cp:=5) (hR _ _ ZP))) ?_;rintro ⟨⟩ -)
 refine ZG ?_ J (fun w0=>?_)
 exact AgainG.nil
 refine Z6 (Zzh ?_)
 exact ⟨(),trivial,rfl,Lh⟩
 refine Zj (Za (Zh (Zi (oMakeFunc J ?_))))
 refine ZS0 (t:=6) (v':=.int .i64 (mostN o x:Int)) J (by unfold mostN;rw [if_neg (show ¬ x.fSort=2 from h21)]) ?_
 refine Zp J (Zn (Za (Zh (Zi (Zp J ?_)))))
 refine ZS0 (t:=8) (v':=.int .i64 (aheadN x (o.fSymbols.take 0):Int)) J (by unfold aheadN;simp) ?_
 refine Zn (Za (Zh (Zh (Zi (Zz (n:=0) (m:=0) J J J (Zld ?_))))))
 refine Zo J (oSliceU J J ZO J ?_)
 refine Zv J J (Zo J (Zn (Za (Zk (wLoop (ι:=Nat) (fun k=>[(1,.int .i64 (i:Int)),(2,.pointer (some ⟨b2,0,none⟩)),(5,.pointer (some ⟨b5,0,none⟩)),(6,.int .i64 (mostN o x:Int)),(7,.func (.func 61) #[] #[.pointer (some ⟨b5,0,none⟩)]),(8,.int .i64 (aheadN x (o.fSymbols.take k):Int)),(29,.slice A0 i c0),(30,.int .i64 (i:Int)),(31,.int .i64 (k:Int))]) (fun k=>[blk b2 26 [.slice A0 o.fSymbols.length c0,.slice A1 o.fFuncs.length c1,.slice A2 o.fDatas.length c2],blk b5 37 [.string x.fName,.bool x.fLocal,.int .i64 x.fSort,.int .i64 x.fKind,.int .i64 x.fDef]]) (fun k=>k≤i) (fun k=>i-k) 0 ?_ cv (Leads.has ZQ) ?_)))))
 exact Nat.zero_le _
 rintro k hk
 have hal:=ahead_le x (o.fSymbols.take k)
 have htk:(o.fSymbols.take k).length≤60:=by rw [List.length_take];omega
 try dsimp only
 refine Zh (Zi (Zx J J (Zn (Za (Zh (wC (fun h32=>?_) (fun h32=>?_)))))))
 obtain ⟨y,hy⟩:∃ y,o.fSymbols[k]?=some y:=⟨_,List.getElem?_eq_getElem ZO⟩
 have hyt:(o.fSymbols.take i)[k]?=some y:=by rw [List.getElem?_take,if_pos ZO,hy]
 obtain ⟨e2,cs2,hE2⟩:=hqt.elm hyt
 obtain rfl:=kApiSymbol_open hE2.K
 refine Zj (Za (Zh (Zk (Zh (Zi (oIdxE J J (hE2) ZO J J ?_))))))
 have hc33:=(hE2).cell
 refine Zlx hc33 ?_
 refine oAlloc J ZP (fun b10=>?_)
 refine Zsa ?_
 refine Zn (Za (Zh (Zi (Zz (n:=2) (m:=2) J J J (Zld ?_)))))
 refine Zz (n:=2) (m:=2) J J J (Zld ?_)
 refine Zy J J (Zo J (ZS (ZT 40) (fun h40=>?_) (fun h40=>?_)))
 refine Zq J J (Zz (n:=4) (m:=4) J J J (Zzi ?_))
 refine Zq J J (Z0 J J (Zt J J (Zn (Za (wC (fun h44=>?_) (fun h44=>?_))))))
 have hap:aheadP x y=true:=by unfold aheadP;simp [show y.fSort=x.fSort from h40];first | exact h44 | simpa using h44
 refine Zi (Zo J ?_)
 first | refine oAdd rfl rfl ZO ?_ | refine oAddW rfl rfl ?_
 refine Zp J ?_
 skip
 refine Zn (Zzg ?_)
 refine Zo J (Zn (Za ?_))
 exact ⟨rfl,k+1,by omega,by omega,by rw [ahead_succ x hy,if_pos hap];exact cv,Lh⟩
 have hap:¬ aheadP x y=true:=by unfold aheadP;simp [show y.fSort=x.fSort from h40];first | exact h44 | simpa using h44
 refine Zj (Zzg ?_)
 refine Zo J (Zn (Za ?_))
 exact ⟨rfl,k+1,by omega,by omega,by rw [ahead_succ x hy,if_neg hap,Nat.add_zero];exact cv,Lh⟩
 have hap:¬ aheadP x y=true:=by unfold aheadP;simp [show ¬ y.fSort=x.fSort from h40]
 refine Zr J J J J (Zr J J J J (Zr J J J J (Zu J J (Zn (Za (wCondF J (Zj (Zzg ?_))))))))
 refine Zo J (Zn (Za ?_))
 exact ⟨rfl,k+1,by omega,by omega,by rw [ahead_succ x hy,if_neg hap,Nat.add_zero];exact cv,Lh⟩
 obtain rfl:k=i:=by omega
 refine Zm (Zb (Zb (Ze (Za (Zh (wDrawG J [0,1,3,6,7,8,9,10,13,14,15,28,29] [(2,[3,6,7,8,9,10,13,14,15,28,29],[]),(4,[6,7,8,9,10,13,14,15,28,29],[]),(5,[6,7,8,9,10,13,14,15,28,29],[]),(11,[13,14,15,28,29],[]),(12,[13,14,15,28,29],[16,17,18,19,20,21,22,23,24,25,26]),(27,[28,29],[30,31,32,33,34]),(35,[],[]),(36,[],[]),(37,[],[])] [38] 24 ZK J J (fun w0=>?_)))))))
 refine Zz (n:=0) (m:=0) J J J (Zld ?_)
 refine Zla ?_
 refine Zz (n:=0) (m:=0) J J J (Zld ?_)
 refine Zo J (oSliceU J J ZO J ?_)
 refine Zo J (Zz (n:=4) (m:=4) J J J (Zld ?_))
 refine Z0 J J (Zz (n:=1) (m:=1) J J J (Zld ?_))
 refine Z4 (Z5 J ?_)
 (refine ZC0 rfl ZK (fun w hS=>frame hS ZQ (fun B' hB hS'=>name_Check hS' x.fName)) ?_;rintro ⟨⟩ -)
 refine ZG ?_ J (fun w0=>?_)
 refine Z8 J J J J (fun w0=>?_) ?_
 refine Zla ?_
 exact Z9 rfl
 refine Z8 J J J J (fun w0=>?_) ?_
 refine Zz (n:=0) (m:=0) J J J ?_
 exact Z9 rfl
 refine Z8 J J J J (fun w0=>?_) ?_
 refine Zld ?_
 exact Z9 rfl
 refine Z8 J J J J (fun w0=>?_) ?_
 refine Zo J ?_
 exact Z9 rfl
 refine Z8 J J J J (fun w0=>?_) ?_
 refine oSliceU J J ZO J ?_
 exact Z9 rfl
 refine Z8 J J J J (fun w0=>?_) ?_
 refine Zo J ?_
 exact Z9 rfl
 refine Z8 J J J J (fun w0=>?_) ?_
 refine Zz (n:=4) (m:=4) J J J ?_
 exact Z9 rfl
 refine Z8 J J J J (fun w0=>?_) ?_
 refine Zld ?_
 exact Z9 rfl
 refine Z8 J J J J (fun w0=>?_) ?_
 refine Z0 J J ?_
 exact Z9 rfl
 refine Z8 J J J J (fun w0=>?_) ?_
 refine Zz (n:=1) (m:=1) J J J ?_
 exact Z9 rfl
 refine Z8 J J J J (fun w0=>?_) ?_
 refine Zld ?_
 exact Z9 rfl
 exact AgainG.nil
 refine Z4 (Z5 J ?_)
 (refine ZC0 rfl ZK (fun w hS=>frame hS ZQ (fun B' hB hS'=>obj_kind hS' x _ (kApiSymbol.K_grow hB hxK))) ?_;rintro ⟨⟩ -)
 refine ZG ?_ J (fun w0=>?_)
 refine Z8 J J J J (fun w0=>?_) ?_
 refine Zz (n:=0) (m:=0) J J J ?_
 exact Z9 rfl
 refine Z8 J J J J (fun w0=>?_) ?_
 refine Zld ?_
 exact Z9 rfl
 refine Z8 J J J J (fun w0=>?_) ?_
 refine Zo J ?_
 exact Z9 rfl
 refine Z8 J J J J (fun w0=>?_) ?_
 refine oSliceU J J ZO J ?_
 exact Z9 rfl
 refine Z8 J J J J (fun w0=>?_) ?_
 refine Zo J ?_
 exact Z9 rfl
 refine Z8 J J J J (fun w0=>?_) ?_
 refine Zz (n:=4) (m:=4) J J J ?_
 exact Z9 rfl
 refine Z8 J J J J (fun w0=>?_) ?_
 refine Zld ?_
 exact Z9 rfl
 refine Z8 J J J J (fun w0=>?_) ?_
 refine Z0 J J ?_
 exact Z9 rfl
 refine Z8 J J J J (fun w0=>?_) ?_
 refine Zz (n:=1) (m:=1) J J J ?_
 exact Z9 rfl
 refine Z8 J J J J (fun w0=>?_) ?_
 refine Zld ?_
 exact Z9 rfl
 exact AgainG.nil
 refine Z4 (Z5 J ?_)
 (refine ZC0 rfl ZK (fun w hS=>frame hS ZQ (fun B' hB hS'=>obj_when hS' (kindB x) 8)) ?_;rintro ⟨⟩ -)
 refine ZG ?_ J (fun w0=>?_)
 refine Z8 J J J J (fun w0=>?_) ?_
 refine Zz (n:=0) (m:=0) J J J ?_
 exact Z9 rfl
 refine Z8 J J J J (fun w0=>?_) ?_
 refine Zld ?_
 exact Z9 rfl
 refine Z8 J J J J (fun w0=>?_) ?_
 refine Zo J ?_
 exact Z9 rfl
 refine Z8 J J J J (fun w0=>?_) ?_
 refine oSliceU J J ZO J ?_
 exact Z9 rfl
 refine Z8 J J J J (fun w0=>?_) ?_
 refine Zo J ?_
 exact Z9 rfl
 refine Z8 J J J J (fun w0=>?_) ?_
 refine Zz (n:=4) (m:=4) J J J ?_
 exact Z9 rfl
 refine Z8 J J J J (fun w0=>?_) ?_
 refine Zld ?_
 exact Z9 rfl
 refine Z8 J J J J (fun w0=>?_) ?_
 refine Z0 J J ?_
 exact Z9 rfl
 refine Z8 J J J J (fun w0=>?_) ?_
 refine Zz (n:=1) (m:=1) J J J ?_
 exact Z9 rfl
 refine Z8 J J J J (fun w0=>?_) ?_
 refine Zld ?_
 exact Z9 rfl
 exact AgainG.nil
 refine Z4 (Z5 J ?_)
 (refine ZC0 rfl ZK (fun w hS=>frame hS ZQ (fun B' hB hS'=>containsFunc_sym hS' (o.fSymbols.take k) A0 k c0 htl.symm (Kd.C_grow hB hqt) 61 #[.pointer (some ⟨b5,0,none⟩)] (nameP x) ZK (fun B2 w2 y hB2 hy2 hS2=>obj_named x b5 hS2 y))) ?_;rintro ⟨⟩ -)
 refine ZG ?_ J (fun w0=>?_)
 refine Z8 J J J J (fun w0=>?_) ?_
 refine Zz (n:=4) (m:=4) J J J ?_
 exact Z9 rfl
 refine Z8 J J J J (fun w0=>?_) ?_
 refine Zld ?_
 exact Z9 rfl
 refine Z8 J J J J (fun w0=>?_) ?_
 refine Z0 J J ?_
 exact Z9 rfl
 refine Z8 J J J J (fun w0=>?_) ?_
 refine Zz (n:=1) (m:=1) J J J ?_
 exact Z9 rfl
 refine Z8 J J J J (fun w0=>?_) ?_
 refine Zld ?_
 exact Z9 rfl
 exact AgainG.nil
 refine Z4 (Z5 J ?_)
 (refine ZC0 rfl ZK (fun w hS=>frame hS ZQ (fun B' hB hS'=>obj_when hS' ((o.fSymbols.take k).any (nameP x)) 12)) ?_;rintro ⟨⟩ -)
 refine ZG ?_ J (fun w0=>?_)
 refine Z8 J J J J (fun w0=>?_) ?_
 refine Zz (n:=4) (m:=4) J J J ?_
 exact Z9 rfl
 refine Z8 J J J J (fun w0=>?_) ?_
 refine Zld ?_
 exact Z9 rfl
 refine Z8 J J J J (fun w0=>?_) ?_
 refine Z0 J J ?_
 exact Z9 rfl
 refine Z8 J J J J (fun w0=>?_) ?_
 refine Zz (n:=1) (m:=1) J J J ?_
 exact Z9 rfl
 refine Z8 J J J J (fun w0=>?_) ?_
 refine Zld ?_
 exact Z9 rfl
 exact AgainG.nil
 refine Zo J (ZS (ZT 64) (fun h64=>?_) (fun h64=>?_))
 refine Zq J J (Zz (n:=4) (m:=4) J J J (Zzi ?_))
 refine Zq J J (Zo J (Zq J J (Z0 J J (Zq J J (Zo J (ZS (ZT 69) (fun h69=>?_) (fun h69=>?_)))))))
 refine Zr J J J J (Zr J J J J (Zr J J J J (Zq J J (Zt J J (Zt J J ?_)))))
 refine ZS0 (t:=74) (v':=.bool (decide (x.fDef≠-1) && (decide (x.fDef≠(aheadN x (o.fSymbols.take k):Int)) || decide ((mostN o x:Int)≤(aheadN x (o.fSymbols.take k):Int))))) J (by congr 1;rw [decide_eq_true (show x.fDef≠-1 from h64),decide_eq_true (show x.fDef≠(aheadN x (o.fSymbols.take k):Int) from h69)];rfl) ?_
 refine Z4 (Z5 J ?_)
 (refine ZC0 rfl ZK (fun w hS=>frame hS ZQ (fun B' hB hS'=>obj_when hS' (decide (x.fDef≠-1) && (decide (x.fDef≠(aheadN x (o.fSymbols.take k):Int)) || decide ((mostN o x:Int)≤(aheadN x (o.fSymbols.take k):Int)))) 9)) ?_;rintro ⟨⟩ -)
 refine ZG ?_ J (fun w0=>?_)
 refine Z8 J J J J (fun w0=>?_) ?_
 refine Zz (n:=1) (m:=1) J J J ?_
 exact Z9 rfl
 refine Z8 J J J J (fun w0=>?_) ?_
 refine Zld ?_
 exact Z9 rfl
 exact AgainG.nil
 refine Zo J (ZS (ZT 78) (fun h78=>?_) (fun h78=>?_))
 refine Zq J J (Zz (n:=4) (m:=4) J J J (Zzi ?_))
 refine Zq J J (Zy J J (Zt J J ?_))
 refine ZS0 (t:=82) (v':=.bool (x.fLocal && decide (x.fDef = -1))) rfl (by rw [show x.fLocal=true from h78];rfl) ?_
 refine Z4 (Z5 J ?_)
 (refine ZC0 rfl ZK (fun w hS=>frame hS ZQ (fun B' hB hS'=>obj_when hS' (x.fLocal && decide (x.fDef = -1)) 13)) ?_;rintro ⟨⟩ -)
 refine ZG ?_ J (fun w0=>?_)
 exact AgainG.nil
 refine Z4 (Z5 J ?_)
 refine oBuildSliceF (Parts.cons J (Parts.cons J (Parts.cons J (Parts.cons J (Parts.cons J Parts.nil))))) J J J J J (Fulls.cons ZP J (Fulls.cons ZP J (Fulls.cons ZP J (Fulls.cons ZP J (Fulls.cons ZP J Fulls.nil ap) ap) ap) ap) ap) (fun b84=>?_)
 refine oConv (blk_row (enc:=Value.int .i64) (h1:=fun _=>J) (W:=B.e) (xs:=[nameF4 x.fName,whenF (kindB x) 8,whenF ((o.fSymbols.take k).any (nameP x)) 12,whenF (decide (x.fDef≠-1) && (decide (x.fDef≠(aheadN x (o.fSymbols.take k):Int)) || decide ((mostN o x:Int)≤(aheadN x (o.fSymbols.take k):Int)))) 9,whenF (x.fLocal && decide (x.fDef = -1)) 13]) (n:=5) ZP J J (by decide)) ?_
 refine ZG ?_ J (fun w0=>?_)
 exact AgainG.nil
 refine Z4 (Z5 J ?_)
 (refine ZD J (fun w B' hB hR hS'=>obj_first hS' [nameF4 x.fName,whenF (kindB x) 8,whenF ((o.fSymbols.take k).any (nameP x)) 12,whenF (decide (x.fDef≠-1) && (decide (x.fDef≠(aheadN x (o.fSymbols.take k):Int)) || decide ((mostN o x:Int)≤(aheadN x (o.fSymbols.take k):Int)))) 9,whenF (x.fLocal && decide (x.fDef = -1)) 13] (some ⟨b84,0,none⟩) 5 5 rfl (row_Cs (W:=B.e) (e:=29) (A:=some ⟨b84,0,none⟩) (n:=5) (cp:=5) (hR _ _ ZP))) ?_;rintro ⟨⟩ -)
 refine ZG ?_ J (fun w0=>?_)
 exact AgainG.nil
 refine Z6 (Zzh ?_)
 exact ⟨(),trivial,rfl,Lh⟩
 refine Zr J J J J (Zr J J J J (Zr J J J J (Zu J J ?_)))
 refine ZS0 (t:=82) (v':=.bool (x.fLocal && decide (x.fDef = -1))) rfl (by rw [show x.fLocal=false from h78];rfl) ?_
 refine Z4 (Z5 J ?_)
 (refine ZC0 rfl ZK (fun w hS=>frame hS ZQ (fun B' hB hS'=>obj_when hS' (x.fLocal && decide (x.fDef = -1)) 13)) ?_;rintro ⟨⟩ -)
 refine ZG ?_ J (fun w0=>?_)
 exact AgainG.nil
 refine Z4 (Z5 J ?_)
 refine oBuildSliceF (Parts.cons J (Parts.cons J (Parts.cons J (Parts.cons J (Parts.cons J Parts.nil))))) J J J J J (Fulls.cons ZP J (Fulls.cons ZP J (Fulls.cons ZP J (Fulls.cons ZP J (Fulls.cons ZP J Fulls.nil ap) ap) ap) ap) ap) (fun b84=>?_)
 refine oConv (blk_row (enc:=Value.int .i64) (h1:=fun _=>J) (W:=B.e) (xs:=[nameF4 x.fName,whenF (kindB x) 8,whenF ((o.fSymbols.take k).any (nameP x)) 12,whenF (decide (x.fDef≠-1) && (decide (x.fDef≠(aheadN x (o.fSymbols.take k):Int)) || decide ((mostN o x:Int)≤(aheadN x (o.fSymbols.take k):Int)))) 9,whenF (x.fLocal && decide (x.fDef = -1)) 13]) (n:=5) ZP J J (by decide)) ?_
 refine ZG ?_ J (fun w0=>?_)
 exact AgainG.nil
 refine Z4 (Z5 J ?_)
 (refine ZD J (fun w B' hB hR hS'=>obj_first hS' [nameF4 x.fName,whenF (kindB x) 8,whenF ((o.fSymbols.take k).any (nameP x)) 12,whenF (decide (x.fDef≠-1) && (decide (x.fDef≠(aheadN x (o.fSymbols.take k):Int)) || decide ((mostN o x:Int)≤(aheadN x (o.fSymbols.take k):Int)))) 9,whenF (x.fLocal && decide (x.fDef = -1)) 13] (some ⟨b84,0,none⟩) 5 5 rfl (row_Cs (W:=B.e) (e:=29) (A:=some ⟨b84,0,none⟩) (n:=5) (cp:=5) (hR _ _ ZP))) ?_;rintro ⟨⟩ -)
 refine ZG ?_ J (fun w0=>?_)
 exact AgainG.nil
 refine Z6 (Zzh ?_)
 exact ⟨(),trivial,rfl,Lh⟩
 refine Zq J J (Zo J (Zq J J (Zo J (Zq J J (Z2 J J (Zq J J (Zu J J (Zt J J ?_))))))))
 refine ZS0 (t:=74) (v':=.bool (decide (x.fDef≠-1) && (decide (x.fDef≠(aheadN x (o.fSymbols.take k):Int)) || decide ((mostN o x:Int)≤(aheadN x (o.fSymbols.take k):Int))))) J (by congr 1;rw [decide_eq_true (show x.fDef≠-1 from h64),decide_eq_false (show ¬ x.fDef≠(aheadN x (o.fSymbols.take k):Int) from h69)];rfl) ?_
 refine Z4 (Z5 J ?_)
 (refine ZC0 rfl ZK (fun w hS=>frame hS ZQ (fun B' hB hS'=>obj_when hS' (decide (x.fDef≠-1) && (decide (x.fDef≠(aheadN x (o.fSymbols.take k):Int)) || decide ((mostN o x:Int)≤(aheadN x (o.fSymbols.take k):Int)))) 9)) ?_;rintro ⟨⟩ -)
 refine ZG ?_ J (fun w0=>?_)
 refine Z8 J J J J (fun w0=>?_) ?_
 refine Zz (n:=1) (m:=1) J J J ?_
 exact Z9 rfl
 refine Z8 J J J J (fun w0=>?_) ?_
 refine Zld ?_
 exact Z9 rfl
 exact AgainG.nil
 refine Zo J (ZS (ZT 78) (fun h78=>?_) (fun h78=>?_))
 refine Zq J J (Zz (n:=4) (m:=4) J J J (Zzi ?_))
 refine Zq J J (Zy J J (Zt J J ?_))
 refine ZS0 (t:=82) (v':=.bool (x.fLocal && decide (x.fDef = -1))) rfl (by rw [show x.fLocal=true from h78];rfl) ?_
 refine Z4 (Z5 J ?_)
 (refine ZC0 rfl ZK (fun w hS=>frame hS ZQ (fun B' hB hS'=>obj_when hS' (x.fLocal && decide (x.fDef = -1)) 13)) ?_;rintro ⟨⟩ -)
 refine ZG ?_ J (fun w0=>?_)
 exact AgainG.nil
 refine Z4 (Z5 J ?_)
 refine oBuildSliceF (Parts.cons J (Parts.cons J (Parts.cons J (Parts.cons J (Parts.cons J Parts.nil))))) J J J J J (Fulls.cons ZP J (Fulls.cons ZP J (Fulls.cons ZP J (Fulls.cons ZP J (Fulls.cons ZP J Fulls.nil ap) ap) ap) ap) ap) (fun b84=>?_)
 refine oConv (blk_row (enc:=Value.int .i64) (h1:=fun _=>J) (W:=B.e) (xs:=[nameF4 x.fName,whenF (kindB x) 8,whenF ((o.fSymbols.take k).any (nameP x)) 12,whenF (decide (x.fDef≠-1) && (decide (x.fDef≠(aheadN x (o.fSymbols.take k):Int)) || decide ((mostN o x:Int)≤(aheadN x (o.fSymbols.take k):Int)))) 9,whenF (x.fLocal && decide (x.fDef = -1)) 13]) (n:=5) ZP J J (by decide)) ?_
 refine ZG ?_ J (fun w0=>?_)
 exact AgainG.nil
 refine Z4 (Z5 J ?_)
 (refine ZD J (fun w B' hB hR hS'=>obj_first hS' [nameF4 x.fName,whenF (kindB x) 8,whenF ((o.fSymbols.take k).any (nameP x)) 12,whenF (decide (x.fDef≠-1) && (decide (x.fDef≠(aheadN x (o.fSymbols.take k):Int)) || decide ((mostN o x:Int)≤(aheadN x (o.fSymbols.take k):Int)))) 9,whenF (x.fLocal && decide (x.fDef = -1)) 13] (some ⟨b84,0,none⟩) 5 5 rfl (row_Cs (W:=B.e) (e:=29) (A:=some ⟨b84,0,none⟩) (n:=5) (cp:=5) (hR _ _ ZP))) ?_;rintro ⟨⟩ -)
 refine ZG ?_ J (fun w0=>?_)
 exact AgainG.nil
 refine Z6 (Zzh ?_)
 exact ⟨(),trivial,rfl,Lh⟩
 refine Zr J J J J (Zr J J J J (Zr J J J J (Zu J J ?_)))
 refine ZS0 (t:=82) (v':=.bool (x.fLocal && decide (x.fDef = -1))) rfl (by rw [show x.fLocal=false from h78];rfl) ?_
 refine Z4 (Z5 J ?_)
 (refine ZC0 rfl ZK (fun w hS=>frame hS ZQ (fun B' hB hS'=>obj_when hS' (x.fLocal && decide (x.fDef = -1)) 13)) ?_;rintro ⟨⟩ -)
 refine ZG ?_ J (fun w0=>?_)
 exact AgainG.nil
 refine Z4 (Z5 J ?_)
 refine oBuildSliceF (Parts.cons J (Parts.cons J (Parts.cons J (Parts.cons J (Parts.cons J Parts.nil))))) J J J J J (Fulls.cons ZP J (Fulls.cons ZP J (Fulls.cons ZP J (Fulls.cons ZP J (Fulls.cons ZP J Fulls.nil ap) ap) ap) ap) ap) (fun b84=>?_)
 refine oConv (blk_row (enc:=Value.int .i64) (h1:=fun _=>J) (W:=B.e) (xs:=[nameF4 x.fName,whenF (kindB x) 8,whenF ((o.fSymbols.take k).any (nameP x)) 12,whenF (decide (x.fDef≠-1) && (decide (x.fDef≠(aheadN x (o.fSymbols.take k):Int)) || decide ((mostN o x:Int)≤(aheadN x (o.fSymbols.take k):Int)))) 9,whenF (x.fLocal && decide (x.fDef = -1)) 13]) (n:=5) ZP J J (by decide)) ?_
 refine ZG ?_ J (fun w0=>?_)
 exact AgainG.nil
 refine Z4 (Z5 J ?_)
 (refine ZD J (fun w B' hB hR hS'=>obj_first hS' [nameF4 x.fName,whenF (kindB x) 8,whenF ((o.fSymbols.take k).any (nameP x)) 12,whenF (decide (x.fDef≠-1) && (decide (x.fDef≠(aheadN x (o.fSymbols.take k):Int)) || decide ((mostN o x:Int)≤(aheadN x (o.fSymbols.take k):Int)))) 9,whenF (x.fLocal && decide (x.fDef = -1)) 13] (some ⟨b84,0,none⟩) 5 5 rfl (row_Cs (W:=B.e) (e:=29) (A:=some ⟨b84,0,none⟩) (n:=5) (cp:=5) (hR _ _ ZP))) ?_;rintro ⟨⟩ -)
 refine ZG ?_ J (fun w0=>?_)
 exact AgainG.nil
 refine Z6 (Zzh ?_)
 exact ⟨(),trivial,rfl,Lh⟩
 refine Zr J J J J (Zr J J J J (Zr J J J J (Zr J J J J (Zr J J J J (Zs J J J (Zs J J J (Zs J J J (Zr J J J J (Zu J J ?_)))))))))
 refine ZS0 (t:=74) (v':=.bool (decide (x.fDef≠-1) && (decide (x.fDef≠(aheadN x (o.fSymbols.take k):Int)) || decide ((mostN o x:Int)≤(aheadN x (o.fSymbols.take k):Int))))) J (by congr 1;rw [decide_eq_false (show ¬ x.fDef≠-1 from h64)];rfl) ?_
 refine Z4 (Z5 J ?_)
 (refine ZC0 rfl ZK (fun w hS=>frame hS ZQ (fun B' hB hS'=>obj_when hS' (decide (x.fDef≠-1) && (decide (x.fDef≠(aheadN x (o.fSymbols.take k):Int)) || decide ((mostN o x:Int)≤(aheadN x (o.fSymbols.take k):Int)))) 9)) ?_;rintro ⟨⟩ -)
 refine ZG ?_ J (fun w0=>?_)
 refine Z8 J J J J (fun w0=>?_) ?_
 refine Zz (n:=1) (m:=1) J J J ?_
 exact Z9 rfl
 refine Z8 J J J J (fun w0=>?_) ?_
 refine Zld ?_
 exact Z9 rfl
 exact AgainG.nil
 refine Zo J (ZS (ZT 78) (fun h78=>?_) (fun h78=>?_))
 refine Zq J J (Zz (n:=4) (m:=4) J J J (Zzi ?_))
 refine Zq J J (Zy J J (Zt J J ?_))
 refine ZS0 (t:=82) (v':=.bool (x.fLocal && decide (x.fDef = -1))) rfl (by rw [show x.fLocal=true from h78];rfl) ?_
 refine Z4 (Z5 J ?_)
 (refine ZC0 rfl ZK (fun w hS=>frame hS ZQ (fun B' hB hS'=>obj_when hS' (x.fLocal && decide (x.fDef = -1)) 13)) ?_;rintro ⟨⟩ -)
 refine ZG ?_ J (fun w0=>?_)
 exact AgainG.nil
 refine Z4 (Z5 J ?_)
 refine oBuildSliceF (Parts.cons J (Parts.cons J (Parts.cons J (Parts.cons J (Parts.cons J Parts.nil))))) J J J J J (Fulls.cons ZP J (Fulls.cons ZP J (Fulls.cons ZP J (Fulls.cons ZP J (Fulls.cons ZP J Fulls.nil ap) ap) ap) ap) ap) (fun b84=>?_)
 refine oConv (blk_row (enc:=Value.int .i64) (h1:=fun _=>J) (W:=B.e) (xs:=[nameF4 x.fName,whenF (kindB x) 8,whenF ((o.fSymbols.take k).any (nameP x)) 12,whenF (decide (x.fDef≠-1) && (decide (x.fDef≠(aheadN x (o.fSymbols.take k):Int)) || decide ((mostN o x:Int)≤(aheadN x (o.fSymbols.take k):Int)))) 9,whenF (x.fLocal && decide (x.fDef = -1)) 13]) (n:=5) ZP J J (by decide)) ?_
 refine ZG ?_ J (fun w0=>?_)
 exact AgainG.nil
 refine Z4 (Z5 J ?_)
 (refine ZD J (fun w B' hB hR hS'=>obj_first hS' [nameF4 x.fName,whenF (kindB x) 8,whenF ((o.fSymbols.take k).any (nameP x)) 12,whenF (decide (x.fDef≠-1) && (decide (x.fDef≠(aheadN x (o.fSymbols.take k):Int)) || decide ((mostN o x:Int)≤(aheadN x (o.fSymbols.take k):Int)))) 9,whenF (x.fLocal && decide (x.fDef = -1)) 13] (some ⟨b84,0,none⟩) 5 5 rfl (row_Cs (W:=B.e) (e:=29) (A:=some ⟨b84,0,none⟩) (n:=5) (cp:=5) (hR _ _ ZP))) ?_;rintro ⟨⟩ -)
 refine ZG ?_ J (fun w0=>?_)
 exact AgainG.nil
 refine Z6 (Zzh ?_)
 exact ⟨(),trivial,rfl,Lh⟩
 refine Zr J J J J (Zr J J J J (Zr J J J J (Zu J J ?_)))
 refine ZS0 (t:=82) (v':=.bool (x.fLocal && decide (x.fDef = -1))) rfl (by rw [show x.fLocal=false from h78];rfl) ?_
 refine Z4 (Z5 J ?_)
 (refine ZC0 rfl ZK (fun w hS=>frame hS ZQ (fun B' hB hS'=>obj_when hS' (x.fLocal && decide (x.fDef = -1)) 13)) ?_;rintro ⟨⟩ -)
 refine ZG ?_ J (fun w0=>?_)
 exact AgainG.nil
 refine Z4 (Z5 J ?_)
 refine oBuildSliceF (Parts.cons J (Parts.cons J (Parts.cons J (Parts.cons J (Parts.cons J Parts.nil))))) J J J J J (Fulls.cons ZP J (Fulls.cons ZP J (Fulls.cons ZP J (Fulls.cons ZP J (Fulls.cons ZP J Fulls.nil ap) ap) ap) ap) ap) (fun b84=>?_)
 refine oConv (blk_row (enc:=Value.int .i64) (h1:=fun _=>J) (W:=B.e) (xs:=[nameF4 x.fName,whenF (kindB x) 8,whenF ((o.fSymbols.take k).any (nameP x)) 12,whenF (decide (x.fDef≠-1) && (decide (x.fDef≠(aheadN x (o.fSymbols.take k):Int)) || decide ((mostN o x:Int)≤(aheadN x (o.fSymbols.take k):Int)))) 9,whenF (x.fLocal && decide (x.fDef = -1)) 13]) (n:=5) ZP J J (by decide)) ?_
 refine ZG ?_ J (fun w0=>?_)
 exact AgainG.nil
 refine Z4 (Z5 J ?_)
 (refine ZD J (fun w B' hB hR hS'=>obj_first hS' [nameF4 x.fName,whenF (kindB x) 8,whenF ((o.fSymbols.take k).any (nameP x)) 12,whenF (decide (x.fDef≠-1) && (decide (x.fDef≠(aheadN x (o.fSymbols.take k):Int)) || decide ((mostN o x:Int)≤(aheadN x (o.fSymbols.take k):Int)))) 9,whenF (x.fLocal && decide (x.fDef = -1)) 13] (some ⟨b84,0,none⟩) 5 5 rfl (row_Cs (W:=B.e) (e:=29) (A:=some ⟨b84,0,none⟩) (n:=5) (cp:=5) (hR _ _ ZP))) ?_;rintro ⟨⟩ -)
 refine ZG ?_ J (fun w0=>?_)
 exact AgainG.nil
 refine Z6 (Zzh ?_)
 exact ⟨(),trivial,rfl,Lh⟩
def ruleP (d:ApiData) (l:List ApiSymbol) (cls:Int) (i:Nat) (x:ApiReloc):Nat→Bool
  | 0=>decide (d.fKind=0)
  | 1=>decide (x.fAt<0) || decide ((d.fWords.length:Int)≤x.fAt)
  | 2=>decide (0<i) && decide (x.fAt≤(d.fRelocs.getD (i-1) default).fAt)
  | 3=>decide (x.fSym<0) || decide ((l.length:Int)≤x.fSym)
  | _=>decide ((l.getD x.fSym.toNat default).fSort≠1) || decide ((l.getD x.fSym.toNat default).fKind≠cls)
def ruleE (j:Nat):Int:=if j=4 then 8 else 11
abbrev Fn:=Nat×List Nat
def fnV (x:Fn):Value:=.func (.func x.1) #[] (x.2.map fun b=>Value.pointer (some ⟨b,0,none⟩)).toArray
def kFn:Kd Fn:=Kd.scalar fnV (fun _=>rfl)
def kRule:Kd (Fn×Int):=Kd.pair kFn (Kd.int .i64)
def rulesL (b2 b3 b5:Nat):List (Fn×Int):=[((130,[b2]),11),((131,[b2]),11),((132,[b2]),11),((133,[b3]),11),((134,[b3,b5]),8)]
theorem rule1 {B:Base}{w:World}(d:ApiData) (A0:Option Addr) (c0:Nat) (A1:Option Addr) (c1:Nat) (l:List ApiSymbol) (Al:Option Addr) (cl:Nat) (cls:Int) (b2 b3 b5:Nat) (hS:St B [blk b2 62 [.int .i64 d.fKind,.slice A0 d.fWords.length c0,.slice A1 d.fRelocs.length c1]] w) (g1:kApiReloc.C B.e A1 d.fRelocs) (hC:kApiSymbol.C B.e Al l) (hlw:d.fWords.length≤100000) (i:Nat) (x:ApiReloc) (hx:d.fRelocs[i]?=some x) :
 CW 130 #[.int .i64 (i:Int),.agg #[.int .i64 x.fAt,.int .i64 x.fSym,.bool x.fWide],.pointer (some ⟨b2,0,none⟩)] w (Ret B (fun _:Unit=>True) (fun _=>.bool (ruleP d l cls i x 0)) (fun _=>[blk b2 62 [.int .i64 d.fKind,.slice A0 d.fWords.length c0,.slice A1 d.fRelocs.length c1]])):=by
 have hll:=hC.1
 have hlr:=g1.1
 have hil:=(List.getElem?_eq_some_iff.1 hx).1
 refine ZX Tryz.func130 hS ?_
 refine Zh (Zi (oBox J ZP (fun b4=>?_)))
 refine Zp J (Zn (Za (Zh (Zi (Zz (n:=0) (m:=0) J J J (Zld ?_))))))
 refine Zy J J (Zzh ?_)
 exact ⟨(),trivial,rfl,Lh⟩
theorem rule2 {B:Base}{w:World}(d:ApiData) (A0:Option Addr) (c0:Nat) (A1:Option Addr) (c1:Nat) (l:List ApiSymbol) (Al:Option Addr) (cl:Nat) (cls:Int) (b2 b3 b5:Nat) (hS:St B [blk b2 62 [.int .i64 d.fKind,.slice A0 d.fWords.length c0,.slice A1 d.fRelocs.length c1]] w) (g1:kApiReloc.C B.e A1 d.fRelocs) (hC:kApiSymbol.C B.e Al l) (hlw:d.fWords.length≤100000) (i:Nat) (x:ApiReloc) (hx:d.fRelocs[i]?=some x) :
 CW 131 #[.int .i64 (i:Int),.agg #[.int .i64 x.fAt,.int .i64 x.fSym,.bool x.fWide],.pointer (some ⟨b2,0,none⟩)] w (Ret B (fun _:Unit=>True) (fun _=>.bool (ruleP d l cls i x 1)) (fun _=>[blk b2 62 [.int .i64 d.fKind,.slice A0 d.fWords.length c0,.slice A1 d.fRelocs.length c1]])):=by
 have hll:=hC.1
 have hlr:=g1.1
 have hil:=(List.getElem?_eq_some_iff.1 hx).1
 refine ZX Tryz.func131 hS ?_
 refine Zh (Zi (oBox J ZP (fun b4=>?_)))
 refine Zp J (Zn (Za (Zh (Zi (Zz (n:=0) (m:=0) J J J (Zld ?_))))))
 refine Zx J J (Zo J (ZS (ZT 9) (fun h9=>?_) (fun h9=>?_)))
 refine Zr J J J J (Zr J J J J (Zr J J J J (Zr J J J J (Zr J J J J (Zr J J J J (Zt J J (Zzh ?_)))))))
 exact ⟨(),trivial,by show Value.bool true=Value.bool (decide (x.fAt<0) || decide ((d.fWords.length:Int)≤x.fAt));rw [decide_eq_true (show x.fAt<0 from h9)];rfl,Lh⟩
 refine Zq J J (Zz (n:=0) (m:=0) J J J (Zzi ?_))
 refine Zq J J (Zz (n:=1) (m:=1) J J J (Zzi ?_))
 refine Zq J J (Zv J J (Zq J J (Z2 J J (Zu J J (Zzh ?_)))))
 exact ⟨(),trivial,by show _=Value.bool (decide (x.fAt<0) || decide ((d.fWords.length:Int)≤x.fAt));rw [decide_eq_false (show ¬ x.fAt<0 from h9)];rfl,Lh⟩
theorem rule3 {B:Base}{w:World}(d:ApiData) (A0:Option Addr) (c0:Nat) (A1:Option Addr) (c1:Nat) (l:List ApiSymbol) (Al:Option Addr) (cl:Nat) (cls:Int) (b2 b3 b5:Nat) (hS:St B [blk b2 62 [.int .i64 d.fKind,.slice A0 d.fWords.length c0,.slice A1 d.fRelocs.length c1]] w) (g1:kApiReloc.C B.e A1 d.fRelocs) (hC:kApiSymbol.C B.e Al l) (hlw:d.fWords.length≤100000) (i:Nat) (x:ApiReloc) (hx:d.fRelocs[i]?=some x) :
 CW 132 #[.int .i64 (i:Int),.agg #[.int .i64 x.fAt,.int .i64 x.fSym,.bool x.fWide],.pointer (some ⟨b2,0,none⟩)] w (Ret B (fun _:Unit=>True) (fun _=>.bool (ruleP d l cls i x 2)) (fun _=>[blk b2 62 [.int .i64 d.fKind,.slice A0 d.fWords.length c0,.slice A1 d.fRelocs.length c1]])):=by
 have hll:=hC.1
 have hlr:=g1.1
 have hil:=(List.getElem?_eq_some_iff.1 hx).1
 refine ZX Tryz.func132 hS ?_
 refine Zh (Zi (oBox J ZP (fun b4=>?_)))
 refine Zp J (Zn (Za (Zh (wDrawG J [0,1,2,3,4,5,6,7,8,9,10,11,12,13] [] [14] 24 ZK J J (fun w0=>?_)))))
 refine Zo J (Z1 J J (Zo J (ZS (ZT 8) (fun h8=>?_) (fun h8=>?_))))
 obtain ⟨y,hy⟩:∃ y,d.fRelocs[i-1]?=some y:=⟨_,List.getElem?_eq_getElem ZO⟩
 obtain ⟨e3,cs3,hE3⟩:=g1.elm hy
 obtain rfl:=kApiReloc_open hE3.K
 have hi0:0<i:=by omega
 refine Zq J J (Zz (n:=0) (m:=0) J J J (Zzi ?_))
 refine Zq J J (Zz (n:=2) (m:=2) J J J (Zzi ?_))
 refine Zq J J (Zo J (Zq J J ?_))
 first | refine oSub rfl rfl ZO ?_ | refine oSubW rfl rfl ?_
 refine ZS0 (t:=14) (v':=.int .i64 ((i-1:Nat):Int)) J (by congr 1;omega) ?_
 refine Zq J J (oIdxE J J (hE3) ZO J J ?_)
 have hc15:=(hE3).cell
 refine Zq J J (ZF (ZT 0) (ZT 0) ?_)
 refine Zq J J (Zlx hc15 ?_)
 refine Zq J J (oLeq J J (Zt J J (Z6 (Zzh ?_))))
 exact ⟨(),trivial,by show _=Value.bool (decide (0<i) && decide (x.fAt≤(d.fRelocs.getD (i-1) default).fAt));rw [decide_eq_true hi0,show d.fRelocs.getD (i-1) default=y by rw [List.getD_eq_getElem?_getD,hy];rfl];rfl,Lh⟩
 refine Zr J J J J (Zr J J J J (Zr J J J J (Zr J J J J (Zr J J J J (Zr J J J J (Zr J J J J (Zr J J J J (Zr J J J J (Zr J J J J (Zu J J (Z6 (Zzh ?_))))))))))))
 exact ⟨(),trivial,by show _=Value.bool (decide (0<i) && decide (x.fAt≤(d.fRelocs.getD (i-1) default).fAt));rw [decide_eq_false (show ¬ 0<i by omega)];rfl,Lh⟩
theorem rule4 {B:Base}{w:World}(d:ApiData) (A0:Option Addr) (c0:Nat) (A1:Option Addr) (c1:Nat) (l:List ApiSymbol) (Al:Option Addr) (cl:Nat) (cls:Int) (b2 b3 b5:Nat) (hS:St B [blk b3 22 [.slice Al l.length cl]] w) (g1:kApiReloc.C B.e A1 d.fRelocs) (hC:kApiSymbol.C B.e Al l) (hlw:d.fWords.length≤100000) (i:Nat) (x:ApiReloc) (hx:d.fRelocs[i]?=some x) :
 CW 133 #[.int .i64 (i:Int),.agg #[.int .i64 x.fAt,.int .i64 x.fSym,.bool x.fWide],.pointer (some ⟨b3,0,none⟩)] w (Ret B (fun _:Unit=>True) (fun _=>.bool (ruleP d l cls i x 3)) (fun _=>[blk b3 22 [.slice Al l.length cl]])):=by
 have hll:=hC.1
 have hlr:=g1.1
 have hil:=(List.getElem?_eq_some_iff.1 hx).1
 refine ZX Tryz.func133 hS ?_
 refine Zh (Zi (oBox J ZP (fun b4=>?_)))
 refine Zp J (Zn (Za (Zh (Zi (Zz (n:=1) (m:=1) J J J (Zld ?_))))))
 refine Zx J J (Zo J (ZS (ZT 9) (fun h9=>?_) (fun h9=>?_)))
 refine Zr J J J J (Zr J J J J (Zr J J J J (Zr J J J J (Zr J J J J (Zt J J (Zzh ?_))))))
 exact ⟨(),trivial,by show Value.bool true=Value.bool (decide (x.fSym<0) || decide ((l.length:Int)≤x.fSym));rw [decide_eq_true (show x.fSym<0 from h9)];rfl,Lh⟩
 refine Zq J J (Zz (n:=1) (m:=1) J J J (Zzi ?_))
 refine Zq J J (Zld ?_)
 refine Zq J J (Zv J J (Zq J J (Z2 J J (Zu J J (Zzh ?_)))))
 exact ⟨(),trivial,by show _=Value.bool (decide (x.fSym<0) || decide ((l.length:Int)≤x.fSym));rw [decide_eq_false (show ¬ x.fSym<0 from h9)];rfl,Lh⟩
theorem rule5 {B:Base}{w:World}(d:ApiData) (A0:Option Addr) (c0:Nat) (A1:Option Addr) (c1:Nat) (l:List ApiSymbol) (Al:Option Addr) (cl:Nat) (cls:Int) (b2 b3 b5:Nat) (hS:St B [blk b3 22 [.slice Al l.length cl],blk b5 3 [.int .i64 cls]] w) (g1:kApiReloc.C B.e A1 d.fRelocs) (hC:kApiSymbol.C B.e Al l) (hlw:d.fWords.length≤100000) (i:Nat) (x:ApiReloc) (hx:d.fRelocs[i]?=some x) (h3:ruleP d l cls i x 3=false) :
 CW 134 #[.int .i64 (i:Int),.agg #[.int .i64 x.fAt,.int .i64 x.fSym,.bool x.fWide],.pointer (some ⟨b3,0,none⟩),.pointer (some ⟨b5,0,none⟩)] w (Ret B (fun _:Unit=>True) (fun _=>.bool (ruleP d l cls i x 4)) (fun _=>[blk b3 22 [.slice Al l.length cl],blk b5 3 [.int .i64 cls]])):=by
 have hll:=hC.1
 have hlr:=g1.1
 have hil:=(List.getElem?_eq_some_iff.1 hx).1
 refine ZX Tryz.func134 hS ?_
 refine Zh (Zi (oBox J ZP (fun b5=>?_)))
 refine Zp J (Zn (Za (Zh (wDrawG J [0,1,2,3,4,5,6,7,8,9,10,11,12,13,14,15,16] [] [17] 24 ZK J J (fun w0=>?_)))))
 refine Zld ?_
 refine Zz (n:=1) (m:=1) J J J (Zld ?_)
 have hs3:¬ x.fSym<0∧¬ (l.length:Int)≤x.fSym:=by
  have h:(decide (x.fSym<0) || decide ((l.length:Int)≤x.fSym))=false:=h3
  rw [Bool.or_eq_false_iff,decide_eq_false_iff_not,decide_eq_false_iff_not] at h
  exact h
 obtain ⟨k,hk⟩:=Int.eq_ofNat_of_zero_le (show 0≤x.fSym by omega)
 obtain ⟨y,hy⟩:∃ y,l[k]?=some y:=⟨_,List.getElem?_eq_getElem ZO⟩
 obtain ⟨e3,cs3,hE3⟩:=hC.elm hy
 obtain rfl:=kApiSymbol_open hE3.K
 have hly:l.getD x.fSym.toNat default=y:=by rw [hk,Int.toNat_natCast,List.getD_eq_getElem?_getD,hy];rfl
 refine ZS0 (t:=9) (v':=.int .i64 (k:Int)) rfl (by rw [hk]) ?_
 refine oIdxE J J (hE3) ZO J J ?_
 have hc10:=(hE3).cell
 refine ZF (ZT 2) (ZT 2) ?_
 refine Zlx hc10 ?_
 refine Z0 J J (Zo J (ZS (ZT 14) (fun h14=>?_) (fun h14=>?_)))
 refine Zr J J J J (Zr J J J J (Zr J J J J (Zr J J J J (Zr J J J J (Zr J J J J (Zr J J J J (Zr J J J J (Zt J J (Z6 (Zzh ?_))))))))))
 exact ⟨(),trivial,by show Value.bool true=Value.bool (decide ((l.getD x.fSym.toNat default).fSort≠1) || decide ((l.getD x.fSym.toNat default).fKind≠cls));rw [hly,decide_eq_true (show y.fSort≠1 from h14)];rfl,Lh⟩
 refine Zq J J (Zld ?_)
 refine Zq J J (Zz (n:=1) (m:=1) J J J (Zzi ?_))
 refine ZS0 (t:=17) (v':=.int .i64 (k:Int)) rfl (by rw [hk]) ?_
 refine Zq J J (oIdxE J J (hE3) ZO J J ?_)
 have hc18:=(hE3).cell
 refine Zq J J (ZF (ZT 3) (ZT 3) ?_)
 refine Zq J J (Zlx hc18 ?_)
 refine Zq J J (Zld ?_)
 refine Zq J J (Z0 J J (Zu J J (Z6 (Zzh ?_))))
 exact ⟨(),trivial,by show _=Value.bool (decide ((l.getD x.fSym.toNat default).fSort≠1) || decide ((l.getD x.fSym.toNat default).fKind≠cls));rw [hly,decide_eq_false (show ¬ y.fSort≠1 from h14)];rfl,Lh⟩

theorem rules_good {b2 b3 b5 j:Nat}{r:Fn×Int}(h:(rulesL b2 b3 b5)[j]?=some r):goodF Tryz.prog r.1.1=true:=by
  have hj:=(List.getElem?_eq_some_iff.1 h).1
  match j,hj,h with
  | 0,_,h=>obtain rfl:=Option.some.inj h;show goodF Tryz.prog 130=true;kernel_rfl
  | 1,_,h=>obtain rfl:=Option.some.inj h;show goodF Tryz.prog 131=true;kernel_rfl
  | 2,_,h=>obtain rfl:=Option.some.inj h;show goodF Tryz.prog 132=true;kernel_rfl
  | 3,_,h=>obtain rfl:=Option.some.inj h;show goodF Tryz.prog 133=true;kernel_rfl
  | 4,_,h=>obtain rfl:=Option.some.inj h;show goodF Tryz.prog 134=true;kernel_rfl
theorem rules_e {b2 b3 b5 j:Nat}{r:Fn×Int}(h:(rulesL b2 b3 b5)[j]?=some r):r.2=ruleE j∧j<5:=by
  have hj:=(List.getElem?_eq_some_iff.1 h).1
  match j,hj,h with
  | 0,_,h=>obtain rfl:=Option.some.inj h;exact ⟨rfl,by decide⟩
  | 1,_,h=>obtain rfl:=Option.some.inj h;exact ⟨rfl,by decide⟩
  | 2,_,h=>obtain rfl:=Option.some.inj h;exact ⟨rfl,by decide⟩
  | 3,_,h=>obtain rfl:=Option.some.inj h;exact ⟨rfl,by decide⟩
  | 4,_,h=>obtain rfl:=Option.some.inj h;exact ⟨rfl,by decide⟩
theorem rules_call {B:Base}{w:World}(d:ApiData) (A0:Option Addr) (c0:Nat) (A1:Option Addr) (c1:Nat) (l:List ApiSymbol) (Al:Option Addr) (cl:Nat) (cls:Int) (b2 b3 b5:Nat) (hS:St B [blk b2 62 [.int .i64 d.fKind,.slice A0 d.fWords.length c0,.slice A1 d.fRelocs.length c1],blk b3 22 [.slice Al l.length cl],blk b5 3 [.int .i64 cls]] w) (g1:kApiReloc.C B.e A1 d.fRelocs) (hC:kApiSymbol.C B.e Al l) (hlw:d.fWords.length≤100000) (i:Nat) (x:ApiReloc) (hx:d.fRelocs[i]?=some x) {j:Nat}{r:Fn×Int}(h:(rulesL b2 b3 b5)[j]?=some r) (hs:∀ k,k<j→ruleP d l cls i x k=false) :
    CW r.1.1 (#[]++[Value.int .i64 (i:Int),Value.agg #[.int .i64 x.fAt,.int .i64 x.fSym,.bool x.fWide]].toArray++(r.1.2.map fun b=>Value.pointer (some ⟨b,0,none⟩)).toArray) w (Ret B (fun _:Unit=>True) (fun _=>.bool (ruleP d l cls i x j)) (fun _=>[blk b2 62 [.int .i64 d.fKind,.slice A0 d.fWords.length c0,.slice A1 d.fRelocs.length c1],blk b3 22 [.slice Al l.length cl],blk b5 3 [.int .i64 cls]])):=by
  have hj:=(List.getElem?_eq_some_iff.1 h).1
  match j,hj,h,hs with
  | 0,_,h,_=>obtain rfl:=Option.some.inj h;refine (frame hS ZQ (fun B' hB hS'=>rule1 d A0 c0 A1 c1 l Al cl cls b2 b3 b5 hS' (Kd.C_grow hB g1) (Kd.C_grow hB hC) hlw i x hx)).mono ?_;rintro e w' ⟨u,a,b,c⟩;exact ⟨u,a,b,(Leads.has ZQ) _ c⟩
  | 1,_,h,_=>obtain rfl:=Option.some.inj h;refine (frame hS ZQ (fun B' hB hS'=>rule2 d A0 c0 A1 c1 l Al cl cls b2 b3 b5 hS' (Kd.C_grow hB g1) (Kd.C_grow hB hC) hlw i x hx)).mono ?_;rintro e w' ⟨u,a,b,c⟩;exact ⟨u,a,b,(Leads.has ZQ) _ c⟩
  | 2,_,h,_=>obtain rfl:=Option.some.inj h;refine (frame hS ZQ (fun B' hB hS'=>rule3 d A0 c0 A1 c1 l Al cl cls b2 b3 b5 hS' (Kd.C_grow hB g1) (Kd.C_grow hB hC) hlw i x hx)).mono ?_;rintro e w' ⟨u,a,b,c⟩;exact ⟨u,a,b,(Leads.has ZQ) _ c⟩
  | 3,_,h,_=>obtain rfl:=Option.some.inj h;refine (frame hS ZQ (fun B' hB hS'=>rule4 d A0 c0 A1 c1 l Al cl cls b2 b3 b5 hS' (Kd.C_grow hB g1) (Kd.C_grow hB hC) hlw i x hx)).mono ?_;rintro e w' ⟨u,a,b,c⟩;exact ⟨u,a,b,(Leads.has ZQ) _ c⟩
  | 4,_,h,hs=>obtain rfl:=Option.some.inj h;refine (frame hS ZQ (fun B' hB hS'=>rule5 d A0 c0 A1 c1 l Al cl cls b2 b3 b5 hS' (Kd.C_grow hB g1) (Kd.C_grow hB hC) hlw i x hx (hs 3 ZO))).mono ?_;rintro e w' ⟨u,a,b,c⟩;exact ⟨u,a,b,(Leads.has ZQ) _ c⟩
theorem data_nz {B:Base}{w:World}(hS:St B [] w) (x:Int) :
 CW 98 #[.int .i64 x] w (Ret B (fun _:Unit=>True) (fun _=>.bool (decide (x≠0))) (fun _=>[])):=by
 refine ZX Tryz.func98 hS ?_
 refine Zh (Zi (Zp J (Zn (Za (Zh (Zi (Zo J (Z0 J J (Zzh ?_)))))))))
 exact ⟨(),trivial,rfl,Lh⟩
theorem indexFunc_w {B:Base}{w:World}(hS:St B [] w) (l:List Int) (A:Option Addr) (cp:Nat) (hC:(Kd.int .i64).C B.e A l) :
 CW 128 #[.slice A l.length cp,.func (.func 98) #[] #[]] w (Ret B (fun _:Unit=>True) (fun _=>.int .i64 (idxI (fun x=>decide (x≠0)) l)) (fun _=>[])):=by
 have hl:=hC.1
 refine ZX Tryz.func128 hS ?_
 refine Zh (Zi (Zp J (Zn (Za (Zh (Zh (Zi (Zo J (Zv J J (Zo J (Zn (Za (Zk (wLoop (ι:=Nat) (fun i=>[(0,.slice A l.length cp),(1,.func (.func 98) #[] #[]),(7,.int .i64 (l.length:Int)),(8,.int .i64 (i:Int))]) (fun i=>[]) (fun i=>i≤l.length∧∀ y ∈ l.take i,decide (y≠0)=false) (fun i=>l.length-i) 0 ?_ cv (Leads.has ZQ) ?_))))))))))))))
 exact ⟨Nat.zero_le _,by simp⟩
 rintro i ⟨hi,hs⟩
 try dsimp only
 refine Zh (Zi (Zx J J (Zn (Za (Zh (wC (fun h9=>?_) (fun h9=>?_)))))))
 obtain ⟨x,hx⟩:∃ x,l[i]?=some x:=⟨_,List.getElem?_eq_getElem ZO⟩
 obtain ⟨e1,cs1,hE⟩:=hC.elm hx
 obtain rfl:=(show cs1=[Value.int .i64 x] from hE.K)
 refine Zj (Za (Zh (Zk (Zh (Zi (Zo J (Zp J (Zn (Za (Zh (Zi (Zo J (Zo J (Zo J (oIdxE J J (hE) ZO J J ?_)))))))))))))))
 have hc14:=(hE).cell
 refine Zlx hc14 ?_
 (refine oCallV rfl rfl rfl ZK (fun w hS=>frame hS ZQ (fun B' hB hS'=>data_nz hS' x)) ?_;rintro ⟨⟩ -)
 refine Zn (Za (wC (fun h16=>?_) (fun h16=>?_)))
 refine Zh (Zi (Zo J (Zzc ?_)))
 exact ⟨(),trivial,by rw [idxI_stop (p:=fun y=>decide (y≠0)) hs hx (by simpa using h16)];rfl,Lh⟩
 refine Zj (Zzg ?_)
 refine Zo J (Zn (Za ?_))
 exact ⟨rfl,i+1,⟨by omega,take_not (p:=fun y=>decide (y≠0)) hs hx (by simpa using h16)⟩,by omega,cv,Lh⟩
 refine Zm (Zzf ?_)
 obtain rfl:i=l.length:=by omega
 rw [List.take_length] at hs
 exact ⟨(),trivial,by rw [idxI_none (p:=fun y=>decide (y≠0)) hs];rfl,Lh⟩
theorem containsFunc_w {B:Base}{w:World}(hS:St B [] w) (l:List Int) (A:Option Addr) (cp:Nat) (hC:(Kd.int .i64).C B.e A l) :
 CW 97 #[.slice A l.length cp,.func (.func 98) #[] #[]] w (Ret B (fun _:Unit=>True) (fun _=>.bool (l.any fun x=>decide (x≠0))) (fun _=>[])):=by
 refine ZX Tryz.func97 hS ?_
 refine Zh (Zi (Zp J (Zn (Za (Zh (Zi (Zo J (Zo J ?_))))))))
 (refine ZC0 rfl ZK (fun w hS=>frame hS ZQ (fun B' hB hS'=>indexFunc_w hS' l A cp (Kd.C_grow hB hC))) ?_;rintro ⟨⟩ -)
 refine Z2 J J (Zzh ?_)
 exact ⟨(),trivial,by show Value.bool (decide (0≤idxI (fun x=>decide (x≠0)) l))=_;congr 1;rw [Bool.eq_iff_iff,decide_eq_true_eq];exact idxI_iff,Lh⟩
theorem data_rules {B:Base}{w:World}(hS:St B [] w) (d:ApiData) (A0:Option Addr) (c0:Nat) (A1:Option Addr) (c1:Nat) (l:List ApiSymbol) (Al:Option Addr) (cl:Nat) :
 CW 99 #[.agg #[.int .i64 d.fKind,.slice A0 d.fWords.length c0,.slice A1 d.fRelocs.length c1],.slice Al l.length cl] w (Ret B (fun _:Nat×Nat×Nat×Nat=>True) (fun z=>.slice (some ⟨z.2.2.2,0,none⟩) 5 5) (fun z=>[blk z.2.2.2 143 [.func (.func 130) #[] #[.pointer (some ⟨z.1,0,none⟩)],.int .i64 11,.func (.func 131) #[] #[.pointer (some ⟨z.1,0,none⟩)],.int .i64 11,.func (.func 132) #[] #[.pointer (some ⟨z.1,0,none⟩)],.int .i64 11,.func (.func 133) #[] #[.pointer (some ⟨z.2.1,0,none⟩)],.int .i64 11,.func (.func 134) #[] #[.pointer (some ⟨z.2.1,0,none⟩),.pointer (some ⟨z.2.2.1,0,none⟩)],.int .i64 8],blk z.1 62 [.int .i64 d.fKind,.slice A0 d.fWords.length c0,.slice A1 d.fRelocs.length c1],blk z.2.1 22 [.slice Al l.length cl],blk z.2.2.1 3 [.int .i64 (if isC (IntKind.i64.wrap (d.fKind-1)) then IntKind.i64.wrap (d.fKind-1) else 0)]])):=by
 refine ZX Tryz.func99 hS ?_
 refine Zh (Zi (oBox J ZP (fun b2=>?_)))
 refine oBox J ZP (fun b3=>?_)
 refine Zp J (Zn (Za (Zh (Zi (Zz (n:=0) (m:=0) J J J (Zld ?_))))))
 (refine ZC0 rfl ZK (fun w hS=>frame hS ZQ (fun B' hB hS'=>sig_Class hS' d.fKind)) ?_;rintro ⟨⟩ -)
 refine Zo J (oExt J ZP ?_)
 refine oExt J ZP ?_
 refine oAlloc J ZP (fun b5=>?_)
 refine Zst ?_
 refine Zp J (Zn (Za (Zh (Zi (oMakeFunc J (oBuild (Parts.cons J (Parts.cons J Parts.nil)) J J (Built.cons (off:=0) (s:=1) J ZP J ZP (Built.cons (off:=1) (s:=1) J ZP J ZP Built.nil)) ?_))))))
 refine oMakeFunc J (oBuild (Parts.cons J (Parts.cons J Parts.nil)) J J (Built.cons (off:=0) (s:=1) J ZP J ZP (Built.cons (off:=1) (s:=1) J ZP J ZP Built.nil)) ?_)
 refine oMakeFunc J (oBuild (Parts.cons J (Parts.cons J Parts.nil)) J J (Built.cons (off:=0) (s:=1) J ZP J ZP (Built.cons (off:=1) (s:=1) J ZP J ZP Built.nil)) ?_)
 refine oMakeFunc J (oBuild (Parts.cons J (Parts.cons J Parts.nil)) J J (Built.cons (off:=0) (s:=1) J ZP J ZP (Built.cons (off:=1) (s:=1) J ZP J ZP Built.nil)) ?_)
 refine oMakeFunc J (oBuild (Parts.cons J (Parts.cons J Parts.nil)) J J (Built.cons (off:=0) (s:=1) J ZP J ZP (Built.cons (off:=1) (s:=1) J ZP J ZP Built.nil)) ?_)
 refine oBuildSliceF (Parts.cons J (Parts.cons J (Parts.cons J (Parts.cons J (Parts.cons J Parts.nil))))) J J J J J (Fulls.cons ZP J (Fulls.cons ZP J (Fulls.cons ZP J (Fulls.cons ZP J (Fulls.cons ZP J Fulls.nil ap) ap) ap) ap) ap) (fun b23=>?_)
 refine Zp J (Zza ?_)
 exact ⟨(b2,b3,b5,b23),trivial,rfl,Lh⟩
theorem rule_all {d:ApiData}{l:List ApiSymbol}{i:Nat}{x:ApiReloc}{cls:Int}(hc:d.fKind≠0→cls=d.fKind-1) (h:∀ k,k<5→ruleP d l cls i x k=false):dRelE d l i x=0:=by
 have h0:d.fKind≠0:=by simpa [ruleP] using h 0 ZO
 have h1:=h 1 ZO
 have h2:=h 2 ZO
 have h3:=h 3 ZO
 have h4:=h 4 ZO
 have e:=hc h0
 unfold dRelE
 simp only [ruleP,Bool.or_eq_false_iff,Bool.and_eq_false_iff,decide_eq_false_iff_not] at h1 h2 h3 h4
 rw [if_neg (by rintro (a | a | a | ⟨a,b⟩ | a | a);exact h0 a;exact h1.1 a;exact h1.2 a;exact h2.elim (fun f=>f a) (fun f=>f b);exact h3.1 a;exact h3.2 a),if_neg (by rintro (a | a);exact h4.1 a;exact h4.2 (by rw [e];exact a))]
theorem rule_hit {d:ApiData}{l:List ApiSymbol}{i:Nat}{x:ApiReloc}{cls:Int}{j:Nat}(hj:j<5) (hc:d.fKind≠0→cls=d.fKind-1) (h:∀ k,k<j→ruleP d l cls i x k=false) (hh:ruleP d l cls i x j=true):dRelE d l i x=ruleE j:=by
  unfold dRelE
  match j,hj,hh,h with
  | 0,_,hh,_=>rw [if_pos (Or.inl (by simpa [ruleP] using hh))];rfl
  | 1,_,hh,_=>rw [if_pos (by simp only [ruleP,Bool.or_eq_true,decide_eq_true_eq] at hh;exact hh.elim (fun a=>.inr (.inl a)) (fun a=>.inr (.inr (.inl a))))];rfl
  | 2,_,hh,_=>rw [if_pos (by simp only [ruleP,Bool.and_eq_true,decide_eq_true_eq] at hh;exact .inr (.inr (.inr (.inl hh))))];rfl
  | 3,_,hh,_=>rw [if_pos (by simp only [ruleP,Bool.or_eq_true,decide_eq_true_eq] at hh;exact hh.elim (fun a=>.inr (.inr (.inr (.inr (.inl a))))) (fun a=>.inr (.inr (.inr (.inr (.inr a))))))];rfl
  | 4,_,hh,h=>
    have h0:d.fKind≠0:=by simpa [ruleP] using h 0 ZO
    have h1:=h 1 ZO
    have h2:=h 2 ZO
    have h3:=h 3 ZO
    have e:=hc h0
    simp only [ruleP,Bool.or_eq_false_iff,Bool.and_eq_false_iff,decide_eq_false_iff_not] at h1 h2 h3
    simp only [ruleP,Bool.or_eq_true,decide_eq_true_eq] at hh
    rw [if_neg (by rintro (a | a | a | ⟨a,b⟩ | a | a);exact h0 a;exact h1.1 a;exact h1.2 a;exact h2.elim (fun f=>f a) (fun f=>f b);exact h3.1 a;exact h3.2 a),if_pos (by rw [← e];exact hh)];rfl
theorem cat_rules (w:World) (b2 b3 b5:Nat):Cat kRule w (rulesL b2 b3 b5) [.func (.func 130) #[] #[.pointer (some ⟨b2,0,none⟩)],.int .i64 11,.func (.func 131) #[] #[.pointer (some ⟨b2,0,none⟩)],.int .i64 11,.func (.func 132) #[] #[.pointer (some ⟨b2,0,none⟩)],.int .i64 11,.func (.func 133) #[] #[.pointer (some ⟨b3,0,none⟩)],.int .i64 11,.func (.func 134) #[] #[.pointer (some ⟨b3,0,none⟩),.pointer (some ⟨b5,0,none⟩)],.int .i64 8]:=
 ⟨[_,_],_,rfl,⟨_,_,rfl,rfl,rfl⟩,[_,_],_,rfl,⟨_,_,rfl,rfl,rfl⟩,[_,_],_,rfl,⟨_,_,rfl,rfl,rfl⟩,[_,_],_,rfl,⟨_,_,rfl,rfl,rfl⟩,[_,_],_,rfl,⟨_,_,rfl,rfl,rfl⟩,rfl⟩
theorem cls_eq {k:Int}(h:textF k≠ByteArray.empty) (h0:k≠0):(if isC (IntKind.i64.wrap (k-1)) then IntKind.i64.wrap (k-1) else 0)=k-1:=by
 have hk:0≤k∧k<9:=Classical.not_not.1 (fun hn=>h (textF_no.2 hn))
 have hw:IntKind.i64.wrap (k-1)=k-1:=wrap_in (by unfold in64;omega)
 rw [hw,if_pos (by unfold isC;rw [decide_eq_true (show 0≤k-1 by omega),decide_eq_true (show k-1<8 by omega)];rfl)]
theorem data_Check {B:Base}{w:World}(hS:St B [] w) (d:ApiData) (dc:List Value) (hd:kApiData.K B.e d dc) (hk:in64 d.fKind) (hl2:d.fRelocs.length≤100000) (Al:Option Addr) (cl:Nat) (l:List ApiSymbol) (hC:kApiSymbol.C B.e Al l) :
 CW 67 #[.agg dc.toArray,.slice Al l.length cl] w (Ret B (fun _:Unit=>True) (fun _=>.int .i64 (dataF d l)) (fun _=>[])):=by
 obtain ⟨A0,c0,A1,c1,rfl,l0,g0,l1,g1⟩:=kApiData_open hd
 have hw1:=g0.1
 refine ZX Tryz.func67 hS ?_
 refine Zh (Zi (oBox J ZP (fun b2=>?_)))
 refine Zp J (Zn (Za (Zh (Zk (Zh (Zi (Zz (n:=0) (m:=0) J J J (Zld ?_))))))))
 (refine ZC0 rfl ZK (fun w hS=>frame hS ZQ (fun B' hB hS'=>sig_Text hS' d.fKind)) ?_;rintro ⟨⟩ -)
 refine oSEq J J (Zp J (Zn (Za (wC (fun h10=>?_) (fun h10=>?_)))))
 have h10:textF d.fKind=ByteArray.empty:=h10
 refine Zh (Zi (Zzd ?_))
 exact ⟨(),trivial,by unfold dataF;rw [if_pos h10];rfl,Lh⟩
 have h10:¬ textF d.fKind=ByteArray.empty:=h10
 have hcls:d.fKind≠0→(if isC (IntKind.i64.wrap (d.fKind-1)) then IntKind.i64.wrap (d.fKind-1) else 0)=d.fKind-1:=fun h0=>cls_eq h10 h0
 refine Zh (Zi (Zz (n:=1) (m:=1) J J J (Zld ?_)))
 refine Zv J J (Z1 J J (Zp J (Zn (Za (wC (fun h15=>?_) (fun h15=>?_))))))
 refine Zh (Zi (Zzd ?_))
 exact ⟨(),trivial,by unfold dataF;rw [if_neg h10,if_pos ZO];rfl,Lh⟩
 have hn32:¬ 32<d.fWords.length:=by omega
 refine Zh (Zi (Zz (n:=0) (m:=0) J J J (Zld ?_)))
 refine Z0 J J (Zo J (ZS (ZT 24) (fun h24=>?_) (fun h24=>?_)))
 have hfn:(fun w:Int=>decide (d.fKind≠0∧w≠0))=fun w=>decide (w≠0):=by funext w;simp [show d.fKind≠0 from h24]
 refine Zq J J (Zz (n:=1) (m:=1) J J J (Zzi ?_))
 refine Zq J J ?_
 (refine ZC0 rfl ZK (fun w hS=>frame hS ZQ (fun B' hB hS'=>containsFunc_w hS' d.fWords A0 c0 (Kd.C_grow hB g0))) ?_;rintro ⟨⟩ -)
 refine Zt J J (Zp J (Zn (Za (wC (fun h20=>?_) (fun h20=>?_)))))
 refine Zh (Zi (Zzd ?_))
 exact ⟨(),trivial,by unfold dataF;rw [if_neg h10,if_neg hn32,if_pos (by rw [hfn];simpa using h20)];rfl,Lh⟩
 have hdF:dataF d l=fstE ((List.range d.fRelocs.length).map (relE d l)):=by unfold dataF;rw [if_neg h10,if_neg hn32,if_neg (by rw [hfn];simpa using h20)]
 refine Zj (Zd (Za (Zh (Zi (Zla ?_)))))
 refine Zo J ?_
 (refine ZC0 rfl ZK (fun w hS=>frame hS ZQ (fun B' hB hS'=>data_rules hS' d A0 c0 A1 c1 l Al cl)) ?_;rintro z -)
 refine Zp J (Zn (Za (wFreeze [blk z.2.2.2 143 [.func (.func 130) #[] #[.pointer (some ⟨z.1,0,none⟩)],.int .i64 11,.func (.func 131) #[] #[.pointer (some ⟨z.1,0,none⟩)],.int .i64 11,.func (.func 132) #[] #[.pointer (some ⟨z.1,0,none⟩)],.int .i64 11,.func (.func 133) #[] #[.pointer (some ⟨z.2.1,0,none⟩)],.int .i64 11,.func (.func 134) #[] #[.pointer (some ⟨z.2.1,0,none⟩),.pointer (some ⟨z.2.2.1,0,none⟩)],.int .i64 8]] ZQ (fun B1 hB1 hq1=>?_))))
 have hR:kRule.C B1.e (some ⟨z.2.2.2,0,none⟩) (rulesL z.1 z.2.1 z.2.2.1):=C_blk (hq1 _ _ ZP) (by show 5≤9223372036854775807;omega) (cat_rules _ _ _ _)
 have g0:=Kd.C_grow hB1 g0
 have g1:=Kd.C_grow hB1 g1
 have hC:=Kd.C_grow hB1 hC
 refine Zh (Zh (Zi (Zz (n:=2) (m:=2) J J J (Zld ?_))))
 refine Zv J J (Zo J (Zn (Za (Zk (wLoop (ι:=Nat) (fun i=>[(2,.pointer (some ⟨b2,0,none⟩)),(5,.slice (some ⟨z.2.2.2,0,none⟩) 5 5),(33,.slice A1 d.fRelocs.length c1),(34,.int .i64 (d.fRelocs.length:Int)),(35,.int .i64 (i:Int))]) (fun i=>[blk b2 62 [.int .i64 d.fKind,.slice A0 d.fWords.length c0,.slice A1 d.fRelocs.length c1],blk z.1 62 [.int .i64 d.fKind,.slice A0 d.fWords.length c0,.slice A1 d.fRelocs.length c1],blk z.2.1 22 [.slice Al l.length cl],blk z.2.2.1 3 [.int .i64 (if isC (IntKind.i64.wrap (d.fKind-1)) then IntKind.i64.wrap (d.fKind-1) else 0)]]) (fun i=>i≤d.fRelocs.length∧fstE (((List.range d.fRelocs.length).map (relE d l)).take i)=0) (fun i=>d.fRelocs.length-i) 0 ?_ cv (Leads.has ZQ) ?_)))))
 exact ⟨Nat.zero_le _,rfl⟩
 rintro i ⟨hi,hs⟩
 try dsimp only
 refine Zh (Zi (Zx J J (Zn (Za (Zh (wC (fun h36=>?_) (fun h36=>?_)))))))
 obtain ⟨x,hx⟩:∃ x,d.fRelocs[i]?=some x:=⟨_,List.getElem?_eq_getElem ZO⟩
 obtain ⟨e1,cs1,hE⟩:=g1.elm hx
 obtain rfl:=kApiReloc_open hE.K
 have hre:((List.range d.fRelocs.length).map (relE d l))[i]?=some (relE d l i):=rmap_at ZO
 have hrx:=relE_at (l:=l) hx
 refine Zj (Za (Zh (Zk (Zh (Zi (Zo J (oIdxE J J (hE) ZO J J ?_)))))))
 have hc38:=(hE).cell
 refine Zlx hc38 ?_
 refine oAlloc J ZP (fun b7=>?_)
 refine Zp J (Zsa ?_)
 refine Zn (Za (Zh (Zi (Zo J (Zv J J (Zo J (Zn (Za (Zk (wLoop (ι:=Nat) (fun j=>[(2,.pointer (some ⟨b2,0,none⟩)),(5,.slice (some ⟨z.2.2.2,0,none⟩) 5 5),(33,.slice A1 d.fRelocs.length c1),(34,.int .i64 (d.fRelocs.length:Int)),(35,.int .i64 (i:Int)),(6,.int .i64 (i:Int)),(7,.pointer (some ⟨b7,0,none⟩)),(40,.slice (some ⟨z.2.2.2,0,none⟩) 5 5),(41,.int .i64 5),(42,.int .i64 (j:Int))]) (fun j=>[blk b7 103 [.int .i64 x.fAt,.int .i64 x.fSym,.bool x.fWide],blk b2 62 [.int .i64 d.fKind,.slice A0 d.fWords.length c0,.slice A1 d.fRelocs.length c1],blk z.1 62 [.int .i64 d.fKind,.slice A0 d.fWords.length c0,.slice A1 d.fRelocs.length c1],blk z.2.1 22 [.slice Al l.length cl],blk z.2.2.1 3 [.int .i64 (if isC (IntKind.i64.wrap (d.fKind-1)) then IntKind.i64.wrap (d.fKind-1) else 0)]]) (fun j=>j≤5∧∀ k,k<j→ruleP d l (if isC (IntKind.i64.wrap (d.fKind-1)) then IntKind.i64.wrap (d.fKind-1) else 0) i x k=false) (fun j=>5-j) 0 ?_ cv (Leads.has ZQ) ?_))))))))))
 exact ⟨Nat.zero_le _,fun k hk=>by omega⟩
 rintro j ⟨hj,hsj⟩
 try dsimp only
 refine Zh (Zi (Zx J J (Zn (Za (Zh (wC (fun h43=>?_) (fun h43=>?_)))))))
 obtain ⟨r,hr⟩:∃ r,(rulesL z.1 z.2.1 z.2.2.1)[j]?=some r:=⟨_,List.getElem?_eq_getElem (by show j<5;omega)⟩
 obtain ⟨e2,cs2,hE2⟩:=hR.elm hr
 obtain ⟨_,_,rfl,rfl,rfl⟩:=(hE2.K:kRule.K _ _ _)
 refine Zj (Za (Zh (Zk (Zh (Zi (oIdxE J J (hE2) ZO J J ?_))))))
 have hc44:=(hE2).cell
 refine Zlx hc44 ?_
 refine oAlloc J ZP (fun b9=>?_)
 refine Zsa ?_
 refine Zn (Za (Zh (Zi (Zz (n:=0) (m:=0) J J J (Zld ?_)))))
 refine Zo J (Zla ?_)
 (refine oCallV rfl rfl rfl (rules_good hr) (fun w hS=>frame hS ZQ (fun B' hB hS'=>rules_call d A0 c0 A1 c1 l Al cl _ z.1 z.2.1 z.2.2.1 hS' (Kd.C_grow hB g1) (Kd.C_grow hB hC) ZO i x hx hr hsj)) ?_;rintro ⟨⟩ -)
 refine Zn (Za (wC (fun h50=>?_) (fun h50=>?_)))
 refine Zh (Zi (Zz (n:=1) (m:=1) J J J (Zld ?_)))
 refine Zp J (Zn (Za (Zl (Zf (Zc (Zc (Zf (Zf (Zc (Zc (Zf (Zzb ?_))))))))))))
 exact ⟨(),trivial,by rw [hdF,fstE_stop hs hre (by rw [hrx,rule_hit (rules_e hr).2 hcls hsj (by simpa using h50)];unfold ruleE;split <;> decide),hrx,rule_hit (rules_e hr).2 hcls hsj (by simpa using h50),(rules_e hr).1];rfl,Lh⟩
 refine Zj (Zzg ?_)
 refine Zo J (Zn (Za ?_))
 exact ⟨rfl,j+1,⟨by omega,fun k hk=>if e:k=j then (by rw [e];simpa using h50) else hsj k ZO⟩,by omega,cv,Lh⟩
 obtain rfl:j=5:=by omega
 refine Zm (Zb (Zb (Ze (Zzg ?_))))
 refine Zo J (Zn (Za ?_))
 exact ⟨rfl,i+1,⟨by omega,fstE_next hs hre (by rw [hrx];exact rule_all hcls (fun k hk=>hsj k hk))⟩,by omega,cv,Lh⟩
 obtain rfl:i=d.fRelocs.length:=by omega
 rw [List.take_of_length_le (by simp)] at hs
 refine Zm (Zzf ?_)
 exact ⟨(),trivial,by rw [hdF,hs];rfl,Lh⟩
 have hdF:dataF d l=fstE ((List.range d.fRelocs.length).map (relE d l)):=by unfold dataF;rw [if_neg h10,if_neg hn32,if_neg (by simp [show d.fKind=0 from Classical.not_not.1 h24])]
 refine Zr J J J J (Zr J J J J (Zr J J J J (Zu J J (Zp J (Zn (Za (wCondF J (Zj (Zd (Za (Zh (Zi (Zla ?_)))))))))))))
 refine Zo J ?_
 (refine ZC0 rfl ZK (fun w hS=>frame hS ZQ (fun B' hB hS'=>data_rules hS' d A0 c0 A1 c1 l Al cl)) ?_;rintro z -)
 refine Zp J (Zn (Za (wFreeze [blk z.2.2.2 143 [.func (.func 130) #[] #[.pointer (some ⟨z.1,0,none⟩)],.int .i64 11,.func (.func 131) #[] #[.pointer (some ⟨z.1,0,none⟩)],.int .i64 11,.func (.func 132) #[] #[.pointer (some ⟨z.1,0,none⟩)],.int .i64 11,.func (.func 133) #[] #[.pointer (some ⟨z.2.1,0,none⟩)],.int .i64 11,.func (.func 134) #[] #[.pointer (some ⟨z.2.1,0,none⟩),.pointer (some ⟨z.2.2.1,0,none⟩)],.int .i64 8]] ZQ (fun B1 hB1 hq1=>?_))))
 have hR:kRule.C B1.e (some ⟨z.2.2.2,0,none⟩) (rulesL z.1 z.2.1 z.2.2.1):=C_blk (hq1 _ _ ZP) (by show 5≤9223372036854775807;omega) (cat_rules _ _ _ _)
 have g0:=Kd.C_grow hB1 g0
 have g1:=Kd.C_grow hB1 g1
 have hC:=Kd.C_grow hB1 hC
 refine Zh (Zh (Zi (Zz (n:=2) (m:=2) J J J (Zld ?_))))
 refine Zv J J (Zo J (Zn (Za (Zk (wLoop (ι:=Nat) (fun i=>[(2,.pointer (some ⟨b2,0,none⟩)),(5,.slice (some ⟨z.2.2.2,0,none⟩) 5 5),(33,.slice A1 d.fRelocs.length c1),(34,.int .i64 (d.fRelocs.length:Int)),(35,.int .i64 (i:Int))]) (fun i=>[blk b2 62 [.int .i64 d.fKind,.slice A0 d.fWords.length c0,.slice A1 d.fRelocs.length c1],blk z.1 62 [.int .i64 d.fKind,.slice A0 d.fWords.length c0,.slice A1 d.fRelocs.length c1],blk z.2.1 22 [.slice Al l.length cl],blk z.2.2.1 3 [.int .i64 (if isC (IntKind.i64.wrap (d.fKind-1)) then IntKind.i64.wrap (d.fKind-1) else 0)]]) (fun i=>i≤d.fRelocs.length∧fstE (((List.range d.fRelocs.length).map (relE d l)).take i)=0) (fun i=>d.fRelocs.length-i) 0 ?_ cv (Leads.has ZQ) ?_)))))
 exact ⟨Nat.zero_le _,rfl⟩
 rintro i ⟨hi,hs⟩
 try dsimp only
 refine Zh (Zi (Zx J J (Zn (Za (Zh (wC (fun h36=>?_) (fun h36=>?_)))))))
 obtain ⟨x,hx⟩:∃ x,d.fRelocs[i]?=some x:=⟨_,List.getElem?_eq_getElem ZO⟩
 obtain ⟨e1,cs1,hE⟩:=g1.elm hx
 obtain rfl:=kApiReloc_open hE.K
 have hre:((List.range d.fRelocs.length).map (relE d l))[i]?=some (relE d l i):=rmap_at ZO
 have hrx:=relE_at (l:=l) hx
 refine Zj (Za (Zh (Zk (Zh (Zi (Zo J (oIdxE J J (hE) ZO J J ?_)))))))
 have hc38:=(hE).cell
 refine Zlx hc38 ?_
 refine oAlloc J ZP (fun b7=>?_)
 refine Zp J (Zsa ?_)
 refine Zn (Za (Zh (Zi (Zo J (Zv J J (Zo J (Zn (Za (Zk (wLoop (ι:=Nat) (fun j=>[(2,.pointer (some ⟨b2,0,none⟩)),(5,.slice (some ⟨z.2.2.2,0,none⟩) 5 5),(33,.slice A1 d.fRelocs.length c1),(34,.int .i64 (d.fRelocs.length:Int)),(35,.int .i64 (i:Int)),(6,.int .i64 (i:Int)),(7,.pointer (some ⟨b7,0,none⟩)),(40,.slice (some ⟨z.2.2.2,0,none⟩) 5 5),(41,.int .i64 5),(42,.int .i64 (j:Int))]) (fun j=>[blk b7 103 [.int .i64 x.fAt,.int .i64 x.fSym,.bool x.fWide],blk b2 62 [.int .i64 d.fKind,.slice A0 d.fWords.length c0,.slice A1 d.fRelocs.length c1],blk z.1 62 [.int .i64 d.fKind,.slice A0 d.fWords.length c0,.slice A1 d.fRelocs.length c1],blk z.2.1 22 [.slice Al l.length cl],blk z.2.2.1 3 [.int .i64 (if isC (IntKind.i64.wrap (d.fKind-1)) then IntKind.i64.wrap (d.fKind-1) else 0)]]) (fun j=>j≤5∧∀ k,k<j→ruleP d l (if isC (IntKind.i64.wrap (d.fKind-1)) then IntKind.i64.wrap (d.fKind-1) else 0) i x k=false) (fun j=>5-j) 0 ?_ cv (Leads.has ZQ) ?_))))))))))
 exact ⟨Nat.zero_le _,fun k hk=>by omega⟩
 rintro j ⟨hj,hsj⟩
 try dsimp only
 refine Zh (Zi (Zx J J (Zn (Za (Zh (wC (fun h43=>?_) (fun h43=>?_)))))))
 obtain ⟨r,hr⟩:∃ r,(rulesL z.1 z.2.1 z.2.2.1)[j]?=some r:=⟨_,List.getElem?_eq_getElem (by show j<5;omega)⟩
 obtain ⟨e2,cs2,hE2⟩:=hR.elm hr
 obtain ⟨_,_,rfl,rfl,rfl⟩:=(hE2.K:kRule.K _ _ _)
 refine Zj (Za (Zh (Zk (Zh (Zi (oIdxE J J (hE2) ZO J J ?_))))))
 have hc44:=(hE2).cell
 refine Zlx hc44 ?_
 refine oAlloc J ZP (fun b9=>?_)
 refine Zsa ?_
 refine Zn (Za (Zh (Zi (Zz (n:=0) (m:=0) J J J (Zld ?_)))))
 refine Zo J (Zla ?_)
 (refine oCallV rfl rfl rfl (rules_good hr) (fun w hS=>frame hS ZQ (fun B' hB hS'=>rules_call d A0 c0 A1 c1 l Al cl _ z.1 z.2.1 z.2.2.1 hS' (Kd.C_grow hB g1) (Kd.C_grow hB hC) ZO i x hx hr hsj)) ?_;rintro ⟨⟩ -)
 refine Zn (Za (wC (fun h50=>?_) (fun h50=>?_)))
 refine Zh (Zi (Zz (n:=1) (m:=1) J J J (Zld ?_)))
 refine Zp J (Zn (Za (Zl (Zf (Zc (Zc (Zf (Zf (Zc (Zc (Zf (Zzb ?_))))))))))))
 exact ⟨(),trivial,by rw [hdF,fstE_stop hs hre (by rw [hrx,rule_hit (rules_e hr).2 hcls hsj (by simpa using h50)];unfold ruleE;split <;> decide),hrx,rule_hit (rules_e hr).2 hcls hsj (by simpa using h50),(rules_e hr).1];rfl,Lh⟩
 refine Zj (Zzg ?_)
 refine Zo J (Zn (Za ?_))
 exact ⟨rfl,j+1,⟨by omega,fun k hk=>if e:k=j then (by rw [e];simpa using h50) else hsj k ZO⟩,by omega,cv,Lh⟩
 obtain rfl:j=5:=by omega
 refine Zm (Zb (Zb (Ze (Zzg ?_))))
 refine Zo J (Zn (Za ?_))
 exact ⟨rfl,i+1,⟨by omega,fstE_next hs hre (by rw [hrx];exact rule_all hcls (fun k hk=>hsj k hk))⟩,by omega,cv,Lh⟩
 obtain rfl:i=d.fRelocs.length:=by omega
 rw [List.take_of_length_le (by simp)] at hs
 refine Zm (Zzf ?_)
 exact ⟨(),trivial,by rw [hdF,hs];rfl,Lh⟩
end Go.Proofs.YtafiabekcekdbaaGreatO
/-
  Heaps in arrays, plainly: exchanges, and what sifting up and down keeps.
-/
namespace Go.Proofs.YtafiabekcekdbaaGreatQ
set_option maxRecDepth 100000
set_option maxHeartbeats 4000000

section
variable (lt : Nat → Nat → Prop)
variable {lt} (asy : ∀ a b, lt a b → ¬ lt b a) (tr : ∀ a b c, ¬ lt b a → ¬ lt c b → ¬ lt c a)
include asy tr
omit asy tr in
omit tr in
omit asy tr in
end
def at_ (l:List Nat) (k:Nat):Nat:=l.getD k 0
end Go.Proofs.YtafiabekcekdbaaGreatQ


/-
  Package queue: what a pile is, and its methods Len and Less.
-/
namespace Go.Proofs.YtafiabekcekdbaaGreatQ
set_option maxRecDepth 100000
set_option maxHeartbeats 4000000
open Go.RowKit Go.Proofs.YtafiabekcekdbaaGreatK

structure It where
  id:Int
  key:Int
  pl:Int
def ltI (a b:It):Prop:=a.key<b.key∨a.key=b.key∧a.id<b.id
instance (a b:It):Decidable (ltI a b):=by unfold ltI;infer_instance

section
variable {c : Cx} {N : Md c} {M : Me c} {d : Nat} {ty : TypeId} {pos : String} {af : Array Edge} {rest : List Oper} {E : Env} {D : List Deferred} {H H' : List Res} {v : Value} {x y : Operand} {t : TypeId} {S : Nat → Prop} {f : Nat → It}
end

end Go.Proofs.YtafiabekcekdbaaGreatQ


/-
  Package queue: a pile's exchange.
-/
namespace Go.Proofs.YtafiabekcekdbaaGreatQ
set_option maxRecDepth 100000
set_option maxHeartbeats 4000000
open Go.RowKit Go.Proofs.YtafiabekcekdbaaGreatK

def Same (f f':Nat→It):Prop:=∀ b,(f' b).id=(f b).id∧(f' b).key=(f b).key
section
variable {c : Cx} {N : Md c} {M : Me c} {d : Nat} {ty : TypeId} {pos : String} {af : Array Edge} {rest : List Oper} {E : Env} {D : List Deferred} {H H' : List Res} {v : Value} {x y : Operand} {t : TypeId} {S : Nat → Prop} {f : Nat → It}
end
end Go.Proofs.YtafiabekcekdbaaGreatQ


/-
  Package queue: a pile's Push and Pop.
-/
namespace Go.Proofs.YtafiabekcekdbaaGreatQ
set_option maxRecDepth 100000
set_option maxHeartbeats 4000000
open Go.RowKit Go.Proofs.YtafiabekcekdbaaGreatK

section
variable {B : Base} {w : World} {Φ Φ' Φ'' : List Res} {S S' : Nat → Prop} {f f' : Nat → It} {b : Nat}
theorem St.apart {r s:Res}(h:St B Φ w) (hp:Pick Φ r Φ') (hq:Pick Φ' s Φ'') {k:Nat}(hr:r.fp k):¬ s.fp k:=by
 have:=(h.perm (hp.perm.trans (hq.perm.cons _))).sep
 exact this.2.2.1 s List.mem_cons_self k hr
end

end Go.Proofs.YtafiabekcekdbaaGreatQ


/-
  Package queue: a pile's Pop; container/heap's up and down.
-/


/-
  container/heap over a pile: up and down.
-/
namespace Go.Proofs.YtafiabekcekdbaaGreatQ
set_option maxRecDepth 100000
set_option maxHeartbeats 4000000
open Go.RowKit Go.Proofs.YtafiabekcekdbaaGreatK

def ltB (f:Nat→It) (a b:Nat):Prop:=ltI (f a) (f b)
theorem Same.refl (f:Nat→It):Same f f:=fun _=>⟨rfl,rfl⟩
theorem Same.trans {f g h:Nat→It}(a:Same f g) (b:Same g h):Same f h:=fun k=>⟨(b k).1.trans (a k).1,(b k).2.trans (a k).2⟩
theorem Same.lt {f g:Nat→It}(h:Same f g):ltB g=ltB f:=by
 funext a b;unfold ltB ltI;rw [(h a).1,(h a).2,(h b).1,(h b).2]
end Go.Proofs.YtafiabekcekdbaaGreatQ


/-
  container/heap over a pile: Push, Pop, Remove.
-/


/-
  Package queue: queues, as sorted lists of ids and keys.
-/
namespace Go.Proofs.YtafiabekcekdbaaGreatQ
set_option maxRecDepth 100000
set_option maxHeartbeats 4000000
open Go.RowKit Go.Proofs.YtafiabekcekdbaaGreatK

def lt2 (a b:Int×Int):Prop:=a.2<b.2∨a.2=b.2∧a.1<b.1
instance (a b:Int×Int):Decidable (lt2 a b):=by unfold lt2;infer_instance
def Sorted (W:List (Int×Int)):Prop:=W.Pairwise lt2
theorem Sorted.filter {W:List (Int×Int)}(h:Sorted W) (p:Int×Int→Bool):Sorted (W.filter p):=List.Pairwise.sublist List.filter_sublist h
end Go.Proofs.YtafiabekcekdbaaGreatQ


/-
  Package queue: New and the methods, over sorted lists.
-/
/-
  Package cycle: members, On; the reference's On.
-/
namespace Go.Proofs.YtafiabekcekdbaaGreatG
set_option maxRecDepth 100000
set_option maxHeartbeats 4000000
open Go.RowKit Go.Proofs.YtafiabekcekdbaaGreatK Go.Proofs.YtafiabekcekdbaaGreatT Go.Proofs.YtafiabekcekdbaaGreatL

theorem RP_congr {g g':Graph}{f f':List Int}(hl:g.length=g'.length) (he:∀ a b,b ∈ endsOf g a→b ∈ endsOf g' a) (hf:∀ x,inG g x=true→x ∈ f→x ∈ f') {x:Int}(h:RP g f x):RP g' f' x:=by
 induction h with
 | start h1 h2=>exact .start (hf _ h2 h1) (by unfold inG at *;rw [← hl];exact h2)
 | step h1 h2 ih=>exact .step ih (he _ _ h2)
end Go.Proofs.YtafiabekcekdbaaGreatG


/-
  The reference's On; graphs turned: Turn, and the reference's Clean.
-/


/-
  Package digraph: Turn.
-/


/-
  Orders, plainly: the least that is free, time and again.
-/
namespace Go.Proofs.YtafiabekcekdbaaGreatG
set_option maxRecDepth 100000
set_option maxHeartbeats 4000000
open Go.RowKit Go.Proofs.YtafiabekcekdbaaGreatK Go.Proofs.YtafiabekcekdbaaGreatT Go.Proofs.YtafiabekcekdbaaGreatL

def fre (ed:Nat→Nat→Bool) (left:List Bool) (a:Nat):Bool:=left.getD a false && (List.range left.length).all fun b=>!(left.getD b false) || !(ed b a)
def nxt (ed:Nat→Nat→Bool) (left:List Bool):Option Nat:=(List.range left.length).find? (fre ed left)
def trues (left:List Bool):Nat:=(left.filter id).length
def gr (ed:Nat→Nat→Bool):Nat→List Bool→List Nat
  | 0,_=>[]
  | f+1,left=>match nxt ed left with
    | none=>[]
    | some a=>a :: gr ed f (left.set a false)
theorem trues_set {left:List Bool}{a:Nat}(h:left[a]?=some true):trues (left.set a false)+1=trues left:=by
 unfold trues
 induction left generalizing a with
 | nil=>simp at h
 | cons b left ih=>
  cases a with
  | zero=>simp at h;subst h;simp
  | succ a=>
   have:=ih (a:=a) (by simpa using h)
   cases b <;> simp_all
theorem getD_true {left:List Bool}{a:Nat}(h:left.getD a false=true):left[a]?=some true:=by
 rw [List.getD_eq_getElem?_getD] at h
 cases hv:left[a]? with
 | none=>rw [hv] at h;cases h
 | some v=>rw [hv] at h;simp at h;rw [h]
theorem fre_left {ed:Nat→Nat→Bool}{left:List Bool}{a:Nat}(h:fre ed left a=true):left[a]?=some true:=by
 unfold fre at h
 simp only [Bool.and_eq_true] at h
 exact getD_true h.1
theorem fre_iff {ed:Nat→Nat→Bool}{left:List Bool}{a:Nat} : fre ed left a=true↔left[a]?=some true∧∀ b,left[b]?=some true→ed b a=false:=by
 unfold fre
 simp only [Bool.and_eq_true,List.all_eq_true,List.mem_range,Bool.or_eq_true,Bool.not_eq_true']
 constructor
 · rintro ⟨h1,h2⟩
   refine ⟨getD_true h1,fun b hb=>?_⟩
   rcases h2 b (List.getElem?_eq_some_iff.1 hb).1 with h | h
   · rw [getD_at hb] at h;cases h
   · exact h
 · rintro ⟨h1,h2⟩
   refine ⟨by rw [getD_at h1],fun b hb=>?_⟩
   cases hv:left[b]? with
   | none=>rw [List.getElem?_eq_none_iff] at hv;omega
   | some v=>
    rw [getD_at hv]
    cases v with
    | false=>exact .inl rfl
    | true=>exact .inr (h2 b hv)
inductive Run (ed:Nat→Nat→Bool) (left0:List Bool):List Nat→List Bool→Prop
  | nil:Run ed left0 [] left0
  | snoc {out:List Nat}{left:List Bool}{a:Nat} : Run ed left0 out left→nxt ed left=some a→Run ed left0 (out++[a]) (left.set a false)
theorem nxt_left {ed:Nat→Nat→Bool}{left:List Bool}{a:Nat}(h:nxt ed left=some a):left[a]?=some true:=fre_left (List.find?_some h)
theorem gr_none {ed:Nat→Nat→Bool}{left:List Bool}(h:nxt ed left=none):∀ f,gr ed f left=[]
 | 0=>rfl
 | f+1=>by unfold gr;rw [h]
theorem Run.len {ed:Nat→Nat→Bool}{left0 left:List Bool}{out:List Nat}(h:Run ed left0 out left):left.length=left0.length∧out.length+trues left=trues left0:=by
 induction h with
 | nil=>simp
 | snoc h hn ih=>rw [List.length_set,List.length_append];have:=trues_set (nxt_left hn);simp;omega
theorem Run.gr {ed:Nat→Nat→Bool}{left0 left:List Bool}{out:List Nat}(h:Run ed left0 out left):gr ed (trues left0) left0=out++gr ed (trues left) left:=by
 induction h with
 | nil=>rfl
 | @snoc out left a h hn ih=>
  have h1:=trues_set (nxt_left hn)
  rw [ih,List.append_assoc,← h1]
  congr 1
  simp only [Go.Proofs.YtafiabekcekdbaaGreatG.gr,hn]
  rfl
theorem Run.done {ed:Nat→Nat→Bool}{left0 left:List Bool}{out:List Nat}(h:Run ed left0 out left) (hn:nxt ed left=none):out=Go.Proofs.YtafiabekcekdbaaGreatG.gr ed (trues left0) left0:=by
 rw [h.gr,gr_none hn,List.append_nil]
end Go.Proofs.YtafiabekcekdbaaGreatG


/-
  The reference's Order and Back.
-/


/-
  Kahn's order, plainly: how many are ahead of each; who waits.
-/
namespace Go.Proofs.YtafiabekcekdbaaGreatG
set_option maxRecDepth 100000
set_option maxHeartbeats 4000000
open Go.RowKit Go.Proofs.YtafiabekcekdbaaGreatK Go.Proofs.YtafiabekcekdbaaGreatT Go.Proofs.YtafiabekcekdbaaGreatL
open Go.Proofs.YtafiabekcekdbaaGreatQ (lt2)

def edW (w:Graph) (b a:Nat):Bool:=decide ((a:Int) ∈ w.getD b [])
def cnt (w:Graph) (left:List Bool) (c:Nat):Nat:=((List.range w.length).filter fun b=>left.getD b false && edW w b c).length
theorem filt_upd {p:Nat→Bool}{a:Nat} : ∀ {n:Nat},a<n→((List.range n).filter p).length=((List.range n).filter fun b=>p b && b != a).length+if p a then 1 else 0
 | 0,h=>by omega
 | n+1,h=>by
  rw [List.range_succ,List.filter_append,List.filter_append,List.length_append,List.length_append]
  by_cases e:a=n
  · subst e
    have:(List.range a).filter (fun b=>p b && b != a)=(List.range a).filter p:=List.filter_congr (fun b hb=>by have:=List.mem_range.1 hb;simp;intro _;omega)
    rw [this]
    cases hp:p a <;> simp [hp]
  · rw [filt_upd (p:=p) (a:=a) (n:=n) ZO]
    have:(fun b=>p b && b != a) n=p n:=by
     show (p n && n != a)=p n
     rw [show (n != a)=true by simp;omega,Bool.and_true]
    have e2 : [n].filter (fun b=>p b && b != a)=[n].filter p:=by
     rw [List.filter_cons,List.filter_cons]
     rw [show (p n && n != a)=p n from this];rfl
    rw [e2];omega
theorem set_getD {left:List Bool}{a b:Nat} : (left.set a false).getD b false=(left.getD b false && b != a):=by
 rw [List.getD_eq_getElem?_getD,List.getD_eq_getElem?_getD,List.getElem?_set]
 by_cases e:a=b
 · subst e;rw [if_pos rfl];split <;> simp
 · rw [if_neg e,show (b != a)=true by simp;omega,Bool.and_true]
theorem cnt_set {w:Graph}{left:List Bool}(hl:left.length=w.length) {a:Nat}(h:left[a]?=some true) (c:Nat):cnt w left c=cnt w (left.set a false) c+if edW w a c then 1 else 0:=by
 have ha:=(List.getElem?_eq_some_iff.1 h).1
 unfold cnt
 rw [filt_upd (a:=a) ZO]
 rw [getD_at h,Bool.true_and]
 congr 2
 exact List.filter_congr (fun b hb=>by rw [set_getD];cases left.getD b false <;> cases edW w b c <;> simp)
theorem Run.clear {ed:Nat→Nat→Bool}{left0 left:List Bool}{out:List Nat}(h:Run ed left0 out left):∀ c:Nat,left0[c]?=some true→left[c]?=some true∨∀ b:Nat,left[b]?=some true→ed b c=false:=by
 induction h with
 | nil=>exact fun c hc=>.inl hc
 | @snoc out left a h hn ih=>
  have hfa:=fre_iff.1 (List.find?_some hn)
  have hsub:∀ b:Nat,(left.set a false)[b]?=some true→left[b]?=some true:=by
   intro b hb
   rw [List.getElem?_set] at hb
   split at hb
   · split at hb <;> cases hb
   · exact hb
  intro c hc
  by_cases e:c=a
  · subst e;exact .inr (fun b hb=>hfa.2 b (hsub b hb))
  · rcases ih c hc with h1 | h1
    · left;rw [List.getElem?_set,if_neg (fun x=>e x.symm)];exact h1
    · exact .inr (fun b hb=>h1 b (hsub b hb))
end Go.Proofs.YtafiabekcekdbaaGreatG


/-
  Package cycle: order's closures, drain.
-/


/-
  Package cycle: drain, order.
-/


/-
  Package cycle: order.
-/


/-
  Package cycle: Order, Back; the reference's Back.
-/
namespace Go.Proofs.YtafiabekcekdbaaGreatO
set_option maxRecDepth 100000
set_option maxHeartbeats 4000000
open Go.RowKit Go.Proofs.YtafiabekcekdbaaGreatK Go.Proofs.YtafiabekcekdbaaGreatT Go.Proofs.YtafiabekcekdbaaGreatL Go.Proofs.YtafiabekcekdbaaGreatV Go.Proofs.YtafiabekcekdbaaGreatG Go.Proofs.YtafiabekcekdbaaGreatW

theorem rng_In {B:Base}{w:World}(hS:St B [] w) (f:ApiFunc) (fc:List Value) (hf:kApiFunc.K B.e f fc) (i:Int) :
 CW 103 #[.agg fc.toArray,.int .i64 i] w (Ret B (fun _:Unit=>True) (fun _=>.bool (inR f i)) (fun _=>[])):=by
 obtain ⟨A0,c0,A1,c1,A2,c2,A3,c3,rfl,l0,g0,l1,g1,l2,g2,l3,g3⟩:=kApiFunc_open hf
 refine ZX Tryz.func103 hS ?_
 refine Zh (Zi (oBox J ZP (fun b2=>?_)))
 refine Zp J (Zn (Za (Zh (Zi (Zz (n:=4) (m:=4) J J J (Zld ?_))))))
 refine Zo J (oLeq J J (Zo J (ZS (ZT 9) (fun h9=>?_) (fun h9=>?_))))
 refine Zq J J (Zo J (Zq J J (Zz (n:=5) (m:=5) J J J (Zzi ?_))))
 refine Zq J J (Zx J J (Zt J J (Zzh ?_)))
 exact ⟨(),trivial,by simp_all [resVal,inR] <;> omega,Lh⟩
 refine Zr J J J J (Zzj ?_)
 exact ⟨(),trivial,by simp_all [resVal,inR] <;> omega,Lh⟩
theorem rng_Marks {B:Base}{w:World}(hS:St B [] w) (A:Option Addr) (cp:Nat) (code:List ApiInstr) (hC:kApiInstr.C B.e A code) (hl:code.length≤100000) (W0:World) :
 CW 144 #[.slice A code.length cp] w (Ret B (fun _:Option Addr×Nat=>True) (fun z=>.slice z.1 (dfr code code.length).length z.2) (fun z=>[row (Kd.int .i64) W0 3 (.slice z.1 (dfr code code.length).length z.2) (dfr code code.length)])):=by
 refine ZX Tryz.func144 hS ?_
 refine Zh (Zi (Zp J (Zn (Za (Zh (Zi (Zp J (Zn (Za (Zh (Zh (Zi (Zo J (Zv J J (Zo J (Zn (Za (Zk (wLoop (ι:=Nat×Option Addr×Nat) (fun z=>[(3,.slice z.2.1 (dfr code z.1).length z.2.2),(6,.slice A code.length cp),(7,.int .i64 (code.length:Int)),(8,.int .i64 (z.1:Int))]) (fun z=>[row (Kd.int .i64) W0 3 (.slice z.2.1 (dfr code z.1).length z.2.2) (dfr code z.1)]) (fun z=>z.1≤code.length) (fun z=>code.length-z.1) (0,none,0) ?_ cv (Leads.nilrow.trans Lh) ?_)))))))))))))))))))
 exact Nat.zero_le _
 rintro ⟨i,A2,c2⟩ hi
 dsimp only at hi
 have hle:=dfr_len code i
 try dsimp only
 refine Zh (Zi (Zx J J (Zn (Za (Zh (wC (fun h9=>?_) (fun h9=>?_)))))))
 obtain ⟨x,hx⟩:∃ x,code[i]?=some x:=⟨_,List.getElem?_eq_getElem ZO⟩
 obtain ⟨e1,cs1,hE⟩:=hC.elm hx
 obtain rfl:=kApiInstr_open hE.K
 have hdp:=dP_at hx
 refine Zj (Za (Zh (Zk (Zh (Zi (Zo J (oIdxE J J (hE) ZO J J ?_)))))))
 have hc11:=(hE).cell
 refine Zlx hc11 ?_
 refine oAlloc J ZP (fun b5=>?_)
 refine Zp J (Zsa ?_)
 refine Zn (Za (Zh (Zi (Zz (n:=0) (m:=0) J J J (Zld ?_)))))
 refine Zy J J (Zn (Za (wC (fun h15=>?_) (fun h15=>?_))))
 refine Zi (Zo J (Zo J (oBuildSlice1 J J J J J ZP J (fun b18=>?_))))
 refine oApp1 (i:Int) J J J J ZP ZP J ZO J (fun g19 cp19=>?_)
 have hft:dfr code (i+1)=dfr code i++[(i:Int)]:=by rw [dfr_succ,hdp,if_pos (by simpa using h15)]
 rw [show (dfr code i).length+1=(dfr code (i+1)).length by rw [hft,List.length_append];rfl,← hft]
 refine Zp J (Zn (Zzg ?_))
 refine Zo J (Zn (Za ?_))
 exact ⟨rfl,(i+1,some ⟨g19,0,none⟩,cp19),by show i+1≤_;omega,by show code.length-(i+1)<code.length-i;omega,cv,Lh⟩
 refine Zj (Zzg ?_)
 refine Zo J (Zn (Za ?_))
 have hft:dfr code (i+1)=dfr code i:=by rw [dfr_succ,hdp,if_neg (by simpa using h15),List.append_nil]
 exact ⟨rfl,(i+1,A2,c2),by show i+1≤_;omega,by show code.length-(i+1)<code.length-i;omega,by dsimp only;rw [hft];exact cv,by dsimp only;rw [hft];exact Lh⟩
 obtain rfl:i=code.length:=by omega
 refine Zm (Zb (Zb (Ze (Za (Zh (Zi (Zo J (Zzh ?_))))))))
 exact ⟨(A2,c2),trivial,rfl,Lh⟩
theorem compact_le (zs:List Int):(Lib.compact zs).length≤zs.length:=by
 unfold Lib.compact Lib.compactUpTo
 rw [List.length_map]
 exact Nat.le_trans (List.length_filter_le _ _) (by simp)
theorem nextF_len (code:List ApiInstr) (i:Int):(nextF code i).length≤2:=by
 unfold nextF nextL
 split
 · simp
 · refine Nat.le_trans (compact_le _) ?_
   rw [List.length_mergeSort]
   exact nextR_len _ _
theorem mem_next {x:ApiInstr}{i y:Int} : y ∈ nextL x i↔y ∈ Go.Proofs.YtafiabekcekdbaaGreatV.rnext x i:=by
 have h:=rnext_any x i (fun z=>decide (z=y))
 have e:∀ l:List Int,y ∈ l↔l.any (fun z=>decide (z=y))=true:=fun l=>by simp
 rw [show (y ∈ nextL x i)=(y ∈ nextR x i) from propext ((sorted_spec _).2 y),e,e,h]
theorem nextF_at {code:List ApiInstr}{k:Nat}(hk:k<code.length):nextF code (k:Int)=nextL (code.getD k default) (k:Int):=by
 unfold nextF
 rw [if_neg ZO,Int.toNat_natCast]
def fromP (code:List ApiInstr) (ks:List Nat):List Int:=(ks.map fun k:Nat=>nextF code (k:Int)).flatten
theorem fromP_len (code:List ApiInstr):∀ marks:List Nat,(fromP code marks).length≤2 * marks.length
 | []=>by simp [fromP]
 | k :: marks=>by
  have h:=fromP_len code marks
  have h2:=nextF_len code (k:Int)
  unfold fromP at *
  rw [List.map_cons,List.flatten_cons,List.length_append,List.length_cons]
  omega
theorem fromP_snoc (code:List ApiInstr) (marks:List Nat) (k:Nat):fromP code (marks++[k])=fromP code marks++nextF code (k:Int):=by
 unfold fromP;simp
theorem mem_fromP {code:List ApiInstr}{ks:List Nat}(hk:∀ k ∈ ks,k<code.length) {y:Int} : y ∈ fromP code ks↔y ∈ fromL code ks:=by
 unfold fromP fromL
 simp only [List.mem_flatten,List.mem_map]
 constructor
 · rintro ⟨l,⟨k,h1,rfl⟩,h2⟩
   rw [nextF_at (hk k h1)] at h2
   exact ⟨_,⟨k,h1,rfl⟩,mem_next.1 h2⟩
 · rintro ⟨l,⟨k,h1,rfl⟩,h2⟩
   exact ⟨_,⟨k,h1,rfl⟩,by rw [nextF_at (hk k h1)];exact mem_next.2 h2⟩
theorem graph_ends {code:List ApiInstr}{a:Nat}{b:Int} : b ∈ endsOf (graphF code) a↔b ∈ endsOf (rg code) a:=by
 unfold endsOf
 rw [List.mem_filter,List.mem_filter,show inG (graphF code) b=inG (rg code) b by unfold inG;rw [graphF_len,rg_len]]
 by_cases ha:a<code.length
 · rw [show (graphF code).getD a [] = nextF code (a : Int) by unfold graphF; rw [List.getD_eq_getElem?_getD, List.getElem?_map, List.getElem?_range ha]; rfl,
    show (rg code).getD a []=Go.Proofs.YtafiabekcekdbaaGreatV.rnext (code.getD a default) (a:Int) by unfold rg;rw [List.getD_eq_getElem?_getD,List.getElem?_map,List.getElem?_range ha];rfl,nextF_at ha,mem_next]
 · rw [List.getD_eq_getElem?_getD,List.getD_eq_getElem?_getD,List.getElem?_eq_none (by rw [graphF_len];omega),List.getElem?_eq_none (by rw [rg_len];omega)]
theorem RP_same {code:List ApiInstr}{ks:List Nat}(hk:∀ k ∈ ks,k<code.length) {y:Int} : RP (graphF code) (fromP code ks) y↔RP (rg code) (fromL code ks) y:=
 ⟨RP_congr (by rw [graphF_len,rg_len]) (fun a b=>graph_ends.1) (fun x _=>(mem_fromP hk).1),RP_congr (by rw [graphF_len,rg_len]) (fun a b=>graph_ends.2) (fun x _=>(mem_fromP hk).2)⟩
theorem gf_small {code:List ApiInstr}(h:code.length≤1000):SmallG (graphF code):=by
 refine ⟨by rw [graphF_len];exact h,fun l hl=>?_⟩
 unfold graphF at hl
 obtain ⟨k,_,rfl⟩:=List.mem_map.1 hl
 exact Nat.le_trans (nextF_len _ _) (by decide)
theorem flow_After {B:Base}{w:World}(hS:St B [] w) (A:Option Addr) (cp:Nat) (code:List ApiInstr) (hC:kApiInstr.C B.e A code) (hl:code.length≤1000) (A1:Option Addr) (cp1:Nat) (ks:List Nat) (hC1:(Kd.int .i64).C B.e A1 (ks.map fun k=>((k:Nat):Int))) (hk:∀ k ∈ ks,k<code.length) (hn:ks.length≤500) (W0:World) :
 CW 143 #[.slice A code.length cp,.slice A1 ks.length cp1] w
  (Ret B (fun z:Option Addr×Nat×List Bool=>z.2.2.length=code.length∧∀ i:Nat,z.2.2[i]?=some true↔RP (rg code) (fromL code ks) (i:Int)) (fun z=>.slice z.1 code.length z.2.1) (fun z=>[row Kd.bool W0 4 (.slice z.1 code.length z.2.1) z.2.2])):=by
 refine ZX Tryz.func143 hS ?_
 refine Zh (Zi (Zp J (Zn (Za (Zh (Zi (Zp J (Zn (Za (Zh (Zh (Zi (Zo J (Zv J J (Zo J (Zn (Za (Zk (wLoop (ι:=Nat×Option Addr×Nat) (fun z=>[(0,.slice A code.length cp),(5,.slice z.2.1 (fromP code (ks.take z.1)).length z.2.2),(8,.slice A1 ks.length cp1),(9,.int .i64 (ks.length:Int)),(10,.int .i64 (z.1:Int))]) (fun z=>[row (Kd.int .i64) W0 3 (.slice z.2.1 (fromP code (ks.take z.1)).length z.2.2) (fromP code (ks.take z.1))]) (fun z=>z.1≤ks.length) (fun z=>ks.length-z.1) (0,none,0) ?_ cv (Leads.nilrow.trans Lh) ?_)))))))))))))))))))
 exact Nat.zero_le _
 rintro ⟨i,A2,c2⟩ hi
 dsimp only at hi
 have hle:=fromP_len code (ks.take i)
 rw [List.length_take] at hle
 try dsimp only
 refine Zh (Zi (Zx J J (Zn (Za (Zh (wC (fun h11=>?_) (fun h11=>?_)))))))
 obtain ⟨k,hki⟩:∃ k,ks[i]?=some k:=⟨_,List.getElem?_eq_getElem ZO⟩
 have hkl:=hk k (List.mem_of_getElem? hki)
 obtain ⟨e1,cs1,hE⟩:=hC1.elm (i:=i) (u:=(k:Int)) (by rw [List.getElem?_map,hki];rfl)
 obtain rfl:=(show cs1=[Value.int .i64 (k:Int)] from hE.K)
 have hft:fromP code (ks.take (i+1))=fromP code (ks.take i)++nextF code (k:Int):=by rw [List.take_add_one,hki];show fromP code (ks.take i++[k])=_;rw [fromP_snoc]
 have hrl:=nextF_len code (k:Int)
 refine Zj (Za (Zh (Zk (Zh (Zi (oIdxE J J (hE) ZO J J ?_))))))
 have hc12:=(hE).cell
 refine Zlx hc12 ?_
 refine Zp J (Zn (Za (Zi (Zo J (Zo J (Zo J ?_))))))
 (refine ZC0 rfl ZK (fun w hS=>frame hS ZQ (fun B' hB hS'=>flow_Next hS' A cp code (Kd.C_grow hB hC) (k:Int) W0)) ?_;rintro ⟨A17,c17⟩ -)
 refine oAppA (kd:=Kd.int .i64) (W:=W0) (xs:=fromP code (ks.take i)) (ys:=nextF code (k:Int)) J J J J ZP J (fun w hw=>src_row (e:=3) (n:=(nextF code (k:Int)).length) (cp:=c17) (hw.get ZP)) ZO J (fun A18 c18 hc18=>?_)
 rw [← hft,show (fromP code (ks.take i)).length+(nextF code (k:Int)).length=(fromP code (ks.take (i+1))).length by rw [hft,List.length_append]]
 refine Zp J (Zn (Zzg ?_))
 refine Zo J (Zn (Za ?_))
 exact ⟨rfl,(i+1,A18,c18),by show i+1≤_;omega,by show ks.length-(i+1)<ks.length-i;omega,cv,Lh⟩
 obtain rfl:i=ks.length:=by omega
 rw [List.take_length] at *
 refine Zm (Zb (Zb (Ze (Zzl ?_))))
 (refine ZC0 rfl ZK (fun w hS=>frame hS ZQ (fun B' hB hS'=>flow_graph hS' A cp code (Kd.C_grow hB hC) ZO B.e)) ?_;rintro ⟨A21,c21,hs21⟩ hl21)
 refine ZS0 (t:=21) (v':=.slice A21 (graphF code).length c21) rfl (by rw [graphF_len]) ?_
 refine Zo J ?_
 (refine ZD J (fun w B' hB hR hS'=>reach_any hS' (graphF code) A21 c21 (grid_C (hR _ _ ZP) (hR _ _ ZP) (by rw [graphF_len];exact hl21) hB) (gf_small hl) (fromP code ks) A2 c2 (row_Cs (W:=W0) (e:=3) (n:=(fromP code ks).length) (cp:=c2) (hR _ _ ZP)) ZO W0) ?_;rintro ⟨A23,c23,l23⟩ ⟨h23a,h23b⟩)
 dsimp only at h23a h23b ⊢
 rw [graphF_len] at h23a ⊢
 refine Zp J (Zza ?_)
 exact ⟨(A23,c23,l23),⟨h23a,fun i=>(h23b i).trans (RP_same hk)⟩,rfl,Lh⟩
end Go.Proofs.YtafiabekcekdbaaGreatO
