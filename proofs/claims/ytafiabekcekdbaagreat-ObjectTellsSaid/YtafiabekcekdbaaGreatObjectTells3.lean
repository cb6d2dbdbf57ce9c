/-
  Part 3 of the proof of ObjectTells: contracts of functions, and what follows from them; without conditions.
-/
import Derived.Test.YtafiabekcekdbaaGreatObjectTells2
import Derived.Test.YtafiabekcekdbaaGreatProg
set_option linter.unusedVariables false
set_option linter.unusedSimpArgs false
set_option linter.defProp false
/-
  Package digraph: ends and its iterator; the library's AppendSeq and Collect over it.
-/
namespace Go.Proofs.YtafiabekcekdbaaGreatG
set_option maxRecDepth 100000
set_option maxHeartbeats 4000000
open Go.RowKit Go.Proofs.YtafiabekcekdbaaGreatK Go.Proofs.YtafiabekcekdbaaGreatT

abbrev kII:Kd (List Int):=Kd.slice (Kd.int .i64)
abbrev Graph:=List (List Int)
def inG (g:Graph) (x:Int):Bool:=decide (0≤x) && decide (x<(g.length:Int))
def endsOf (g:Graph) (a:Nat):List Int:=(g.getD a []).filter (inG g)
def intV (x:Int):List Value:=[.int .i64 x]
theorem getD_at {α:Type}{l:List α}{i:Nat}{o d:α}(h:l[i]?=some o):l.getD i d=o:=by rw [List.getD_eq_getElem?_getD,h];rfl
theorem filter_drop {u:List Int}{i:Nat}{x:Int}{P:Int→Bool}(h:u[i]?=some x):(u.drop i).filter P=if P x=true then x :: (u.drop (i+1)).filter P else (u.drop (i+1)).filter P:=by
 obtain ⟨hi,rfl⟩:=List.getElem?_eq_some_iff.1 h
 rw [List.drop_eq_getElem_cons hi,List.filter_cons]
theorem drop_cons {α:Type}{l:List α}{j:Nat}{y:α}{r:List α}(h:l.drop j=y :: r):∃ hj:j<l.length,l[j]=y∧l.drop (j+1)=r:=by
 have hj:j<l.length:=by
  rcases Nat.lt_or_ge j l.length with hj | hj
  · exact hj
  · rw [List.drop_of_length_le hj] at h;cases h
 rw [List.drop_eq_getElem_cons hj] at h
 injection h with h1 h2
 exact ⟨hj,h1,h2⟩

theorem ends_any {B:Base}{w:World}(hS:St B [] w) (A:Option Addr) (n cp:Nat) (a:Int) :
 CW 197 #[.slice A n cp,.int .i64 a] w (Ret B (fun _:Nat×Nat=>True) (fun p=>.func (.func 203) #[] #[.pointer (some ⟨p.1,0,none⟩),.pointer (some ⟨p.2,0,none⟩)]) (fun p=>[blk p.1 183 [.slice A n cp],blk p.2 3 [.int .i64 a]])):=by
 refine ZX Tryz.func197 hS ?_
 refine Zh (Zi (oBox J ZP (fun b2=>?_)))
 refine oBox J ZP (fun b3=>?_)
 refine Zp J (Zn (Za (Zh (Zi (oMakeFunc J (Zza ?_))))))
 exact ⟨(b2,b3),trivial,rfl,Lh⟩

theorem ends1 {B:Base}(g:Graph) (A:Option Addr) (cp a p2 p3:Nat) (hC:kII.C B.e A g) (ha:a<g.length) :
 IterC Tryz.prog 203 #[.pointer (some ⟨p2,0,none⟩),.pointer (some ⟨p3,0,none⟩)] B ((endsOf g a).map intV) [blk p2 183 [.slice A g.length cp],blk p3 3 [.int .i64 (a:Int)]]:=by
 intro lp AI Ax r0 w hbody hA hS
 have hl1:=hC.1
 show CW 203 #[.func (.yield lp) #[] #[],.pointer (some ⟨p2,0,none⟩),.pointer (some ⟨p3,0,none⟩)] w _
 refine ZX Tryz.func203 hS ?_
 refine Zh (Zi (Zld ?_))
 refine Zld ?_
 refine oIdx J J (hC) J ZO J J (fun e8 u8 cs8 hu8 hk8 hc8=>?_)
 obtain ⟨A0,c0,rfl,hle8,g0⟩:=hk8
 have hbig8:=g0.1
 have hends:endsOf g a=u8.filter (inG g):=by unfold endsOf;rw [getD_at hu8]
 refine Zlx hc8 ?_
 refine Zv J J (Zo J (Zn (Za (Zk (wLoop (ι:=Nat×Nat×Res) (fun z=>[(0,.func (.yield lp) #[] #[]),(1,.pointer (some ⟨p2,0,none⟩)),(9,.slice A0 u8.length c0),(10,.int .i64 (u8.length:Int)),(11,.int .i64 (z.1:Int))]) (fun z=>[z.2.2,blk p2 183 [.slice A g.length cp],blk p3 3 [.int .i64 (a:Int)]]) (fun z=>z.1≤u8.length∧z.2.1≤(endsOf g a).length∧AI z.2.1 z.2.2∧(endsOf g a).drop z.2.1=(u8.drop z.1).filter (inG g)) (fun z=>u8.length-z.1) (0,0,r0) ?_ cv (Leads.has ZQ) ?_)))))
 exact ⟨Nat.zero_le _,Nat.zero_le _,hA,hends⟩
 rintro ⟨i,j,r⟩ ⟨hi,hj,hA,hd⟩
 dsimp only at hi hj hA hd
 try dsimp only
 refine Zh (Zi (Zx J J (Zn (Za (Zh (wC (fun h12=>?_) (fun h12=>?_)))))))
 refine Zj (Za (Zh (Zk (Zh (Zi (oIdx J J (g0) J ZO J J (fun e13 u13 cs13 hu13 hk13 hc13=>?_)))))))
 obtain rfl:=hk13
 have hfd:=filter_drop (P:=inG g) hu13
 refine Zlx hc13 ?_
 refine Zp J (Zn (Za (Zh (Zi (Zo J (Z2 J J (Zo J (ZS (ZT 17) (fun h17=>?_) (fun h17=>?_)))))))))
 refine Zq J J (Zo J (Zzh ?_))
 refine Zq J J (Zv J J (Zq J J (Zx J J (Zt J J (Zo J (ZS (ZT 23) (fun h23=>?_) (fun h23=>?_)))))))
 rw [if_pos (by simp [inG];omega)] at hfd
 obtain ⟨hjlt,hjg,hjd⟩:=drop_cons (hd.trans hfd)
 have hY:∀ Fr W1,St B (r :: Fr) W1→YieldAt Fence.wide 0 Tryz.prog lp (intV u13).toArray W1 (YEnd B j AI Ax Fr):=by
  intro Fr W1 h1
  have:=hbody j (by simpa using hjlt) r Fr W1 hA h1
  rwa [List.getElem_map,hjg] at this
 refine Zq J J (Zo J (Zq J J (Zo J (Zq J J (oYield J J J (fun w hS=>hY _ w (hS.perm (Pick.perm ZP))) ?_)))))
 rintro ⟨bb,r'⟩ hr'
 dsimp only at hr' ⊢
 refine Zq J J (Zno ?_)
 refine Zt J J (Zn (Za (wC (fun h28=>?_) (fun h28=>?_))))
 refine Zl (Zf (Zc (Zc (Zf (Zw ?_)))))
 refine ⟨rfl,_,ResL.nil,?_⟩
 exact ⟨r',.inr ⟨j,by simpa using hjlt,by rw [if_neg (by simpa using h28)] at hr';exact hr'⟩,rfl,Lh⟩
 refine Zj (Zzl ?_)
 refine Zo J (Zn (Za ?_))
 exact ⟨rfl,(i+1,j+1,r'),⟨by show i+1≤_;omega,hjlt,by rw [if_pos (by simpa using h28)] at hr';exact hr',hjd⟩,by show u8.length-(i+1)<u8.length-i;omega,cv,Lh⟩
 refine Zr J J J J (Zr J J J J (Zr J J J J (Zr J J J J (Zu J J (Zn (Za (wCondF J (Zj (Zzl ?_)))))))))
 refine Zo J (Zn (Za ?_))
 exact ⟨rfl,(i+1,j,r),⟨by show i+1≤_;omega,hj,hA,by rw [hd,hfd,if_neg (by simp [inG];omega)]⟩,by show u8.length-(i+1)<u8.length-i;omega,cv,Lh⟩
 refine Zr J J J J (Zr J J J J (Zr J J J J (Zr J J J J (Zu J J (Zo J (Zr J J J J (Zr J J J J (Zr J J J J (Zr J J J J (Zu J J (Zn (Za (wCondF J (Zj (Zzl ?_)))))))))))))))
 refine Zo J (Zn (Za ?_))
 exact ⟨rfl,(i+1,j,r),⟨by show i+1≤_;omega,hj,hA,by rw [hd,hfd,if_neg (by simp [inG];omega)]⟩,by show u8.length-(i+1)<u8.length-i;omega,cv,Lh⟩
 refine Zm (Zb (Zb (Ze (fin_n ?_))))
 refine ⟨rfl,_,ResL.nil,?_⟩
 have hj:j=((endsOf g a).map intV).length:=by
  obtain rfl:i=u8.length:=by omega
  rw [List.drop_length] at hd
  have:=List.drop_eq_nil_iff.1 hd
  rw [List.length_map];omega
 exact ⟨r,.inl (hj ▸ hA),rfl,Lh⟩

end Go.Proofs.YtafiabekcekdbaaGreatG


/-
  Package digraph: Clean; the library's Sorted.
-/
namespace Go.Proofs.YtafiabekcekdbaaGreatG
set_option maxRecDepth 100000
set_option maxHeartbeats 4000000
open Go.RowKit Go.Proofs.YtafiabekcekdbaaGreatK Go.Proofs.YtafiabekcekdbaaGreatT Go.Proofs.YtafiabekcekdbaaGreatL

def SmallG (g:Graph):Prop:=g.length≤1000∧∀ l ∈ g,l.length≤1000
theorem ends_le {g:Graph}(h:SmallG g) (a:Nat):(endsOf g a).length≤1000:=by
 unfold endsOf
 refine Nat.le_trans (List.length_filter_le _ _) ?_
 by_cases ha:a<g.length
 · rw [getD_at (List.getElem?_eq_getElem ha)]
   exact h.2 _ (List.getElem_mem ha)
 · rw [List.getD_eq_getElem?_getD,List.getElem?_eq_none ZO];simp
def cl (g:Graph) (a:Nat):List Int:=Lib.compact ((endsOf g a).mergeSort leI)
end Go.Proofs.YtafiabekcekdbaaGreatG


/-
  Package digraph: Reach.
-/
namespace Go.Proofs.YtafiabekcekdbaaGreatG
set_option maxRecDepth 100000
set_option maxHeartbeats 4000000
open Go.RowKit Go.Proofs.YtafiabekcekdbaaGreatK Go.Proofs.YtafiabekcekdbaaGreatT Go.Proofs.YtafiabekcekdbaaGreatL

inductive RP (g:Graph) (from_:List Int):Int→Prop
  | start {a:Int} : a ∈ from_→inG g a=true→RP g from_ a
  | step {a:Nat}{b:Int} : RP g from_ (a:Int)→b ∈ endsOf g a→RP g from_ b
theorem inG_iff {g:Graph}{x:Int} : inG g x=true↔0≤x∧x<(g.length:Int):=by simp [inG]
theorem ends_in {g:Graph}{a:Nat}{b:Int}(h:b ∈ endsOf g a):inG g b=true:=(List.mem_filter.1 h).2
theorem RP.inG {g:Graph}{f:List Int}{x:Int}(h:RP g f x):inG g x=true:=by
 cases h with
 | start _ h=>exact h
 | step _ h=>exact ends_in h
structure RS (g:Graph) (from_:List Int) (out:List Bool) (wait:List Int):Prop where
  len:out.length=g.length
  sound:∀ i:Nat,out[i]?=some true→RP g from_ (i:Int)
  waits:∀ x ∈ wait,RP g from_ x
  starts:∀ x ∈ from_,inG g x=true→out[x.toNat]?=some true∨x ∈ wait
  closed:∀ i:Nat,out[i]?=some true→∀ b ∈ endsOf g i,out[b.toNat]?=some true∨b ∈ wait
theorem RS.done {g:Graph}{f:List Int}{out:List Bool}(h:RS g f out []):∀ x,RP g f x→out[x.toNat]?=some true:=by
 intro x hx
 induction hx with
 | start h1 h2=>
  rcases h.starts _ h1 h2 with h | h
  · exact h
  · cases h
 | step h1 h2 ih=>
  rcases h.closed _ (by simpa using ih) _ h2 with h | h
  · exact h
  · cases h
theorem RS.skip {g:Graph}{f:List Int}{out:List Bool}{wait:List Int}{x:Int}(h:RS g f out (wait++[x])) (hx:out[x.toNat]?=some true):RS g f out wait:=by
 refine ⟨h.len,h.sound,fun y hy=>h.waits y (List.mem_append_left _ hy),fun y hy hi=>?_,fun i hi b hb=>?_⟩
 · rcases h.starts y hy hi with h | h
   · exact .inl h
   · rcases List.mem_append.1 h with h | h
     · exact .inr h
     · rw [List.mem_singleton.1 h];exact .inl hx
 · rcases h.closed i hi b hb with h | h
   · exact .inl h
   · rcases List.mem_append.1 h with h | h
     · exact .inr h
     · rw [List.mem_singleton.1 h];exact .inl hx
theorem RS.take {g:Graph}{f:List Int}{out:List Bool}{wait:List Int}{a:Nat}(h:RS g f out (wait++[(a:Int)])) (ha:a<out.length):RS g f (out.set a true) (wait++endsOf g a):=by
 have hR:RP g f (a:Int):=h.waits _ (by simp)
 have hset:∀ i:Nat,out[i]?=some true→(out.set a true)[i]?=some true:=fun i hi=>by
  rw [List.getElem?_set]
  split
  · rename_i e;subst e;simp [ha]
  · exact hi
 have haa:(out.set a true)[a]?=some true:=by simp [ha]
 refine ⟨by rw [List.length_set];exact h.len,fun i hi=>?_,fun x hx=>?_,fun x hx hi=>?_,fun i hi b hb=>?_⟩
 · rw [List.getElem?_set] at hi
   split at hi
   · rename_i e;subst e;exact hR
   · exact h.sound i hi
 · rcases List.mem_append.1 hx with hx | hx
   · exact h.waits x (List.mem_append_left _ hx)
   · exact .step hR hx
 · rcases h.starts x hx hi with h | h
   · exact .inl (hset _ h)
   · rcases List.mem_append.1 h with h | h
     · exact .inr (List.mem_append_left _ h)
     · rw [List.mem_singleton.1 h];exact .inl (by simpa using haa)
 · by_cases e:i=a
   · subst e;exact .inr (List.mem_append_right _ hb)
   · have hi':out[i]?=some true:=by rw [List.getElem?_set,if_neg (fun h=>e h.symm)] at hi;exact hi
     rcases h.closed i hi' b hb with h | h
     · exact .inl (hset _ h)
     · rcases List.mem_append.1 h with h | h
       · exact .inr (List.mem_append_left _ h)
       · rw [List.mem_singleton.1 h];exact .inl (by simpa using haa)
theorem RS.init (g:Graph) (f:List Int):RS g f (List.replicate g.length false) (f.filter (inG g)):=by
 refine ⟨by simp,fun i h=>?_,fun x hx=>?_,fun x hx hi=>.inr (List.mem_filter.2 ⟨hx,hi⟩),fun i h=>?_⟩
 · rw [List.getElem?_replicate] at h;split at h <;> simp at h
 · obtain ⟨h1,h2⟩:=List.mem_filter.1 hx;exact .start h1 h2
 · rw [List.getElem?_replicate] at h;split at h <;> simp at h
def falses (out:List Bool):Nat:=(out.filter (fun b=>!b)).length
theorem falses_set {out:List Bool}{a:Nat}(h:out[a]?=some false):falses (out.set a true)+1=falses out:=by
 unfold falses
 induction out generalizing a with
 | nil=>simp at h
 | cons b out ih=>
  cases a with
  | zero=>simp at h;subst h;simp
  | succ a=>
   have:=ih (a:=a) (by simpa using h)
   cases b <;> simp_all <;> omega
theorem falses_le (out:List Bool):falses out≤out.length:=List.length_filter_le _ _
theorem filter_take {u:List Int}{i:Nat}{x:Int}{P:Int→Bool}(h:u[i]?=some x):(u.take (i+1)).filter P=(u.take i).filter P++(if P x=true then [x] else []):=by
 obtain ⟨hi,rfl⟩:=List.getElem?_eq_some_iff.1 h
 rw [List.take_succ_eq_append_getElem hi,List.filter_append,List.filter_cons,List.filter_nil]

theorem reach_any {B:Base}{w:World}(hS:St B [] w) (g:Graph) (A:Option Addr) (cp:Nat) (hC:kII.C B.e A g) (hsm:SmallG g) (from_:List Int) (A1:Option Addr) (cp1:Nat) (hC1:(Kd.int .i64).C B.e A1 from_) (hf:from_.length≤1000) (W0:World) :
 CW 170 #[.slice A g.length cp,.slice A1 from_.length cp1] w
  (Ret B (fun z:Option Addr×Nat×List Bool=>z.2.2.length=g.length∧∀ i:Nat,z.2.2[i]?=some true↔RP g from_ (i:Int)) (fun z=>.slice z.1 g.length z.2.1) (fun z=>[row Kd.bool W0 4 (.slice z.1 g.length z.2.1) z.2.2])):=by
 have hn:=hsm.1
 (refine enterM Tryz.func170 J J hS ?_;simp only [List.zipIdx_cons,List.zipIdx_nil,List.map_cons,List.map_nil,Nat.reduceAdd,Nat.zero_add])
 refine Zh (Zi (Zp J (Zn (Za (Zh (Zi (Zo J (Zv J J (oMake (kd:=Kd.bool) (W:=W0) false J J J J J J ZO J (fun g13=>?_))))))))))
 refine Zp J (Zn (Za (Zh (Zi (oAlloc J ZP (fun b6=>?_))))))
 refine Zn (Za (Zh (Zh (Zi (Zo J (Zv J J (Zo J (Zn (Za (Zk (wLoop (ι:=Nat×Option Addr×Nat) (fun z=>[(0,.slice A g.length cp),(5,.slice (some ⟨g13,0,none⟩) g.length g.length),(6,.pointer (some ⟨b6,0,none⟩)),(14,.slice A1 from_.length cp1),(15,.int .i64 (from_.length:Int)),(16,.int .i64 (z.1:Int))]) (fun z=>[row Kd.bool W0 4 (.slice (some ⟨g13,0,none⟩) g.length g.length) (List.replicate g.length false),blk b6 35 [.slice z.2.1 ((from_.take z.1).filter (inG g)).length z.2.2],row (Kd.int .i64) W0 3 (.slice z.2.1 ((from_.take z.1).filter (inG g)).length z.2.2) ((from_.take z.1).filter (inG g))]) (fun z=>z.1≤from_.length) (fun z=>from_.length-z.1) (0,none,0) ?_ cv (Leads.nilrow.trans Lh) ?_)))))))))))
 exact Nat.zero_le _
 rintro ⟨i,A2,c2⟩ hi
 dsimp only at hi
 have hle:((from_.take i).filter (inG g)).length≤1000:=Nat.le_trans (List.length_filter_le _ _) (by rw [List.length_take];omega)
 try dsimp only
 refine Zh (Zi (Zx J J (Zn (Za (Zh (wC (fun h17=>?_) (fun h17=>?_)))))))
 refine Zj (Za (Zh (Zk (Zh (Zi (oIdx J J (hC1) J ZO J J (fun e18 u18 cs18 hu18 hk18 hc18=>?_)))))))
 obtain rfl:=hk18
 have hft:=filter_take (P:=inG g) hu18
 refine Zlx hc18 ?_
 refine Zp J (Zn (Za (Zh (Zi (Zo J (Z2 J J (Zo J (ZS (ZT 22) (fun h22=>?_) (fun h22=>?_)))))))))
 refine Zq J J (Zo J (Zq J J (Zo J (Zq J J (Zv J J (Zq J J (Zx J J (Zt J J (Zn (Za (wC (fun h27=>?_) (fun h27=>?_))))))))))))
 refine Zi (Zld ?_)
 refine Zo J (oBuildSlice1 J J J J J ZP J (fun b30=>?_))
 refine oApp1 u18 J J J J ZP ZP J ZO J (fun g31 cp31=>?_)
 rw [if_pos (by simp [inG];omega)] at hft
 rw [show ((from_.take i).filter (inG g)).length+1=((from_.take (i+1)).filter (inG g)).length by rw [hft,List.length_append];rfl,← hft]
 refine Zst ?_
 refine Zn (Zzl ?_)
 refine Zo J (Zn (Za ?_))
 exact ⟨rfl,(i+1,some ⟨g31,0,none⟩,cp31),by show i+1≤_;omega,by show from_.length-(i+1)<from_.length-i;omega,cv,Lh⟩
 refine Zj (Zzl ?_)
 refine Zo J (Zn (Za ?_))
 rw [show (if inG g u18=true then [u18] else [])=[] by rw [if_neg];simp [inG];omega,List.append_nil] at hft
 exact ⟨rfl,(i+1,A2,c2),by show i+1≤_;omega,by show from_.length-(i+1)<from_.length-i;omega,cv,by dsimp only;rw [hft];exact Lh⟩
 refine Zr J J J J (Zr J J J J (Zr J J J J (Zr J J J J (Zu J J (Zn (Za (wCondF J (Zj (Zzl ?_)))))))))
 refine Zo J (Zn (Za ?_))
 rw [show (if inG g u18=true then [u18] else [])=[] by rw [if_neg];simp [inG];omega,List.append_nil] at hft
 exact ⟨rfl,(i+1,A2,c2),by show i+1≤_;omega,by show from_.length-(i+1)<from_.length-i;omega,cv,by dsimp only;rw [hft];exact Lh⟩
 obtain rfl:i=from_.length:=by omega
 rw [List.take_length]
 refine Zm (Zb (Zb (Ze (Za (Zh (Zk (wLoopM (ι:=List Bool×List Int×Option Addr×Nat) (fun z=>[(0,.slice A g.length cp),(5,.slice (some ⟨g13,0,none⟩) g.length g.length),(6,.pointer (some ⟨b6,0,none⟩))]) (fun z=>[row Kd.bool W0 4 (.slice (some ⟨g13,0,none⟩) g.length g.length) z.1,blk b6 35 [.slice z.2.2.1 z.2.1.length z.2.2.2],row (Kd.int .i64) W0 3 (.slice z.2.2.1 z.2.1.length z.2.2.2) z.2.1]) (fun z=>RS g from_ z.1 z.2.1∧z.2.1.length+falses z.1 * 1000≤2000000) (fun z=>falses z.1 * 1001+z.2.1.length) (List.replicate g.length false,from_.filter (inG g),A2,c2) ?_ cv [] J (marks_nil.trans Lh) ?_)))))))
 exact ⟨RS.init g from_,by have h1:falses (List.replicate g.length false)≤g.length:=Nat.le_trans (falses_le _) (by simp);have h2:(from_.filter (inG g)).length≤from_.length:=List.length_filter_le _ _;show (from_.filter (inG g)).length+falses (List.replicate g.length false) * 1000≤2000000;omega⟩
 rintro ⟨out,wait,A3,c3⟩ Ms ⟨hrs,hbd⟩
 dsimp only at hrs hbd
 have hol:=hrs.len
 try dsimp only
 refine Zh (Zh (Zi (Zld ?_)))
 refine Zv J J (Z1 J J (Zn (Za (wC (fun h35=>?_) (fun h35=>?_)))))
 refine Zj (Za (Zk (Zh (Zi (Zld ?_)))))
 refine Zld ?_
 refine Zv J J ?_
 first | refine oSub rfl rfl ZO ?_ | refine oSubW rfl rfl ?_
 refine ZS0 (t:=39) (v':=.int .i64 ((wait.length-1:Nat):Int)) J (by congr 1;omega) ?_
 refine ZR J J ZP ZO J J (fun g40 hg40=>?_)
 first | subst hg40 | (injection hg40 with hg40;injection hg40 with hg40;subst hg40)
 refine ZR1 J ZP ZO J (fun u41 hu41=>?_)
 have hW:(wait.take (wait.length-1)).length=wait.length-1:=by simp
 have hw:wait=wait.take (wait.length-1)++[u41]:=by
  have h1:wait.length-1<wait.length:=by omega
  have h2:=(List.getElem?_eq_some_iff.1 hu41).2
  rw [← h2,← List.take_succ_eq_append_getElem h1,show wait.length-1+1=wait.length by omega,List.take_length]
 have hin:=inG_iff.1 (hrs.waits u41 (by rw [hw];simp)).inG
 obtain ⟨a,rfl⟩:=Int.eq_ofNat_of_zero_le hin.1
 have ha:a<g.length:=by omega
 have hel:=ends_le hsm a
 have hrs':RS g from_ out (wait.take (wait.length-1)++[(a:Int)]):=by rw [← hw];exact hrs
 refine Zp J (Zn (Za (Zh (Zi (Zld ?_)))))
 refine Zld ?_
 refine Zv J J ?_
 first | refine oSub rfl rfl ZO ?_ | refine oSubW rfl rfl ?_
 refine ZS0 (t:=45) (v':=.int .i64 ((wait.length-1:Nat):Int)) J (by congr 1;omega) ?_
 refine oSliceTo J J ZO J ZP ?_
 refine Zst ?_
 refine Zn (Za (Zh (Zh (Zi (Zo J (Zo J (ZR J J ZP ZO J J (fun g49 hg49=>?_))))))))
 first | subst hg49 | (injection hg49 with hg49;injection hg49 with hg49;subst hg49)
 refine ZR1 J ZP ZO J (fun u50 hu50=>?_)
 refine Zn (Za (wC (fun h50=>?_) (fun h50=>?_)))
 refine Zm (Zb (Ze (Za ?_)))
 exact ⟨Ms,rfl,(out,wait.take (wait.length-1),some ⟨g40,0,none⟩,c3),⟨hrs'.skip (by rw [Int.toNat_natCast,hu50,h50]),by show (wait.take (wait.length-1)).length+falses out * 1000≤2000000;rw [hW];omega⟩,by show falses out * 1001+(wait.take (wait.length-1)).length<falses out * 1001+wait.length;rw [hW];omega,cv,by (try dsimp only);rw [hW];exact Lh⟩
 have hfs:=falses_set (out:=out) (a:=a) (by rw [hu50,h50])
 refine Zj (Za (Zh (Zi (Zo J (Zo J (ZR J J ZP ZO J J (fun g53 hg53=>?_)))))))
 first | subst hg53 | (injection hg53 with hg53;injection hg53 with hg53;subst hg53)
 refine oStR _ J J J J ZP (by first | omega | (simp only [List.length_set];omega)) ?_
 refine Zn (Za (Zh (Zi (Zo J (Zo J ?_)))))
 (refine ZC0 rfl ZK (fun w hS=>frame hS ZQ (fun B' hB hS'=>ends_any hS' A g.length cp (a:Int))) ?_;rintro ⟨p2,p3⟩ -)
 refine Zn (Za (Zk ?_))
 refine wRange rfl rfl ZK (ends1 g A cp a p2 p3 hC ha) (by rintro _ h;obtain ⟨y,_,rfl⟩:=List.mem_map.1 h;rfl) rfl (ι:=Nat×Option Addr×Nat) (κ:=Unit) (fun j z=>z.1=j) (fun z=>[marksR Ms,row Kd.bool W0 4 (.slice (some ⟨g13,0,none⟩) g.length g.length) (out.set a true),blk b6 35 [.slice z.2.1 (wait.length-1+z.1) z.2.2],row (Kd.int .i64) W0 3 (.slice z.2.1 (wait.length-1+z.1) z.2.2) (wait.take (wait.length-1)++(endsOf g a).take z.1)]) (fun x z=>False) (fun x z=>[]) (0,some ⟨g40,0,none⟩,c3) rfl (by dsimp only;rw [List.take_zero,List.append_nil,Nat.add_zero];exact Lh) ?_ ?_ ?_
 intro lp4 B' R1 R2 j hj
 rintro ⟨i,A2,c2⟩ hB rfl
 dsimp only
 have hj':i<(endsOf g a).length:=by simpa using hj
 have hlt:(wait.take (wait.length-1)++(endsOf g a).take i).length=wait.length-1+i:=by rw [List.length_append,hW,List.length_take];omega
 have htk:wait.take (wait.length-1)++(endsOf g a).take i++[(endsOf g a)[i]]=wait.take (wait.length-1)++(endsOf g a).take (i+1):=by rw [List.append_assoc,List.take_succ_eq_append_getElem hj']
 rw [List.getElem_map]
 generalize (endsOf g a)[i]=x at *
 dsimp only [hand,intV]
 refine Zi (Zp J (Zn (aq_n ZP ?_)))
 refine Zk (Zi (Zld ?_))
 refine Zo J (oBuildSlice1 J J J J J ZP J (fun b60=>?_))
 refine oApp1 x J J J J ZP ZP J ZO J (fun g61 cp61=>?_)
 rw [hlt,htk]
 refine Zst ?_
 refine Zn (Zd (rq_n ?_))
 exact ⟨(i+1,some ⟨g61,0,none⟩,cp61),rfl,Lh⟩
 rintro ⟨i,A2,c2⟩ Dm4 h
 dsimp only at h
 rw [List.length_map] at h
 subst h
 dsimp only
 rw [List.take_length]
 try dsimp only
 refine Zd (Zd (Za ?_))
 exact ⟨Dm4 :: Ms,rfl,(out.set a true,wait.take (wait.length-1)++endsOf g a,A2,c2),⟨hrs'.take ZO,by show (wait.take (wait.length-1)++endsOf g a).length+falses (out.set a true) * 1000≤2000000;rw [List.length_append,hW];omega⟩,by show falses (out.set a true) * 1001+(wait.take (wait.length-1)++endsOf g a).length<falses out * 1001+wait.length;rw [List.length_append,hW];omega,cv,by (try dsimp only);rw [List.length_append,hW];exact (marks_push ZP ZP).trans Lh⟩
 rintro _ _ _ h;exact h.elim
 refine Zm (Zb (Zb (Ze (Za (Zh (Zi (Zo J (Zp J (Zn (Za (Zl (finMb_r (Ds:=Ms) J ZP (ResL.cons (ResR.tmp J) ResL.nil) ?_))))))))))))
 have hw0:wait=[]:=List.eq_nil_of_length_eq_zero ZO
 subst hw0
 exact ⟨(some ⟨g13,0,none⟩,g.length,out),⟨hrs.len,fun i=>⟨hrs.sound i,fun h=>by simpa using hrs.done _ h⟩⟩,rfl,Lh⟩
end Go.Proofs.YtafiabekcekdbaaGreatG


/-
  The references' small ones: Few, Edge, Ints, In, Member.
-/
namespace Go.Proofs.YtafiabekcekdbaaGreatG
set_option maxRecDepth 100000
set_option maxHeartbeats 4000000
open Go.RowKit Go.Proofs.YtafiabekcekdbaaGreatK Go.Proofs.YtafiabekcekdbaaGreatT Go.Proofs.YtafiabekcekdbaaGreatL

def memF (g:Graph) (ib:List Bool) (a:Int):Bool:=decide (0≤a) && decide (a<(g.length:Int)) && decide (a<(ib.length:Int)) && ib.getD a.toNat false
end Go.Proofs.YtafiabekcekdbaaGreatG


/-
  The reference's Reach.
-/
namespace Go.Proofs.YtafiabekcekdbaaGreatG
set_option maxRecDepth 100000
set_option maxHeartbeats 4000000
open Go.RowKit Go.Proofs.YtafiabekcekdbaaGreatK Go.Proofs.YtafiabekcekdbaaGreatT Go.Proofs.YtafiabekcekdbaaGreatL

def Tr (out:List Bool) (i:Nat):Prop:=out[i]?=some true
theorem Tr.set {out:List Bool}{i j:Nat}(h:Tr out i):Tr (out.set j true) i:=by
 unfold Tr at *
 rw [List.getElem?_set]
 split
 · rename_i e;subst e;have:=(List.getElem?_eq_some_iff.1 h).1;simp [this]
 · exact h
theorem Tr.self {out:List Bool}{j:Nat}(h:j<out.length):Tr (out.set j true) j:=by unfold Tr;simp [h]
theorem Tr.of_set {out:List Bool}{i j:Nat}(h:Tr (out.set j true) i):Tr out i∨i=j:=by
 unfold Tr at *
 rw [List.getElem?_set] at h
 split at h
 · rename_i e;exact .inr e.symm
 · exact .inl h
theorem Tr.set_same {out:List Bool}{j:Nat}(h:Tr out j):out.set j true=out:=by
 obtain ⟨hj,he⟩:=List.getElem?_eq_some_iff.1 h
 rw [← he];exact List.set_getElem_self hj
def Closed (g:Graph) (out:List Bool):Prop:=∀ a,Tr out a→∀ b ∈ endsOf g a,Tr out b.toNat
theorem falses_mono:∀ {old out:List Bool},old.length=out.length→(∀ i,Tr old i→Tr out i)→falses out≤falses old∧(∀ i,old[i]?=some false→Tr out i→falses out<falses old)
 | [],[],_,_=>⟨Nat.le_refl _,fun i h=>by simp at h⟩
 | a :: old,b :: out,hl,h=>by
  obtain ⟨h1,h2⟩:=falses_mono (old:=old) (out:=out) (by simpa using hl) (fun i hi=>by simpa [Tr] using h (i+1) (by simpa [Tr] using hi))
  have h0:=h 0
  simp only [Tr,List.getElem?_cons_zero,Option.some.injEq] at h0
  have e1:falses (a :: old)=falses old+(if a then 0 else 1):=by unfold falses;cases a <;> simp
  have e2:falses (b :: out)=falses out+(if b then 0 else 1):=by unfold falses;cases b <;> simp
  rw [e1,e2]
  refine ⟨?_,fun i hi ht=>?_⟩
  · cases a <;> cases b <;> simp_all <;> omega
  · cases i with
    | zero=>
     simp only [List.getElem?_cons_zero,Option.some.injEq,Tr] at hi ht
     subst hi ht
     simp;omega
    | succ i=>
     have:=h2 i (by simpa using hi) (by simpa [Tr] using ht)
     cases a <;> cases b <;> simp_all <;> omega
structure RI (g:Graph) (f:List Int) (out:List Bool):Prop where
  len:out.length=g.length
  sound:∀ i,Tr out i→RP g f (i:Int)
theorem RI.set {g:Graph}{f:List Int}{out:List Bool}{j:Nat}(h:RI g f out) (hj:RP g f (j:Int)):RI g f (out.set j true):=
 ⟨by rw [List.length_set];exact h.len,fun i hi=>by
  rcases hi.of_set with hi | rfl
  · exact h.sound i hi
  · exact hj⟩
def Starts (g:Graph) (f:List Int) (out:List Bool) (n:Nat):Prop:=∀ j x,j<n→f[j]?=some x→inG g x=true→Tr out x.toNat
theorem closed_of_none {g:Graph}{out:List Bool}(hl:out.length=g.length) (h:falses out=0):Closed g out:=by
 intro a _ b hb
 have hin:=inG_iff.1 (ends_in hb)
 unfold Tr
 rw [List.getElem?_eq_getElem (show b.toNat<out.length by omega)]
 congr 1
 unfold falses at h
 have:=List.filter_eq_nil_iff.1 (List.eq_nil_of_length_eq_zero h) _ (List.getElem_mem (show b.toNat<out.length by omega))
 simpa using this
theorem reach_iff {g:Graph}{f:List Int}{out:List Bool}(h:RI g f out) (hs:Starts g f out f.length) (hc:Closed g out):∀ i:Nat,Tr out i↔RP g f (i:Int):=by
 have key:∀ x,RP g f x→Tr out x.toNat:=by
  intro x hx
  induction hx with
  | start h1 h2=>
   obtain ⟨j,hj⟩:=List.mem_iff_getElem?.1 h1
   exact hs j _ (List.getElem?_eq_some_iff.1 hj).1 hj h2
  | step h1 h2 ih=>exact hc _ (by simpa using ih) _ h2
 exact fun i=>⟨h.sound i,fun hx=>by simpa using key _ hx⟩
structure Rd (g:Graph) (f:List Int) (old out:List Bool) (a:Nat):Prop where
  ri:RI g f out
  mono:∀ i,Tr old i→Tr out i
  done:∀ a',a'<a→Tr old a'→∀ b ∈ endsOf g a',Tr out b.toNat
  same:Closed g old→out=old
theorem Rd.set {g:Graph}{f:List Int}{old out:List Bool}{a:Nat}{x:Int}(h:Rd g f old out a) (ha:Tr out a) (hx:x ∈ endsOf g a):Rd g f old (out.set x.toNat true) a:=by
 have hin:=inG_iff.1 (ends_in hx)
 refine ⟨h.ri.set ?_,fun i hi=>(h.mono i hi).set,fun a' h1 h2 b hb=>(h.done a' h1 h2 b hb).set,fun hc=>?_⟩
 · rw [Int.toNat_of_nonneg hin.1];exact .step (h.ri.sound a ha) hx
 · have e:=h.same hc
   subst e
   exact Tr.set_same (hc a ha x hx)
theorem Rd.next {g:Graph}{f:List Int}{old out:List Bool}{a:Nat}(h:Rd g f old out a) (hd:¬ Tr out a∨∀ b ∈ endsOf g a,Tr out b.toNat):Rd g f old out (a+1):=by
 refine ⟨h.ri,h.mono,fun a' h1 h2 b hb=>?_,h.same⟩
 by_cases e:a'=a
 · subst e
   rcases hd with hd | hd
   · exact absurd (h.mono _ h2) hd
   · exact hd b hb
 · exact h.done a' ZO h2 b hb
theorem Rd.end {g:Graph}{f:List Int}{old out:List Bool}{n:Nat}(h:Rd g f old out g.length) (hl:old.length=g.length) (hr:Closed g old∨falses old+n≤g.length):Closed g out∨falses out+(n+1)≤g.length:=by
 by_cases hc:Closed g old
 · rw [h.same hc];exact .inl hc
 · right
   rcases hr with hr | hr
   · exact absurd hr hc
   · obtain ⟨a, ha, b, hb, hn⟩ : ∃ a, Tr old a ∧ ∃ b, b ∈ endsOf g a ∧ ¬ Tr old b.toNat := by
      apply Classical.byContradiction
      intro hne
      apply hc
      intro a ha b hb
      apply Classical.byContradiction
      intro hn
      exact hne ⟨a,ha,b,hb,hn⟩
     have hin:=inG_iff.1 (ends_in hb)
     have hal:a<g.length:=by rw [← hl];exact (List.getElem?_eq_some_iff.1 ha).1
     have hbl:b.toNat<old.length:=by omega
     have hbf:old[b.toNat]?=some false:=by
      unfold Tr at hn
      rw [List.getElem?_eq_getElem hbl] at hn ⊢
      cases hv:old[b.toNat] with
      | true=>rw [hv] at hn;exact absurd rfl hn
      | false=>rfl
     have:=(falses_mono (by rw [hl,h.ri.len]) h.mono).2 _ hbf (h.done a hal ha b hb)
     omega
theorem refReach {B:Base}{w:World}(hS:St B [] w) (g:Graph) (A:Option Addr) (cp:Nat) (hC:kII.C B.e A g) (hsm:SmallG g) (f:List Int) (A1:Option Addr) (cp1:Nat) (hC1:(Kd.int .i64).C B.e A1 f) (W0:World) :
 CW 154 #[.slice A g.length cp,.slice A1 f.length cp1] w
  (Ret B (fun z:Option Addr×Nat×List Bool=>z.2.2.length=g.length∧∀ i:Nat,z.2.2[i]?=some true↔RP g f (i:Int)) (fun z=>.slice z.1 g.length z.2.1) (fun z=>[row Kd.bool W0 4 (.slice z.1 g.length z.2.1) z.2.2])):=by
 have hn:=hsm.1
 have m1:=hC1.1
 refine ZX Tryz.func154 hS ?_
 refine Zh (Zi (Zp J (Zn (Za (Zh (Zi (Zo J (Zv J J (oMake (kd:=Kd.bool) (W:=W0) false J J J J J J ZO J (fun g12=>?_))))))))))
 refine Zp J (Zn (Za (Zh (Zh (Zi (Zp J (Zn (Za (Zk (wLoop (ι:=Nat×List Bool) (fun z=>[(0,.slice A g.length cp),(1,.slice A1 f.length cp1),(5,.slice (some ⟨g12,0,none⟩) g.length g.length),(6,.int .i64 (z.1:Int))]) (fun z=>[row Kd.bool W0 4 (.slice (some ⟨g12,0,none⟩) g.length g.length) z.2]) (fun z=>z.1≤f.length∧RI g f z.2∧Starts g f z.2 z.1) (fun z=>f.length-z.1) (0,List.replicate g.length false) ?_ cv (Leads.has ZQ) ?_))))))))))
 exact ⟨Nat.zero_le _,⟨by simp,fun i h=>by unfold Tr at h;rw [List.getElem?_replicate] at h;split at h <;> simp at h⟩,fun j x h=>by omega⟩
 rintro ⟨i,out⟩ ⟨hi,hri,hst⟩
 dsimp only at hi hri hst
 have hol:=hri.len
 try dsimp only
 refine Zh (Zh (Zi (Zo J (Zo J (Zv J J (Zx J J (Zn (Za (wC (fun h16=>?_) (fun h16=>?_))))))))))
 refine Zj (Za (Zh (Zk (Zh (Zi (Zo J (Zo J (oIdx J J (hC1) J ZO J J (fun e21 u21 cs21 hu21 hk21 hc21=>?_)))))))))
 obtain rfl:=hk21
 refine Zlx hc21 ?_
 refine Z2 J J (Zo J (ZS (ZT 24) (fun h24=>?_) (fun h24=>?_)))
 refine Zq J J (Zo J (Zq J J (Zo J (Zq J J (oIdx J J (hC1) J ZO J J (fun e27 u27 cs27 hu27 hk27 hc27=>?_))))))
 obtain rfl:=hk27
 obtain rfl:=Option.some.inj (hu21.symm.trans hu27)
 refine Zq J J (Zlx hc27 ?_)
 refine Zq J J (Zo J (Zq J J (Zv J J (Zq J J (Zx J J (Zt J J (Zn (Za (wC (fun h32=>?_) (fun h32=>?_))))))))))
 refine Zi (Zo J (Zo J (Zo J (oIdx J J (hC1) J ZO J J (fun e36 u36 cs36 hu36 hk36 hc36=>?_)))))
 obtain rfl:=hk36
 obtain rfl:=Option.some.inj (hu21.symm.trans hu36)
 refine Zlx hc36 ?_
 refine ZS0 (t:=37) (v':=.int .i64 ((u21.toNat:Nat):Int)) rfl (by rw [Int.toNat_of_nonneg h24]) ?_
 refine ZR J J ZP ZO J J (fun g38 hg38=>?_)
 first | subst hg38 | (injection hg38 with hg38;injection hg38 with hg38;subst hg38)
 refine oStR _ J J J J ZP (by first | omega | (simp only [List.length_set];omega)) ?_
 refine Zn (Zze ?_)
 refine Zp J (Zn (Za ?_))
 exact ⟨rfl,(i+1,out.set u21.toNat true),⟨by show i+1≤_;omega,hri.set (by rw [Int.toNat_of_nonneg h24];exact .start (List.mem_of_getElem? hu21) (by simp [inG];omega)),fun j x hj hx hin=>by
 by_cases e:j=i
 · subst e;obtain rfl:=Option.some.inj (hu21.symm.trans hx);exact Tr.self ZO
 · exact (hst j x ZO hx hin).set⟩,by show f.length-(i+1)<f.length-i;omega,cv,Lh⟩
 refine Zj (Zze ?_)
 refine Zp J (Zn (Za ?_))
 exact ⟨rfl,(i+1,out),⟨by show i+1≤_;omega,hri,fun j x hj hx hin=>by
 by_cases e:j=i
 · subst e;obtain rfl:=Option.some.inj (hu21.symm.trans hx);rw [inG_iff] at hin;omega
 · exact hst j x ZO hx hin⟩,by show f.length-(i+1)<f.length-i;omega,cv,Lh⟩
 refine Zr J J J J (Zr J J J J (Zr J J J J (Zr J J J J (Zr J J J J (Zr J J J J (Zr J J J J (Zu J J (Zn (Za (wCondF J (Zj (Zze ?_))))))))))))
 refine Zp J (Zn (Za ?_))
 exact ⟨rfl,(i+1,out),⟨by show i+1≤_;omega,hri,fun j x hj hx hin=>by
 by_cases e:j=i
 · subst e;obtain rfl:=Option.some.inj (hu21.symm.trans hx);rw [inG_iff] at hin;omega
 · exact hst j x ZO hx hin⟩,by show f.length-(i+1)<f.length-i;omega,cv,Lh⟩
 obtain rfl:i=f.length:=by omega
 refine Zm (Zb (Zb (Ze (Za (Zh (Zh (Zi (Zp J (Zn (Za (Zk (wLoop (ι:=Nat×List Bool) (fun z=>[(0,.slice A g.length cp),(5,.slice (some ⟨g12,0,none⟩) g.length g.length),(7,.int .i64 (z.1:Int))]) (fun z=>[row Kd.bool W0 4 (.slice (some ⟨g12,0,none⟩) g.length g.length) z.2]) (fun z=>z.1≤g.length∧RI g f z.2∧Starts g f z.2 f.length∧(Closed g z.2∨falses z.2+z.1≤g.length)) (fun z=>g.length-z.1) (0,out) ?_ cv (Leads.has ZQ) ?_))))))))))))
 exact ⟨Nat.zero_le _,hri,hst,.inr (by have:=falses_le out;show falses out+0≤_;omega)⟩
 rintro ⟨r,old⟩ ⟨hr,hri2,hst2,hcl⟩
 dsimp only at hr hri2 hst2 hcl
 try dsimp only
 refine Zh (Zh (Zi (Zo J (Zo J (Zv J J (Zx J J (Zn (Za (wC (fun h42=>?_) (fun h42=>?_))))))))))
 refine Zj (Za (Zh (Zk (Zh (Zi (Zp J (Zn (Za (Zk (wLoop (ι:=Nat×List Bool) (fun z=>[(0,.slice A g.length cp),(5,.slice (some ⟨g12,0,none⟩) g.length g.length),(7,.int .i64 (r:Int)),(8,.int .i64 (z.1:Int))]) (fun z=>[row Kd.bool W0 4 (.slice (some ⟨g12,0,none⟩) g.length g.length) z.2]) (fun z=>z.1≤g.length∧Rd g f old z.2 z.1) (fun z=>g.length-z.1) (0,old) ?_ cv (Leads.has ZQ) ?_))))))))))
 exact ⟨Nat.zero_le _,hri2,fun _ h=>h,fun a' h=>by omega,fun _=>rfl⟩
 rintro ⟨a,out4⟩ ⟨ha,hrd⟩
 dsimp only at ha hrd
 try dsimp only
 refine Zh (Zh (Zi (Zo J (Zo J (Zv J J (Zx J J (Zn (Za (wC (fun h48=>?_) (fun h48=>?_))))))))))
 refine Zj (Za (Zh (Zk (Zh (Zi (Zp J (Zn (Za (Zk (wLoop (ι:=Nat×List Bool) (fun z=>[(0,.slice A g.length cp),(5,.slice (some ⟨g12,0,none⟩) g.length g.length),(7,.int .i64 (r:Int)),(8,.int .i64 (a:Int)),(9,.int .i64 (z.1:Int))]) (fun z=>[row Kd.bool W0 4 (.slice (some ⟨g12,0,none⟩) g.length g.length) z.2]) (fun z=>z.1≤(g.getD a []).length∧Rd g f old z.2 a∧∀ j x,j<z.1→(g.getD a [])[j]?=some x→inG g x=true→Tr z.2 x.toNat) (fun z=>(g.getD a []).length-z.1) (0,out4) ?_ cv (Leads.has ZQ) ?_))))))))))
 exact ⟨Nat.zero_le _,hrd,fun j x h=>by omega⟩
 rintro ⟨i,out6⟩ ⟨hi6,hrd6,hds⟩
 dsimp only at hi6 hrd6 hds
 have hol:=hrd6.ri.len
 try dsimp only
 refine Zh (Zh (Zi (Zo J (Zo J (ZR J J ZP ZO J J (fun g53 hg53=>?_))))))
 first | subst hg53 | (injection hg53 with hg53;injection hg53 with hg53;subst hg53)
 refine ZR1 J ZP ZO J (fun u54 hu54=>?_)
 refine Zo J (ZS (ZT 55) (fun h55=>?_) (fun h55=>?_))
 refine Zq J J (Zo J (Zq J J (Zo J (Zq J J (Zo J (Zq J J (oIdx J J (hC) J ZO J J (fun e59 u59 cs59 hu59 hk59 hc59=>?_))))))))
 obtain ⟨A0,c0,rfl,hle59,g0⟩:=hk59
 have hbig:=g0.1
 refine Zq J J (Zlx hc59 ?_)
 refine Zq J J (Zv J J (Zq J J (Zx J J (Zt J J (Zn (Za (wC (fun h63=>?_) (fun h63=>?_))))))))
 refine Zj (Za (Zh (Zk (Zh (Zi (Zo J (Zo J (oIdx J J (hC) J ZO J J (fun e68 u68 cs68 hu68 hk68 hc68=>?_)))))))))
 obtain ⟨A0,c0,rfl,hle68,g0⟩:=hk68
 have hbig:=g0.1
 obtain rfl:=Option.some.inj (hu59.symm.trans hu68)
 refine Zlx hc68 ?_
 refine Zo J (oIdx J J (g0) J ZO J J (fun e71 u71 cs71 hu71 hk71 hc71=>?_))
 obtain rfl:=hk71
 refine Zlx hc71 ?_
 refine Z2 J J (Zo J (ZS (ZT 74) (fun h74=>?_) (fun h74=>?_)))
 refine Zq J J (Zo J (Zq J J (Zo J (Zq J J (oIdx J J (hC) J ZO J J (fun e77 u77 cs77 hu77 hk77 hc77=>?_))))))
 obtain ⟨A0,c0,rfl,hle77,g0⟩:=hk77
 have hbig:=g0.1
 obtain rfl:=Option.some.inj (hu59.symm.trans hu77)
 refine Zq J J (Zlx hc77 ?_)
 refine Zq J J (Zo J (Zq J J (oIdx J J (g0) J ZO J J (fun e80 u80 cs80 hu80 hk80 hc80=>?_))))
 obtain rfl:=hk80
 obtain rfl:=Option.some.inj (hu71.symm.trans hu80)
 refine Zq J J (Zlx hc80 ?_)
 refine Zq J J (Zo J (Zq J J (Zv J J (Zq J J (Zx J J (Zt J J (Zn (Za (wC (fun h85=>?_) (fun h85=>?_))))))))))
 refine Zi (Zo J (Zo J (Zo J (oIdx J J (hC) J ZO J J (fun e89 u89 cs89 hu89 hk89 hc89=>?_)))))
 obtain ⟨A0,c0,rfl,hle89,g0⟩:=hk89
 have hbig:=g0.1
 obtain rfl:=Option.some.inj (hu59.symm.trans hu89)
 refine Zlx hc89 ?_
 refine Zo J (oIdx J J (g0) J ZO J J (fun e92 u92 cs92 hu92 hk92 hc92=>?_))
 obtain rfl:=hk92
 obtain rfl:=Option.some.inj (hu71.symm.trans hu92)
 refine Zlx hc92 ?_
 refine ZS0 (t:=93) (v':=.int .i64 ((u71.toNat:Nat):Int)) rfl (by rw [Int.toNat_of_nonneg h74]) ?_
 refine ZR J J ZP ZO J J (fun g94 hg94=>?_)
 first | subst hg94 | (injection hg94 with hg94;injection hg94 with hg94;subst hg94)
 refine oStR _ J J J J ZP (by first | omega | (simp only [List.length_set];omega)) ?_
 refine Zn (Zze ?_)
 refine Zp J (Zn (Za ?_))
 have hmem:u71 ∈ endsOf g a:=by unfold endsOf;rw [getD_at hu59];exact List.mem_filter.2 ⟨List.mem_of_getElem? hu71,by simp [inG];omega⟩
 have hta:Tr out6 a:=by unfold Tr;rw [hu54,h55]
 exact ⟨rfl,(i+1,out6.set u71.toNat true),⟨by rw [getD_at hu59];show i+1≤_;omega,hrd6.set hta hmem,fun j x hj hx hin=>by
 rw [getD_at hu59] at hx
 by_cases e:j=i
 · subst e;obtain rfl:=Option.some.inj (hu71.symm.trans hx);exact Tr.self ZO
 · exact (hds j x ZO (by rw [getD_at hu59];exact hx) hin).set⟩,by rw [getD_at hu59];show u59.length-(i+1)<u59.length-i;omega,cv,Lh⟩
 refine Zj (Zze ?_)
 refine Zp J (Zn (Za ?_))
 exact ⟨rfl,(i+1,out6),⟨by rw [getD_at hu59];show i+1≤_;omega,hrd6,fun j x hj hx hin=>by
 rw [getD_at hu59] at hx
 by_cases e:j=i
 · subst e;obtain rfl:=Option.some.inj (hu71.symm.trans hx);rw [inG_iff] at hin;omega
 · exact hds j x ZO (by rw [getD_at hu59];exact hx) hin⟩,by rw [getD_at hu59];show u59.length-(i+1)<u59.length-i;omega,cv,Lh⟩
 refine Zr J J J J (Zr J J J J (Zr J J J J (Zr J J J J (Zr J J J J (Zr J J J J (Zr J J J J (Zr J J J J (Zr J J J J (Zr J J J J (Zu J J (Zn (Za (wCondF J (Zj (Zze ?_)))))))))))))))
 refine Zp J (Zn (Za ?_))
 exact ⟨rfl,(i+1,out6),⟨by rw [getD_at hu59];show i+1≤_;omega,hrd6,fun j x hj hx hin=>by
 rw [getD_at hu59] at hx
 by_cases e:j=i
 · subst e;obtain rfl:=Option.some.inj (hu71.symm.trans hx);rw [inG_iff] at hin;omega
 · exact hds j x ZO (by rw [getD_at hu59];exact hx) hin⟩,by rw [getD_at hu59];show u59.length-(i+1)<u59.length-i;omega,cv,Lh⟩
 refine Zm (Zb (Zb (Ze (Zze ?_))))
 refine Zp J (Zn (Za ?_))
 exact ⟨rfl,(a+1,out6),⟨by show a+1≤_;omega,hrd6.next (.inr fun b hb=>by
 have hb':=List.mem_filter.1 hb
 rw [getD_at hu59] at hb'
 obtain ⟨j,hj⟩:=List.mem_iff_getElem?.1 hb'.1
 exact hds j b (by have:=(List.getElem?_eq_some_iff.1 hj).1;omega) (by rw [getD_at hu59];exact hj) hb'.2)⟩,by show g.length-(a+1)<g.length-a;omega,cv,Lh⟩
 refine Zr J J J J (Zr J J J J (Zr J J J J (Zr J J J J (Zr J J J J (Zr J J J J (Zr J J J J (Zu J J (Zn (Za (wCondF J (Zm (Zb (Zb (Ze (Zze ?_)))))))))))))))
 refine Zp J (Zn (Za ?_))
 exact ⟨rfl,(a+1,out6),⟨by show a+1≤_;omega,hrd6.next (.inl fun h=>by have:=h.symm.trans hu54;simp_all)⟩,by show g.length-(a+1)<g.length-a;omega,cv,Lh⟩
 obtain rfl:a=g.length:=by omega
 refine Zm (Zb (Zb (Ze (Zze ?_))))
 refine Zp J (Zn (Za ?_))
 exact ⟨rfl,(r+1,out4),⟨by show r+1≤_;omega,hrd.ri,fun j x hj hx hin=>hrd.mono _ (hst2 j x hj hx hin),hrd.end hri2.len hcl⟩,by show g.length-(r+1)<g.length-r;omega,cv,Lh⟩
 obtain rfl:r=g.length:=by omega
 refine Zm (Zb (Zb (Ze (Za (Zh (Zi (Zo J (Zza ?_))))))))
 have hcl':Closed g old:=by
  rcases hcl with h | h
  · exact h
  · exact closed_of_none hri2.len ZO
 exact ⟨(some ⟨g12,0,none⟩,g.length,old),⟨hri2.len,reach_iff hri2 hst2 hcl'⟩,rfl,Lh⟩
end Go.Proofs.YtafiabekcekdbaaGreatG


/-
  Graphs within members: the reference's Within and On.
-/
namespace Go.Proofs.YtafiabekcekdbaaGreatG
set_option maxRecDepth 100000
set_option maxHeartbeats 4000000
open Go.RowKit Go.Proofs.YtafiabekcekdbaaGreatK Go.Proofs.YtafiabekcekdbaaGreatT Go.Proofs.YtafiabekcekdbaaGreatL

def inP (g:Graph) (ib:List Bool) (a:Nat) (x:Int):Bool:=memF g ib (a:Int) && memF g ib x
end Go.Proofs.YtafiabekcekdbaaGreatG


/-
  Package cycle: within.
-/
namespace Go.Proofs.YtafiabekcekdbaaGreatG
set_option maxRecDepth 100000
set_option maxHeartbeats 4000000
open Go.RowKit Go.Proofs.YtafiabekcekdbaaGreatK Go.Proofs.YtafiabekcekdbaaGreatT Go.Proofs.YtafiabekcekdbaaGreatL

def wp (g:Graph) (ib:List Bool) (a:Nat):List Int:=(cl g a).filter (inP g ib a)
end Go.Proofs.YtafiabekcekdbaaGreatG
namespace Go.Proofs.YtafiabekcekdbaaGreatW
set_option maxRecDepth 100000
set_option maxHeartbeats 4000000
open Go.RowKit Go.Proofs.YtafiabekcekdbaaGreatK Go.Proofs.YtafiabekcekdbaaGreatT Go.Proofs.YtafiabekcekdbaaGreatL Go.Proofs.YtafiabekcekdbaaGreatV Go.Proofs.YtafiabekcekdbaaGreatG

def fromL (code:List ApiInstr) (marks:List Nat):List Int:=(marks.map fun k=>rnext (code.getD k default) k).flatten
def dfrN (code:List ApiInstr):List Nat:=(List.range code.length).filter (dP code)
theorem dfr_N (code:List ApiInstr):dfr code code.length=(dfrN code).map fun k=>((k:Nat):Int):=rfl
theorem dfrN_lt {code:List ApiInstr}{k:Nat}(h:k ∈ dfrN code):k<code.length:=List.mem_range.1 (List.mem_filter.1 h).1
theorem rnext_len (x:ApiInstr) (k:Nat):(rnext x k).length≤2:=by
 unfold rnext
 repeat' split
 all_goals simp
theorem fromL_len (code:List ApiInstr):∀ marks:List Nat,(fromL code marks).length≤2 * marks.length
 | []=>by simp [fromL]
 | k :: marks=>by
  have h:=fromL_len code marks
  have h2:=rnext_len (code.getD k default) k
  unfold fromL at *
  rw [List.map_cons,List.flatten_cons,List.length_append,List.length_cons]
  omega
theorem fromL_snoc (code:List ApiInstr) (marks:List Nat) (k:Nat):fromL code (marks++[k])=fromL code marks++rnext (code.getD k default) k:=by
 unfold fromL;simp
theorem rg_small {code:List ApiInstr}(h:code.length≤1000):SmallG (rg code):=by
 refine ⟨by rw [rg_len];exact h,fun l hl=>?_⟩
 unfold rg at hl
 obtain ⟨k,_,rfl⟩:=List.mem_map.1 hl
 exact Nat.le_trans (rnext_len _ _) (by decide)
theorem ref14_After {B:Base}{w:World}(hS:St B [] w) (A:Option Addr) (cp:Nat) (code:List ApiInstr) (hC:kApiInstr.C B.e A code) (hl:code.length≤1000) (A1:Option Addr) (cp1:Nat) (ks:List Nat) (hC1:(Kd.int .i64).C B.e A1 (ks.map fun k=>((k:Nat):Int))) (hk:∀ k ∈ ks,k<code.length) (hn:ks.length≤1000) (W0:World) :
 CW 109 #[.slice A code.length cp,.slice A1 ks.length cp1] w
  (Ret B (fun z:Option Addr×Nat×List Bool=>z.2.2.length=code.length∧∀ i:Nat,z.2.2[i]?=some true↔RP (rg code) (fromL code ks) (i:Int)) (fun z=>.slice z.1 code.length z.2.1) (fun z=>[row Kd.bool W0 4 (.slice z.1 code.length z.2.1) z.2.2])):=by
 refine ZX Tryz.func109 hS ?_
 refine Zh (Zi (Zp J (Zn (Za (Zh (Zi (Zp J (Zn (Za (Zh (Zh (Zi (Zp J (Zn (Za (Zk (wLoop (ι:=Nat×Option Addr×Nat) (fun z=>[(0,.slice A code.length cp),(1,.slice A1 ks.length cp1),(5,.slice z.2.1 (fromL code (ks.take z.1)).length z.2.2),(6,.int .i64 (z.1:Int))]) (fun z=>[row (Kd.int .i64) W0 3 (.slice z.2.1 (fromL code (ks.take z.1)).length z.2.2) (fromL code (ks.take z.1))]) (fun z=>z.1≤ks.length) (fun z=>ks.length-z.1) (0,none,0) ?_ cv (Leads.nilrow.trans Lh) ?_)))))))))))))))))
 exact Nat.zero_le _
 rintro ⟨i,A2,c2⟩ hi
 dsimp only at hi
 have hle:=fromL_len code (ks.take i)
 rw [List.length_take] at hle
 try dsimp only
 refine Zh (Zh (Zi (Zo J (Zo J (Zv J J (Zx J J (Zn (Za (wC (fun h10=>?_) (fun h10=>?_))))))))))
 obtain ⟨k,hki⟩:∃ k,ks[i]?=some k:=⟨_,List.getElem?_eq_getElem ZO⟩
 have hkl:=hk k (List.mem_of_getElem? hki)
 obtain ⟨x,hx⟩:∃ x,code[k]?=some x:=⟨_,List.getElem?_eq_getElem hkl⟩
 obtain ⟨e1,cs1,hE⟩:=hC1.elm (i:=i) (u:=(k:Int)) (by rw [List.getElem?_map,hki];rfl)
 obtain rfl:=(show cs1=[Value.int .i64 (k:Int)] from hE.K)
 have hft:fromL code (ks.take (i+1))=fromL code (ks.take i)++rnext x k:=by rw [List.take_add_one,hki];show fromL code (ks.take i++[k])=_;rw [fromL_snoc,List.getD_eq_getElem?_getD,hx];rfl
 have hrl:=rnext_len x k
 refine Zj (Za (Zh (Zk (Zi (Zo J (Zo J (Zo J (Zo J (oIdxE J J (hE) ZO J J ?_)))))))))
 have hc17:=(hE).cell
 refine Zlx hc17 ?_
 (refine ZC0 rfl ZK (fun w hS=>frame hS ZQ (fun B' hB hS'=>ref14_Next hS' A cp code (Kd.C_grow hB hC) k x hx W0)) ?_;rintro ⟨A19,c19⟩ -)
 refine oAppA (kd:=Kd.int .i64) (W:=W0) (xs:=fromL code (ks.take i)) (ys:=rnext x k) J J J J ZP J (fun w hw=>src_row (e:=3) (n:=(rnext x k).length) (cp:=c19) (hw.get ZP)) ZO J (fun A20 c20 hc20=>?_)
 rw [← hft,show (fromL code (ks.take i)).length+(rnext x k).length=(fromL code (ks.take (i+1))).length by rw [hft,List.length_append]]
 refine Zp J (Zn (Zze ?_))
 refine Zp J (Zn (Za ?_))
 exact ⟨rfl,(i+1,A20,c20),by show i+1≤_;omega,by show ks.length-(i+1)<ks.length-i;omega,cv,Lh⟩
 obtain rfl:i=ks.length:=by omega
 rw [List.take_length] at *
 refine Zm (Zb (Zb (Ze (Zzn ?_))))
 (refine ZC0 rfl ZK (fun w hS=>frame hS ZQ (fun B' hB hS'=>ref14_Graph hS' A cp code (Kd.C_grow hB hC) ZO B.e)) ?_;rintro ⟨A22,c22,hs22⟩ hl22)
 refine ZS0 (t:=22) (v':=.slice A22 (rg code).length c22) rfl (by rw [rg_len]) ?_
 refine Zo J ?_
 (refine ZD J (fun w B' hB hR hS'=>refReach hS' (rg code) A22 c22 (grid_C (hR _ _ ZP) (hR _ _ ZP) (by rw [rg_len];exact hl22) hB) (rg_small hl) (fromL code ks) A2 c2 (row_Cs (W:=W0) (e:=3) (n:=(fromL code ks).length) (cp:=c2) (hR _ _ ZP)) W0) ?_;rintro ⟨A24,c24,l24⟩ ⟨h24a,h24b⟩)
 dsimp only at h24a h24b ⊢
 rw [rg_len] at h24a ⊢
 refine Zp J (Zzj ?_)
 exact ⟨(A24,c24,l24),⟨h24a,h24b⟩,rfl,Lh⟩
def inR (f:ApiFunc) (i:Int):Bool:=decide (f.fFrom≤i) && decide (i<f.fTo)
theorem ref18_In {B:Base}{w:World}(hS:St B [] w) (f:ApiFunc) (fc:List Value) (hf:kApiFunc.K B.e f fc) (i:Int) :
 CW 111 #[.agg fc.toArray,.int .i64 i] w (Ret B (fun _:Unit=>True) (fun _=>.bool (inR f i)) (fun _=>[])):=by
 obtain ⟨A0,c0,A1,c1,A2,c2,A3,c3,rfl,l0,g0,l1,g1,l2,g2,l3,g3⟩:=kApiFunc_open hf
 refine ZX Tryz.func111 hS ?_
 refine Zh (Zi (oBox J ZP (fun b2=>?_)))
 refine Zp J (Zn (Za (Zh (Zi (Zo J (Zz (n:=4) (m:=4) J J J (Zld ?_)))))))
 refine Z2 J J (Zo J (ZS (ZT 9) (fun h9=>?_) (fun h9=>?_)))
 refine Zq J J (Zo J (Zq J J (Zz (n:=5) (m:=5) J J J (Zzh ?_))))
 refine Zq J J (Zx J J (Zt J J (Zza ?_)))
 exact ⟨(),trivial,by simp_all [resVal,inR] <;> omega,Lh⟩
 refine Zr J J J J (Zzp ?_)
 exact ⟨(),trivial,by simp_all [resVal,inR] <;> omega,Lh⟩
def outR (f:ApiFunc):Prop:=∃ i:Nat,i<f.fCode.length∧RP (rg f.fCode) (fromL f.fCode (dfrN f.fCode)) (i:Int)∧inR f (i:Int)=false
open Classical in
noncomputable def rangeF (f:ApiFunc):Int:=if outR f then 9 else 0
theorem ref18_Check {B:Base}{w:World}(hS:St B [] w) (f:ApiFunc) (fc:List Value) (hf:kApiFunc.K B.e f fc) (hl:f.fCode.length≤1000) :
 CW 75 #[.agg fc.toArray] w (Ret B (fun _:Unit=>True) (fun _=>.int .i64 (rangeF f)) (fun _=>[])):=by
 obtain ⟨A0,c0,A1,c1,A2,c2,A3,c3,rfl,l0,g0,l1,g1,l2,g2,l3,g3⟩:=kApiFunc_open hf
 have hdl:(dfrN f.fCode).length≤1000:=Nat.le_trans (List.length_filter_le _ _) (by simpa using hl)
 refine ZX Tryz.func75 hS ?_
 refine Zh (Zi (oBox J ZP (fun b1=>?_)))
 refine Zp J (Zn (Za (Zh (wDrawG J [0,1,2,3] [(4,[0,1],[]),(5,[],[])] [6] 24 ZK J J (fun w0=>?_)))))
 refine Zz (n:=7) (m:=7) J J J (Zld ?_)
 refine Zz (n:=7) (m:=7) J J J (Zld ?_)
 refine Z4 (Z5 J ?_)
 (refine ZC0 rfl ZK (fun w hS=>frame hS ZQ (fun B' hB hS'=>ref18_Marks hS' A2 c2 f.fCode (Kd.C_grow hB g2) ZO B.e)) ?_;rintro ⟨A9,c9⟩ -)
 refine ZS0 (t:=9) (v':=.slice A9 (dfrN f.fCode).length c9) rfl (by rw [dfr_N,List.length_map]) ?_
 refine ZG ?_ J (fun w0=>?_)
 refine Z8 J J J J (fun w0=>?_) ?_
 refine Zz (n:=7) (m:=7) J J J ?_
 exact Z9 rfl
 refine Z8 J J J J (fun w0=>?_) ?_
 refine Zld ?_
 exact Z9 rfl
 exact AgainG.nil
 refine Z4 (Z5 J ?_)
 (refine ZD J (fun w B' hB hR hS'=>ref14_After hS' A2 c2 f.fCode (Kd.C_grow hB g2) hl A9 c9 (dfrN f.fCode) (row_Cs (W:=B.e) (e:=3) (n:=(dfr f.fCode f.fCode.length).length) (cp:=c9) (hR _ _ ZP)) (fun k hk=>dfrN_lt hk) hdl B.e) ?_;rintro ⟨A10,c10,l10⟩ ⟨h10a,h10b⟩)
 dsimp only at h10a h10b
 refine ZG ?_ J (fun w0=>?_)
 exact AgainG.nil
 refine Z6 (Zp J (Zn (Za (Zh (Zh (Zi (Zp J (Zn (Za (Zk (wLoop (ι:=Nat) (fun i=>[(1,.pointer (some ⟨b1,0,none⟩)),(3,.slice A10 f.fCode.length c10),(4,.int .i64 (i:Int))]) (fun i=>[blk b1 57 [.int .i64 f.fClass,.slice A0 f.fKinds.length c0,.int .i64 f.fPad,.bool f.fNosplit,.int .i64 f.fFrom,.int .i64 f.fTo,.slice A1 f.fLines.length c1,.slice A2 f.fCode.length c2,.slice A3 f.fRelocs.length c3],row Kd.bool B.e 4 (.slice A10 f.fCode.length c10) l10]) (fun i=>i≤f.fCode.length∧∀ j:Nat,j<i→RP (rg f.fCode) (fromL f.fCode (dfrN f.fCode)) (j:Int)→inR f (j:Int)=true) (fun i=>f.fCode.length-i) 0 ?_ cv (Leads.has ZQ) ?_)))))))))))
 exact ⟨Nat.zero_le _,fun j hj=>by omega⟩
 rintro i ⟨hi,hs⟩
 try dsimp only
 refine Zh (Zh (Zi (Zo J (Zo J (Zv J J (Zx J J (Zn (Za (wC (fun h14=>?_) (fun h14=>?_))))))))))
 refine Zj (Za (Zh (Zk (Zh (Zi (Zo J (Zo J (ZR J J ZP ZO J J (fun g19 hg19=>?_)))))))))
 first | subst hg19 | (injection hg19 with hg19;injection hg19 with hg19;subst hg19)
 refine ZR1 J ZP ZO J (fun u20 hu20=>?_)
 refine Zo J (ZS (ZT 21) (fun h21=>?_) (fun h21=>?_))
 refine Zq J J (Zla ?_)
 refine Zq J J (Zo J (Zq J J ?_))
 (refine ZC0 rfl ZK (fun w hS=>frame hS ZQ (fun B' hB hS'=>ref18_In hS' f _ (kApiFunc.K_grow hB hf) (i:Int))) ?_;rintro ⟨⟩ -)
 refine Zq J J (Zno ?_)
 refine Zt J J (Zn (Za (wC (fun h26=>?_) (fun h26=>?_))))
 refine Zh (Zi (Zzb ?_))
 have ho:outR f:=⟨i,by omega,(h10b i).1 (by rw [hu20];simp_all),by simp_all⟩
 exact ⟨(),trivial,by unfold rangeF;rw [if_pos ho];rfl,Lh⟩
 refine Zj (Zze ?_)
 refine Zp J (Zn (Za ?_))
 exact ⟨rfl,i+1,⟨by omega,fun j hj hr=>by
 by_cases e:j=i
 · subst e;simp_all
 · exact hs j ZO hr⟩,by omega,cv,Lh⟩
 refine Zr J J J J (Zr J J J J (Zr J J J J (Zr J J J J (Zu J J (Zn (Za (wCondF J (Zj (Zze ?_)))))))))
 refine Zp J (Zn (Za ?_))
 exact ⟨rfl,i+1,⟨by omega,fun j hj hr=>by
 by_cases e:j=i
 · subst e;have:=(h10b j).2 hr;rw [hu20] at this;simp_all
 · exact hs j ZO hr⟩,by omega,cv,Lh⟩
 refine Zm (Zzg ?_)
 have ho:¬ outR f:=fun ⟨j,hj,hr,hb⟩=>by rw [hs j ZO hr] at hb;cases hb
 exact ⟨(),trivial,by unfold rangeF;rw [if_neg ho];rfl,Lh⟩
def dRelE (d:ApiData) (l:List ApiSymbol) (i:Nat) (x:ApiReloc):Int:=
  if d.fKind=0∨x.fAt<0∨(d.fWords.length:Int)≤x.fAt∨(0<i∧x.fAt≤(d.fRelocs.getD (i-1) default).fAt)∨x.fSym<0∨(l.length:Int)≤x.fSym then 11 else
  if (l.getD x.fSym.toNat default).fSort≠1∨(l.getD x.fSym.toNat default).fKind≠d.fKind-1 then 8 else 0
def relE (d:ApiData) (l:List ApiSymbol) (i:Nat):Int:=dRelE d l i (d.fRelocs.getD i default)
def dataF (d:ApiData) (l:List ApiSymbol):Int:=
  if textF d.fKind=ByteArray.empty then 8 else if 32<d.fWords.length then 6 else
  if d.fWords.any (fun w=>decide (d.fKind≠0∧w≠0)) then 2 else fstE ((List.range d.fRelocs.length).map (relE d l))
theorem relE_at {d:ApiData}{l:List ApiSymbol}{i:Nat}{x:ApiReloc}(h:d.fRelocs[i]?=some x):relE d l i=dRelE d l i x:=by
 unfold relE;rw [List.getD_eq_getElem?_getD,h];rfl
theorem any_not {α:Type}{p:α→Bool}{l:List α}(h:∀ y ∈ l,p y=false):l.any p=false:=List.any_eq_false.2 (fun y hy=>by rw [h y hy];simp)
theorem any_hit {α:Type}{p:α→Bool}{l:List α}{i:Nat}{x:α}(hi:l[i]?=some x) (h:p x=true):l.any p=true:=List.any_eq_true.2 ⟨x,List.mem_of_getElem? hi,h⟩
abbrev dWordP (d:ApiData) (w:Int):Bool:=decide (d.fKind≠0∧w≠0)
theorem ref15_Check {B:Base}{w:World}(hS:St B [] w) (d:ApiData) (dc:List Value) (hd:kApiData.K B.e d dc) (hk:in64 d.fKind) (hl2:d.fRelocs.length≤100000) (Al:Option Addr) (cl:Nat) (l:List ApiSymbol) (hC:kApiSymbol.C B.e Al l) :
 CW 73 #[.agg dc.toArray,.slice Al l.length cl] w (Ret B (fun _:Unit=>True) (fun _=>.int .i64 (dataF d l)) (fun _=>[])):=by
 obtain ⟨A0,c0,A1,c1,rfl,l0,g0,l1,g1⟩:=kApiData_open hd
 have hw1:=g0.1
 refine ZX Tryz.func73 hS ?_
 refine Zh (Zi (oBox J ZP (fun b2=>?_)))
 refine Zp J (Zn (Za (Zh (Zh (Zi (Zz (n:=0) (m:=0) J J J (Zld ?_)))))))
 (refine ZC0 rfl ZK (fun w hS=>frame hS ZQ (fun B' hB hS'=>ref5_Text hS' d.fKind hk)) ?_;rintro ⟨⟩ -)
 refine oSEq J J (Zn (Za (wC (fun h11=>?_) (fun h11=>?_))))
 have h11:textF d.fKind=ByteArray.empty:=h11
 refine Zh (Zi (Zzd ?_))
 exact ⟨(),trivial,by unfold dataF;rw [if_pos h11];rfl,Lh⟩
 have h11:¬ textF d.fKind=ByteArray.empty:=h11
 have hk0:0≤d.fKind:=(Classical.not_not.1 (fun h=>h11 (textF_no.2 h))).1
 refine Zj (Za (Zh (Zh (Zi (Zz (n:=1) (m:=1) J J J (Zld ?_))))))
 refine Zv J J (Z1 J J (Zn (Za (wC (fun h15=>?_) (fun h15=>?_)))))
 refine Zh (Zi (Zzd ?_))
 exact ⟨(),trivial,by unfold dataF;rw [if_neg h11,if_pos ZO];rfl,Lh⟩
 have hn32:¬ 32<d.fWords.length:=by omega
 refine Zj (Za (Zh (Zh (Zi (Zp J (Zn (Za (Zk (wLoop (ι:=Nat) (fun i=>[(1,.slice Al l.length cl),(2,.pointer (some ⟨b2,0,none⟩)),(5,.int .i64 (i:Int))]) (fun i=>[blk b2 62 [.int .i64 d.fKind,.slice A0 d.fWords.length c0,.slice A1 d.fRelocs.length c1]]) (fun i=>i≤d.fWords.length∧∀ y ∈ d.fWords.take i,dWordP d y=false) (fun i=>d.fWords.length-i) 0 ?_ cv (Leads.has ZQ) ?_)))))))))
 exact ⟨Nat.zero_le _,by simp⟩
 rintro i ⟨hi,hs⟩
 try dsimp only
 refine Zh (Zh (Zi (Zo J (Zz (n:=1) (m:=1) J J J (Zld ?_)))))
 refine Zv J J (Zx J J (Zn (Za (wC (fun h20=>?_) (fun h20=>?_)))))
 obtain ⟨x,hx⟩:∃ x,d.fWords[i]?=some x:=⟨_,List.getElem?_eq_getElem ZO⟩
 obtain ⟨e1,cs1,hE⟩:=g0.elm hx
 obtain rfl:=(show cs1=[Value.int .i64 x] from hE.K)
 refine Zj (Za (Zh (Zk (Zh (Zi (Zz (n:=0) (m:=0) J J J (Zld ?_)))))))
 refine Z0 J J (Zo J (ZS (ZT 26) (fun h26=>?_) (fun h26=>?_)))
 refine Zq J J (Zz (n:=1) (m:=1) J J J (Zzh ?_))
 refine Zq J J (Zo J (Zq J J (oIdxE J J (hE) ZO J J ?_)))
 have hc30:=(hE).cell
 refine Zq J J (Zlx hc30 ?_)
 refine Zq J J (Z0 J J (Zt J J (Zn (Za (wC (fun h33=>?_) (fun h33=>?_))))))
 refine Zh (Zi (Zzb ?_))
 exact ⟨(),trivial,by unfold dataF;rw [if_neg h11,if_neg hn32,if_pos (any_hit hx (decide_eq_true (by simp_all)))];rfl,Lh⟩
 refine Zj (Zze ?_)
 refine Zp J (Zn (Za ?_))
 exact ⟨rfl,i+1,⟨by omega,take_not hs hx (decide_eq_false (by simp_all))⟩,by omega,cv,Lh⟩
 refine Zr J J J J (Zr J J J J (Zr J J J J (Zr J J J J (Zr J J J J (Zr J J J J (Zu J J (Zn (Za (wCondF J (Zj (Zze ?_)))))))))))
 refine Zp J (Zn (Za ?_))
 exact ⟨rfl,i+1,⟨by omega,take_not hs hx (decide_eq_false (by simp_all))⟩,by omega,cv,Lh⟩
 obtain rfl:i=d.fWords.length:=by omega
 rw [List.take_length] at hs
 have hdF:dataF d l=fstE ((List.range d.fRelocs.length).map (relE d l)):=by unfold dataF;rw [if_neg h11,if_neg hn32,any_not hs];rfl
 refine Zm (Zb (Zb (Ze (Za (Zh (Zh (Zi (Zp J (Zn (Za (Zk (wLoop (ι:=Nat) (fun i=>[(1,.slice Al l.length cl),(2,.pointer (some ⟨b2,0,none⟩)),(6,.int .i64 (i:Int))]) (fun i=>[blk b2 62 [.int .i64 d.fKind,.slice A0 d.fWords.length c0,.slice A1 d.fRelocs.length c1]]) (fun i=>i≤d.fRelocs.length∧fstE (((List.range d.fRelocs.length).map (relE d l)).take i)=0) (fun i=>d.fRelocs.length-i) 0 ?_ cv (Leads.has ZQ) ?_))))))))))))
 exact ⟨Nat.zero_le _,rfl⟩
 rintro i ⟨hi,hs⟩
 try dsimp only
 refine Zh (Zh (Zi (Zo J (Zz (n:=2) (m:=2) J J J (Zld ?_)))))
 refine Zv J J (Zx J J (Zn (Za (wC (fun h38=>?_) (fun h38=>?_)))))
 obtain ⟨x,hx⟩:∃ x,d.fRelocs[i]?=some x:=⟨_,List.getElem?_eq_getElem ZO⟩
 obtain ⟨e1,cs1,hE⟩:=g1.elm hx
 obtain rfl:=kApiReloc_open hE.K
 have hre:((List.range d.fRelocs.length).map (relE d l))[i]?=some (relE d l i):=rmap_at ZO
 have hrx:=relE_at (l:=l) hx
 refine Zj (Za (Zh (Zk (Zh (Zi (Zz (n:=2) (m:=2) J J J (Zld ?_)))))))
 refine Zo J (oIdxE J J (hE) ZO J J ?_)
 have hc44:=(hE).cell
 refine Zlx hc44 ?_
 refine oAlloc J ZP (fun b7=>?_)
 refine Zsa ?_
 refine Zn (Za (Zh (Zh (wDraw2 J J [] [0,1,2,3,4,5,6,7,8,9,10,11,12,13,14,15,16,17,18,19,20,21,22,23,24,25,26,27,28,29,30,31,32,33,34,35,36,37,38,39,40,41,42] 43 ZK J J J (fun w0=>?_)))))
 refine Zz (n:=0) (m:=0) J J J (Zld ?_)
 refine Zy J J (Zo J (ZS (ZT 49) (fun h49=>?_) (fun h49=>?_)))
 refine Zr J J J J (Zzr ?_)
 refine Zr J J J J (Zr J J J J (Zt J J (Zo J (Zr J J J J (Zr J J J J (Zr J J J J (Zr J J J J (Zr J J J J (oHead (Zt J J (oNilT (Za (wCondT J (Zh (Zi (Zzi ?_))))))))))))))))
 exact ⟨(),trivial,by rw [hdF,fstE_stop hs hre (by rw [hrx];unfold dRelE;rw [if_pos (by first | omega | (rw [hy'];omega))];decide),hrx];unfold dRelE;rw [if_pos (by first | omega | (rw [hy'];omega))];rfl,Lh⟩
 refine Zq J J (Zz (n:=0) (m:=0) J J J (Zzh ?_))
 refine Zq J J (Zx J J (Zu J J (Zo J (ZS (ZT 54) (fun h54=>?_) (fun h54=>?_)))))
 refine Zr J J J J (Zzk ?_)
 refine Zr J J J J (Zr J J J J (Zr J J J J (Zr J J J J (oHead (Zt J J (oNilT (Za (wCondT J (Zh (Zi (Zzi ?_)))))))))))
 exact ⟨(),trivial,by rw [hdF,fstE_stop hs hre (by rw [hrx];unfold dRelE;rw [if_pos (by first | omega | (rw [hy'];omega))];decide),hrx];unfold dRelE;rw [if_pos (by first | omega | (rw [hy'];omega))];rfl,Lh⟩
 refine Zq J J (Zz (n:=0) (m:=0) J J J (Zzh ?_))
 refine Zq J J (Zz (n:=1) (m:=1) J J J (Zzh ?_))
 refine Zq J J (Zv J J (Zq J J (Z2 J J (Zu J J (Zo J (ZS (ZT 62) (fun h62=>?_) (fun h62=>?_)))))))
 refine Zr J J J J (Zr J J J J (Zr J J J J (Zs J J J (Zs J J J (Zs J J J (Zs J J J (Zs J J J (Zs J J J (Zs J J J (Zs J J J (Zs J J J (Zs J J J (Zr J J J J (Zt J J (Zo J (Zr J J J J (Zr J J J J (Zr J J J J (Zt J J (Zo J (Zr J J J J (Zr J J J J (Zr J J J J (Zr J J J J (Zr J J J J (oHead (Zt J J (oNilT (Za ?_)))))))))))))))))))))))))))))
 refine wCondT J (Zh (Zi (Zzi ?_)))
 exact ⟨(),trivial,by rw [hdF,fstE_stop hs hre (by rw [hrx];unfold dRelE;rw [if_pos (by first | omega | (rw [hy'];omega))];decide),hrx];unfold dRelE;rw [if_pos (by first | omega | (rw [hy'];omega))];rfl,Lh⟩
 refine Zq J J (Zo J (Zq J J (Z1 J J (Zq J J (Zo J (ZS (ZT 65) (fun h65=>?_) (fun h65=>?_)))))))
 obtain ⟨y,hy⟩:∃ y,d.fRelocs[i-1]?=some y:=⟨_,List.getElem?_eq_getElem ZO⟩
 obtain ⟨e3,cs3,hE3⟩:=g1.elm hy
 obtain rfl:=kApiReloc_open hE3.K
 have hy':(d.fRelocs.getD (i-1) default)=y:=by rw [List.getD_eq_getElem?_getD,hy];rfl
 refine Zq J J (Zz (n:=0) (m:=0) J J J (Zzh ?_))
 refine Zq J J (Zz (n:=2) (m:=2) J J J (Zzh ?_))
 refine Zq J J (Zo J (Zq J J (oSub J J ZO ?_)))
 refine ZS0 (t:=71) (v':=.int .i64 ((i-1:Nat):Int)) J (by congr 1;omega) ?_
 refine Zq J J (oIdxE J J (hE3) ZO J J ?_)
 have hc72:=(hE3).cell
 refine Zq J J (ZF (ZT 0) (ZT 0) ?_)
 refine Zq J J (Zlx hc72 ?_)
 refine Zq J J (oLeq J J (Zq J J (Zt J J (Zu J J (Zo J (ZS (ZT 78) (fun h78=>?_) (fun h78=>?_)))))))
 refine Zr J J J J (Zr J J J J (Zr J J J J (Zt J J (Zo J (Zr J J J J (Zr J J J J (Zr J J J J (Zr J J J J (Zr J J J J (oHead (Zt J J (oNilT (Za (wCondT J (Zh (Zi (Zzi ?_)))))))))))))))))
 exact ⟨(),trivial,by rw [hdF,fstE_stop hs hre (by rw [hrx];unfold dRelE;rw [if_pos (by first | omega | (rw [hy'];omega))];decide),hrx];unfold dRelE;rw [if_pos (by first | omega | (rw [hy'];omega))];rfl,Lh⟩
 refine Zq J J (Zz (n:=1) (m:=1) J J J (Zzh ?_))
 refine Zq J J (Zx J J (Zu J J (Zo J (ZS (ZT 83) (fun h83=>?_) (fun h83=>?_)))))
 refine Zr J J J J (Zr J J J J (Zr J J J J (Zr J J J J (Zr J J J J (oHead (Zt J J (oNilT (Za (wCondT J (Zh (Zi (Zzi ?_))))))))))))
 exact ⟨(),trivial,by rw [hdF,fstE_stop hs hre (by rw [hrx];unfold dRelE;rw [if_pos (by first | omega | (rw [hy'];omega))];decide),hrx];unfold dRelE;rw [if_pos (by first | omega | (rw [hy'];omega))];rfl,Lh⟩
 refine Zq J J (Zz (n:=1) (m:=1) J J J (Zzh ?_))
 refine Zq J J (Zo J (Zq J J (Zv J J (Zq J J (Z2 J J (oHead (Zu J J (oNilT (Za (wC (fun h89=>?_) (fun h89=>?_)))))))))))
 refine Zh (Zi (Zzi ?_))
 exact ⟨(),trivial,by rw [hdF,fstE_stop hs hre (by rw [hrx];unfold dRelE;rw [if_pos (by first | omega | (rw [hy'];omega))];decide),hrx];unfold dRelE;rw [if_pos (by first | omega | (rw [hy'];omega))];rfl,Lh⟩
 obtain ⟨s,hsm⟩:=Int.eq_ofNat_of_zero_le (show 0≤x.fSym by omega)
 obtain ⟨sy,hsy⟩:∃ sy,l[s]?=some sy:=⟨_,List.getElem?_eq_getElem ZO⟩
 obtain ⟨e4,cs4,hE4⟩:=hC.elm hsy
 obtain rfl:=kApiSymbol_open hE4.K
 have hlg:l.getD x.fSym.toNat default=sy:=by rw [hsm,Int.toNat_natCast,List.getD_eq_getElem?_getD,hsy];rfl
 refine Zj (Za (Zh (wDraw2 J J [0] [1,2,3,4,5,6,7,8,9,10,11,12,13,14,15,16,17] 18 ZK J J J (fun w0=>?_))))
 refine Zz (n:=1) (m:=1) J J J (Zld ?_)
 refine ZS0 (t:=92) (v':=.int .i64 (s:Int)) rfl (by rw [hsm]) ?_
 refine oIdxE J J (hE4) ZO J J ?_
 have hc93:=(hE4).cell
 refine ZF (ZT 2) (ZT 2) ?_
 refine Zlx hc93 ?_
 refine Z0 J J (Zo J (ZS (ZT 97) (fun h97=>?_) (fun h97=>?_)))
 refine Zr J J J J (Zr J J J J (Zr J J J J (Zr J J J J (Zr J J J J (Zr J J J J (Zr J J J J (Zr J J J J (Zr J J J J (Zr J J J J (oHead (Zt J J (oNilT (Za (wCondT J (Zh (Zi (Zzb ?_)))))))))))))))))
 exact ⟨(),trivial,by rw [hdF,fstE_stop hs hre (by rw [hrx];unfold dRelE;rw [if_neg (by first | omega | (rw [hy'];omega)),hlg,if_pos (by simp_all <;> omega)];decide),hrx];unfold dRelE;rw [if_neg (by first | omega | (rw [hy'];omega)),hlg,if_pos (by simp_all <;> omega)];rfl,Lh⟩
 refine Zq J J (Zo J (Zq J J (Zz (n:=1) (m:=1) J J J (Zzh ?_))))
 refine ZS0 (t:=100) (v':=.int .i64 (s:Int)) rfl (by rw [hsm]) ?_
 refine Zq J J (oIdxE J J (hE4) ZO J J ?_)
 have hc101:=(hE4).cell
 refine Zq J J (ZF (ZT 3) (ZT 3) ?_)
 refine Zq J J (Zlx hc101 ?_)
 refine Zq J J (Zz (n:=0) (m:=0) J J J (Zzh ?_))
 refine Zq J J ?_
 refine oSub J J (by unfold in64 at hk;omega) ?_
 refine Zq J J (Z0 J J (oHead (Zu J J (oNilT (Za (wC (fun h108=>?_) (fun h108=>?_)))))))
 refine Zh (Zi (Zzb ?_))
 exact ⟨(),trivial,by rw [hdF,fstE_stop hs hre (by rw [hrx];unfold dRelE;rw [if_neg (by first | omega | (rw [hy'];omega)),hlg,if_pos (by simp_all <;> omega)];decide),hrx];unfold dRelE;rw [if_neg (by first | omega | (rw [hy'];omega)),hlg,if_pos (by simp_all <;> omega)];rfl,Lh⟩
 refine Zj (Zze ?_)
 refine Zp J (Zn (Za ?_))
 exact ⟨rfl,i+1,⟨by omega,fstE_next hs hre (by rw [hrx];unfold dRelE;rw [if_neg (by first | omega | (rw [hy'];omega)),hlg,if_neg (by simp_all <;> omega)])⟩,by omega,cv,Lh⟩
 refine Zr J J J J (Zr J J J J (Zr J J J J (Zr J J J J (Zr J J J J (Zr J J J J (Zr J J J J (Zr J J J J (Zr J J J J (Zr J J J J (Zq J J (Zu J J (Zu J J (Zo J (Zq J J (Zz (n:=1) (m:=1) J J J (Zzh ?_))))))))))))))))
 refine Zq J J (Zx J J (Zu J J (Zo J (ZS (ZT 83) (fun h83=>?_) (fun h83=>?_)))))
 refine Zr J J J J (Zr J J J J (Zr J J J J (Zr J J J J (Zr J J J J (oHead (Zt J J (oNilT (Za (wCondT J (Zh (Zi (Zzi ?_))))))))))))
 exact ⟨(),trivial,by rw [hdF,fstE_stop hs hre (by rw [hrx];unfold dRelE;rw [if_pos (by first | omega | (rw [hy'];omega))];decide),hrx];unfold dRelE;rw [if_pos (by first | omega | (rw [hy'];omega))];rfl,Lh⟩
 refine Zq J J (Zz (n:=1) (m:=1) J J J (Zzh ?_))
 refine Zq J J (Zo J (Zq J J (Zv J J (Zq J J (Z2 J J (oHead (Zu J J (oNilT (Za (wC (fun h89=>?_) (fun h89=>?_)))))))))))
 refine Zh (Zi (Zzi ?_))
 exact ⟨(),trivial,by rw [hdF,fstE_stop hs hre (by rw [hrx];unfold dRelE;rw [if_pos (by first | omega | (rw [hy'];omega))];decide),hrx];unfold dRelE;rw [if_pos (by first | omega | (rw [hy'];omega))];rfl,Lh⟩
 obtain ⟨s,hsm⟩:=Int.eq_ofNat_of_zero_le (show 0≤x.fSym by omega)
 obtain ⟨sy,hsy⟩:∃ sy,l[s]?=some sy:=⟨_,List.getElem?_eq_getElem ZO⟩
 obtain ⟨e4,cs4,hE4⟩:=hC.elm hsy
 obtain rfl:=kApiSymbol_open hE4.K
 have hlg:l.getD x.fSym.toNat default=sy:=by rw [hsm,Int.toNat_natCast,List.getD_eq_getElem?_getD,hsy];rfl
 refine Zj (Za (Zh (wDraw2 J J [0] [1,2,3,4,5,6,7,8,9,10,11,12,13,14,15,16,17] 18 ZK J J J (fun w0=>?_))))
 refine Zz (n:=1) (m:=1) J J J (Zld ?_)
 refine ZS0 (t:=92) (v':=.int .i64 (s:Int)) rfl (by rw [hsm]) ?_
 refine oIdxE J J (hE4) ZO J J ?_
 have hc93:=(hE4).cell
 refine ZF (ZT 2) (ZT 2) ?_
 refine Zlx hc93 ?_
 refine Z0 J J (Zo J (ZS (ZT 97) (fun h97=>?_) (fun h97=>?_)))
 refine Zr J J J J (Zr J J J J (Zr J J J J (Zr J J J J (Zr J J J J (Zr J J J J (Zr J J J J (Zr J J J J (Zr J J J J (Zr J J J J (oHead (Zt J J (oNilT (Za (wCondT J (Zh (Zi (Zzb ?_)))))))))))))))))
 exact ⟨(),trivial,by rw [hdF,fstE_stop hs hre (by rw [hrx];unfold dRelE;rw [if_neg (by first | omega | (rw [hy'];omega)),hlg,if_pos (by simp_all <;> omega)];decide),hrx];unfold dRelE;rw [if_neg (by first | omega | (rw [hy'];omega)),hlg,if_pos (by simp_all <;> omega)];rfl,Lh⟩
 refine Zq J J (Zo J (Zq J J (Zz (n:=1) (m:=1) J J J (Zzh ?_))))
 refine ZS0 (t:=100) (v':=.int .i64 (s:Int)) rfl (by rw [hsm]) ?_
 refine Zq J J (oIdxE J J (hE4) ZO J J ?_)
 have hc101:=(hE4).cell
 refine Zq J J (ZF (ZT 3) (ZT 3) ?_)
 refine Zq J J (Zlx hc101 ?_)
 refine Zq J J (Zz (n:=0) (m:=0) J J J (Zzh ?_))
 refine Zq J J ?_
 refine oSub J J (by unfold in64 at hk;omega) ?_
 refine Zq J J (Z0 J J (oHead (Zu J J (oNilT (Za (wC (fun h108=>?_) (fun h108=>?_)))))))
 refine Zh (Zi (Zzb ?_))
 exact ⟨(),trivial,by rw [hdF,fstE_stop hs hre (by rw [hrx];unfold dRelE;rw [if_neg (by first | omega | (rw [hy'];omega)),hlg,if_pos (by simp_all <;> omega)];decide),hrx];unfold dRelE;rw [if_neg (by first | omega | (rw [hy'];omega)),hlg,if_pos (by simp_all <;> omega)];rfl,Lh⟩
 refine Zj (Zze ?_)
 refine Zp J (Zn (Za ?_))
 exact ⟨rfl,i+1,⟨by omega,fstE_next hs hre (by rw [hrx];unfold dRelE;rw [if_neg (by first | omega | (rw [hy'];omega)),hlg,if_neg (by simp_all <;> omega)])⟩,by omega,cv,Lh⟩
 refine Zm (Zzg ?_)
 obtain rfl:i=d.fRelocs.length:=by omega
 rw [rmap_all] at hs
 exact ⟨(),trivial,by rw [hdF,hs];rfl,Lh⟩
structure GoodO (o:ApiObject):Prop where
  v:vApiObject o
  syms:o.fSymbols.length≤60
  funcs:o.fFuncs.length≤20
  datas:o.fDatas.length≤20
  fun_:∀ f ∈ o.fFuncs,f.fKinds.length≤100∧f.fLines.length≤100∧f.fCode.length≤100∧f.fRelocs.length≤100
  data:∀ d ∈ o.fDatas,d.fWords.length≤100∧d.fRelocs.length≤100
theorem FewO.one {l:List ApiObject}(h:FewO l) (hv:∀ o ∈ l,vApiObject o) {o:ApiObject}(ho:o ∈ l):GoodO o:=⟨hv o ho,h.syms o ho,h.funcs o ho,h.datas o ho,h.fun_ o ho,h.data o ho⟩
def itemsF (o:ApiObject):Int:=(o.fFuncs.length:Int)+(o.fDatas.length:Int)
def definesF (o:ApiObject) (item:Int) (x:ApiSymbol):Bool:=if item<0∨itemsF o≤item then false else if item<(o.fFuncs.length:Int) then decide (x.fSort=1) && decide (x.fDef=item) else decide (x.fSort=2) && decide (x.fDef=item-(o.fFuncs.length:Int))
def definerF (o:ApiObject) (item:Int):Int:=idxI (definesF o item) o.fSymbols
theorem ref19_Items {B:Base}{w:World}(hS:St B [] w) (o:ApiObject) (oc:List Value) (ho:kApiObject.K B.e o oc) (hg:GoodO o) :
 CW 13 #[.agg oc.toArray] w (Ret B (fun _:Unit=>True) (fun _=>.int .i64 (itemsF o)) (fun _=>[])):=by
 obtain ⟨A0,c0,A1,c1,A2,c2,rfl,m0,q0,m1,q1,m2,q2⟩:=kApiObject_open ho
 have hn1:=hg.funcs
 have hn2:=hg.datas
 refine ZX Tryz.func13 hS ?_
 refine Zh (Zi (oBox J ZP (fun b1=>?_)))
 refine Zp J (Zn (Za (Zh (Zi (Zz (n:=1) (m:=1) J J J (Zld ?_))))))
 refine Zv J J (Zz (n:=2) (m:=2) J J J (Zld ?_))
 refine Zv J J ?_
 first | refine oAdd rfl rfl ZO ?_ | refine oAddW rfl rfl ?_
 refine Zp J (Zzj ?_)
 exact ⟨(),trivial,rfl,Lh⟩
theorem ref19_defines {B:Base}{w:World}(hS:St B [] w) (o:ApiObject) (oc:List Value) (ho:kApiObject.K B.e o oc) (hg:GoodO o) (x:ApiSymbol) (xc:List Value) (hx:kApiSymbol.K B.e x xc) (item:Int) :
 CW 38 #[.agg oc.toArray,.agg xc.toArray,.int .i64 item] w (Ret B (fun _:Unit=>True) (fun _=>.bool (definesF o item x)) (fun _=>[])):=by
 obtain ⟨A0,c0,A1,c1,A2,c2,rfl,m0,q0,m1,q1,m2,q2⟩:=kApiObject_open ho
 obtain rfl:=kApiSymbol_open hx
 have hn1:=hg.funcs
 have hn2:=hg.datas
 have hit:itemsF o=(o.fFuncs.length:Int)+(o.fDatas.length:Int):=rfl
 refine ZX Tryz.func38 hS ?_
 refine Zh (Zi (oBox J ZP (fun b3=>?_)))
 refine oBox J ZP (fun b4=>?_)
 refine Zp J (Zn (Za (Zh (Zh (Zi (Zo J (Zx J J (Zo J (ZS (ZT 9) (fun h9=>?_) (fun h9=>?_))))))))))
 refine Zr J J J J (Zr J J J J (Zr J J J J (Zr J J J J (Zt J J (Zn (Za (wCondT J (Zh (Zi (Zzd ?_))))))))))
 exact ⟨(),trivial,by unfold definesF;rw [if_pos ZO];rfl,Lh⟩
 refine Zq J J (Zo J (Zq J J (Zla ?_)))
 refine Zq J J ?_
 (refine ZC0 rfl ZK (fun w hS=>frame hS ZQ (fun B' hB hS'=>ref19_Items hS' o _ (kApiObject.K_grow hB ho) hg)) ?_;rintro ⟨⟩ -)
 refine Zq J J (Z2 J J (Zu J J (Zn (Za (wC (fun h14=>?_) (fun h14=>?_))))))
 refine Zh (Zi (Zzd ?_))
 exact ⟨(),trivial,by unfold definesF;rw [if_pos ZO];rfl,Lh⟩
 refine Zj (Za (Zh (Zh (Zi (Zo J (Zz (n:=1) (m:=1) J J J (Zld ?_)))))))
 refine Zv J J (Zx J J (Zn (Za (wC (fun h19=>?_) (fun h19=>?_)))))
 refine Zh (Zi (Zz (n:=2) (m:=2) J J J (Zld ?_)))
 refine Zy J J (Zo J (ZS (ZT 23) (fun h23=>?_) (fun h23=>?_)))
 refine Zq J J (Zz (n:=4) (m:=4) J J J (Zzh ?_))
 refine Zq J J (Zo J (Zq J J (Zy J J (Zt J J (Zzd ?_)))))
 exact ⟨(),trivial,by unfold definesF;rw [if_neg ZO,if_pos ZO];simp [resVal,h23],Lh⟩
 refine Zr J J J J (Zr J J J J (Zr J J J J (Zr J J J J (Zu J J (Zzd ?_)))))
 exact ⟨(),trivial,by unfold definesF;rw [if_neg ZO,if_pos ZO];simp [resVal,h23],Lh⟩
 refine Zj (Za (Zh (Zi (Zz (n:=2) (m:=2) J J J (Zld ?_)))))
 refine Zy J J (Zo J (ZS (ZT 32) (fun h32=>?_) (fun h32=>?_)))
 refine Zq J J (Zz (n:=4) (m:=4) J J J (Zzh ?_))
 refine Zq J J (Zo J (Zq J J (Zz (n:=1) (m:=1) J J J (Zzh ?_))))
 refine Zq J J (Zv J J (Zq J J (oSub J J ZO ?_)))
 refine Zq J J (Zy J J (Zt J J (Zza ?_)))
 exact ⟨(),trivial,by unfold definesF;rw [if_neg ZO,if_neg ZO];simp [resVal,h32],Lh⟩
 refine Zr J J J J (Zr J J J J (Zr J J J J (Zr J J J J (Zr J J J J (Zzp ?_)))))
 exact ⟨(),trivial,by unfold definesF;rw [if_neg ZO,if_neg ZO];simp [resVal,h32],Lh⟩
theorem ref19_Definer {B:Base}{w:World}(hS:St B [] w) (o:ApiObject) (oc:List Value) (ho:kApiObject.K B.e o oc) (hg:GoodO o) (item:Int) :
 CW 15 #[.agg oc.toArray,.int .i64 item] w (Ret B (fun _:Unit=>True) (fun _=>.int .i64 (definerF o item)) (fun _=>[])):=by
 obtain ⟨A0,c0,A1,c1,A2,c2,rfl,m0,q0,m1,q1,m2,q2⟩:=kApiObject_open ho
 have hn0:=hg.syms
 refine ZX Tryz.func15 hS ?_
 refine Zh (Zi (oBox J ZP (fun b2=>?_)))
 refine Zp J (Zn (Za (Zh (Zh (Zi (Zp J (Zn (Za (Zk (wLoop (ι:=Nat) (fun i=>[(1,.int .i64 item),(2,.pointer (some ⟨b2,0,none⟩)),(5,.int .i64 (i:Int))]) (fun i=>[blk b2 26 [.slice A0 o.fSymbols.length c0,.slice A1 o.fFuncs.length c1,.slice A2 o.fDatas.length c2]]) (fun i=>i≤o.fSymbols.length∧∀ y ∈ o.fSymbols.take i,definesF o item y=false) (fun i=>o.fSymbols.length-i) 0 ?_ cv (Leads.has ZQ) ?_))))))))))
 exact ⟨Nat.zero_le _,by simp⟩
 rintro i ⟨hi,hs⟩
 try dsimp only
 refine Zh (Zh (Zi (Zo J (Zz (n:=0) (m:=0) J J J (Zld ?_)))))
 refine Zv J J (Zx J J (Zn (Za (wC (fun h10=>?_) (fun h10=>?_)))))
 obtain ⟨x,hx⟩:∃ x,o.fSymbols[i]?=some x:=⟨_,List.getElem?_eq_getElem ZO⟩
 obtain ⟨e1,cs1,hE⟩:=q0.elm hx
 obtain rfl:=kApiSymbol_open hE.K
 refine Zj (Za (Zh (Zk (Zh (wDraw2 J J [3,6] [0,1,2,4,5] 7 ZK J J J (fun w0=>?_))))))
 refine Zla ?_
 refine Zz (n:=0) (m:=0) J J J (Zld ?_)
 refine oIdxE J J (hE) ZO J J ?_
 have hc17:=(hE).cell
 refine Zlx hc17 ?_
 refine oHead ?_
 (refine ZC0 rfl ZK (fun w hS=>frame hS ZQ (fun B' hB hS'=>ref19_defines hS' o _ (kApiObject.K_grow hB ho) hg x _ (kApiSymbol_mk _ x) item)) ?_;rintro ⟨⟩ -)
 refine oNilT (Za (wC (fun h20=>?_) (fun h20=>?_)))
 refine Zh (Zi (Zo J (Zzb ?_)))
 exact ⟨(),trivial,by unfold definerF;rw [idxI_stop hs hx h20];rfl,Lh⟩
 refine Zj (Zze ?_)
 refine Zp J (Zn (Za ?_))
 exact ⟨rfl,i+1,⟨by omega,take_not hs hx h20⟩,by omega,cv,Lh⟩
 refine Zm (Zzg ?_)
 obtain rfl:i=o.fSymbols.length:=by omega
 rw [List.take_length] at hs
 exact ⟨(),trivial,by unfold definerF;rw [idxI_none hs];rfl,Lh⟩
def kindB (x:ApiSymbol):Bool:=(decide (x.fSort≠1) && decide (x.fSort≠2)) || (decide (x.fSort=1) && !isC x.fKind) || (decide (x.fSort=2) && decide (textF x.fKind=ByteArray.empty))
def nameP (x y:ApiSymbol):Bool:=decide (y.fName=x.fName)
def aheadP (x y:ApiSymbol):Bool:=decide (y.fSort=x.fSort) && decide (y.fDef≠-1)
def aheadN (x:ApiSymbol) (l:List ApiSymbol):Nat:=(l.filter (aheadP x)).length
def mostN (o:ApiObject) (x:ApiSymbol):Nat:=if x.fSort=2 then o.fDatas.length else o.fFuncs.length
def symX (o:ApiObject) (i:Nat) (x:ApiSymbol):Int:=
  if nameF4 x.fName≠0 then nameF4 x.fName else if kindB x=true then 8 else if (o.fSymbols.take i).any (nameP x)=true then 12 else
  if x.fDef≠-1∧(x.fDef≠(aheadN x (o.fSymbols.take i):Int)∨(mostN o x:Int)≤x.fDef) then 9 else if x.fLocal=true∧x.fDef = -1 then 13 else 0
def symE (o:ApiObject) (i:Nat):Int:=symX o i (o.fSymbols.getD i default)
theorem symE_at {o:ApiObject}{i:Nat}{x:ApiSymbol}(h:o.fSymbols[i]?=some x):symE o i=symX o i x:=by unfold symE;rw [List.getD_eq_getElem?_getD,h];rfl
theorem ahead_succ (x:ApiSymbol) {l:List ApiSymbol}{k:Nat}{y:ApiSymbol}(h:l[k]?=some y):aheadN x (l.take (k+1))=aheadN x (l.take k)+(if aheadP x y=true then 1 else 0):=by
 unfold aheadN
 rw [List.take_add_one,h,List.filter_append,List.length_append]
 congr 1
 show ((List.filter (aheadP x) [y]).length)=_
 rw [List.filter_cons]
 split <;> simp
theorem ahead_le (x:ApiSymbol) (l:List ApiSymbol):aheadN x l≤l.length:=List.length_filter_le _ _
theorem ref19_symbol {B:Base}{w:World}(hS:St B [] w) (o:ApiObject) (oc:List Value) (ho:kApiObject.K B.e o oc) (hg:GoodO o) (i:Nat) (hi:i<o.fSymbols.length) :
 CW 33 #[.agg oc.toArray,.int .i64 (i:Int)] w (Ret B (fun _:Unit=>True) (fun _=>.int .i64 (symE o i)) (fun _=>[])):=by
 obtain ⟨A0,c0,A1,c1,A2,c2,rfl,m0,q0,m1,q1,m2,q2⟩:=kApiObject_open ho
 have hn0:=hg.syms
 have hn1:=hg.funcs
 have hn2:=hg.datas
 obtain ⟨x,hx⟩:∃ x,o.fSymbols[i]?=some x:=⟨_,List.getElem?_eq_getElem hi⟩
 have hvx:=(hg.v.1.2 x (List.mem_of_getElem? hx))
 obtain ⟨e1,cs1,hE⟩:=q0.elm hx
 obtain rfl:=kApiSymbol_open hE.K
 rw [symE_at hx]
 refine ZX Tryz.func33 hS ?_
 refine Zh (Zi (oBox J ZP (fun b2=>?_)))
 refine Zp J (Zn (Za (Zh (Zi (Zz (n:=0) (m:=0) J J J (Zld ?_))))))
 refine Zo J (oIdxE J J (hE) ZO J J ?_)
 have hc14:=(hE).cell
 refine Zlx hc14 ?_
 refine oAlloc J ZP (fun b5=>?_)
 refine Zsa ?_
 refine Zn (Za (Zh (Zh (Zi (Zz (n:=0) (m:=0) J J J (Zld ?_))))))
 (refine ZC0 rfl ZK (fun w hS=>frame hS ZQ (fun B' hB hS'=>ref4_Check hS' x.fName)) ?_;rintro ⟨⟩ -)
 refine Zp J (Zn (Za (Zh (Zi (Zo J (Z0 J J (Zn (Za (wC (fun h20=>?_) (fun h20=>?_))))))))))
 refine Zh (Zi (Zo J (Zzd ?_)))
 exact ⟨(),trivial,by unfold symX;rw [if_pos h20];rfl,Lh⟩
 refine Zj (Za (Zh (wCut (ι:=Unit) (fun _=>[(1,.int .i64 (i:Int)),(2,.pointer (some ⟨b2,0,none⟩)),(5,.pointer (some ⟨b5,0,none⟩)),(51,.bool (kindB x))]) (fun _=>[blk b2 26 [.slice A0 o.fSymbols.length c0,.slice A1 o.fFuncs.length c1,.slice A2 o.fDatas.length c2],blk b5 37 [.string x.fName,.bool x.fLocal,.int .i64 x.fSort,.int .i64 x.fKind,.int .i64 x.fDef]]) (fun _=>True) ?_ ?_)))
 refine Zi (Zz (n:=2) (m:=2) J J J (Zld ?_))
 refine Z0 J J (Zo J (ZS (ZT 25) (fun h25=>?_) (fun h25=>?_)))
 refine Zq J J (Zz (n:=2) (m:=2) J J J (Zzh ?_))
 refine Zq J J (Z0 J J (Zt J J (Zo J (ZS (ZT 30) (fun h30=>?_) (fun h30=>?_)))))
 refine Zr J J J J (Zr J J J J (Zr J J J J (Zr J J J J (Zs J J J (Zs J J J (Zs J J J (Zs J J J (Zr J J J J (Zt J J (Zo J (Zr J J J J (Zr J J J J (Zr J J J J (Zr J J J J (Zs J J J (Zs J J J (Zs J J J (Zs J J J (Zr J J J J (Zt J J (Zn (Za ?_))))))))))))))))))))))
 exact ⟨rfl,(),trivial,(by refine ⟨rfl,rfl,rfl,?_,trivial⟩;show some (Value.bool _)=some (Value.bool _);unfold kindB;simp_all <;> first | done | exact Iff.rfl | rfl),Lh⟩
 refine Zq J J (Zz (n:=2) (m:=2) J J J (Zzh ?_))
 refine Zq J J (Zy J J (Zq J J (Zo J (ZS (ZT 34) (fun h34=>?_) (fun h34=>?_)))))
 refine Zq J J (Zz (n:=3) (m:=3) J J J (Zzh ?_))
 refine Zq J J ?_
 (refine ZC0 rfl ZK (fun w hS=>frame hS ZQ (fun B' hB hS'=>ref5_Is hS' x.fKind)) ?_;rintro ⟨⟩ -)
 refine Zq J J (Zno ?_)
 refine Zq J J (Zt J J (Zu J J (Zo J (ZS (ZT 41) (fun h41=>?_) (fun h41=>?_)))))
 refine Zr J J J J (Zr J J J J (Zr J J J J (Zr J J J J (Zs J J J (Zs J J J (Zs J J J (Zs J J J (Zr J J J J (Zt J J (Zn (Za ?_)))))))))))
 exact ⟨rfl,(),trivial,(by refine ⟨rfl,rfl,rfl,?_,trivial⟩;show some (Value.bool _)=some (Value.bool _);unfold kindB;simp_all <;> first | done | exact Iff.rfl | rfl),Lh⟩
 refine Zq J J (Zz (n:=2) (m:=2) J J J (Zzh ?_))
 refine Zq J J (Zy J J (Zq J J (Zo J (ZS (ZT 45) (fun h45=>?_) (fun h45=>?_)))))
 refine Zq J J (Zz (n:=3) (m:=3) J J J (Zzh ?_))
 refine Zq J J ?_
 (refine ZC0 rfl ZK (fun w hS=>frame hS ZQ (fun B' hB hS'=>ref5_Text hS' x.fKind hvx.2.2.2.1)) ?_;rintro ⟨⟩ -)
 refine Zq J J (oSEq J J (Zq J J (Zt J J (Zu J J (Zn (Za ?_))))))
 exact ⟨rfl,(),trivial,(by refine ⟨rfl,rfl,rfl,?_,trivial⟩;show some (Value.bool _)=some (Value.bool _);unfold kindB;simp_all <;> first | done | exact Iff.rfl | rfl),Lh⟩
 refine Zr J J J J (Zr J J J J (Zr J J J J (Zr J J J J (Zq J J (Zu J J (Zu J J (Zn (Za ?_))))))))
 exact ⟨rfl,(),trivial,(by refine ⟨rfl,rfl,rfl,?_,trivial⟩;show some (Value.bool _)=some (Value.bool _);unfold kindB;simp_all <;> first | done | exact Iff.rfl | rfl),Lh⟩
 refine Zr J J J J (Zr J J J J (Zr J J J J (Zr J J J J (Zq J J (Zu J J (Zu J J (Zo J (Zq J J (Zz (n:=2) (m:=2) J J J (Zzh ?_))))))))))
 refine Zq J J (Zy J J (Zq J J (Zo J (ZS (ZT 45) (fun h45=>?_) (fun h45=>?_)))))
 refine Zq J J (Zz (n:=3) (m:=3) J J J (Zzh ?_))
 refine Zq J J ?_
 (refine ZC0 rfl ZK (fun w hS=>frame hS ZQ (fun B' hB hS'=>ref5_Text hS' x.fKind hvx.2.2.2.1)) ?_;rintro ⟨⟩ -)
 refine Zq J J (oSEq J J (Zq J J (Zt J J (Zu J J (Zn (Za ?_))))))
 exact ⟨rfl,(),trivial,(by refine ⟨rfl,rfl,rfl,?_,trivial⟩;show some (Value.bool _)=some (Value.bool _);unfold kindB;simp_all <;> first | done | exact Iff.rfl | rfl),Lh⟩
 refine Zr J J J J (Zr J J J J (Zr J J J J (Zr J J J J (Zq J J (Zu J J (Zu J J (Zn (Za ?_))))))))
 exact ⟨rfl,(),trivial,(by refine ⟨rfl,rfl,rfl,?_,trivial⟩;show some (Value.bool _)=some (Value.bool _);unfold kindB;simp_all <;> first | done | exact Iff.rfl | rfl),Lh⟩
 refine Zr J J J J (Zr J J J J (Zr J J J J (Zu J J (Zo J (Zq J J (Zz (n:=2) (m:=2) J J J (Zzh ?_)))))))
 refine Zq J J (Zy J J (Zq J J (Zo J (ZS (ZT 34) (fun h34=>?_) (fun h34=>?_)))))
 refine Zq J J (Zz (n:=3) (m:=3) J J J (Zzh ?_))
 refine Zq J J ?_
 (refine ZC0 rfl ZK (fun w hS=>frame hS ZQ (fun B' hB hS'=>ref5_Is hS' x.fKind)) ?_;rintro ⟨⟩ -)
 refine Zq J J (Zno ?_)
 refine Zq J J (Zt J J (Zu J J (Zo J (ZS (ZT 41) (fun h41=>?_) (fun h41=>?_)))))
 refine Zr J J J J (Zr J J J J (Zr J J J J (Zr J J J J (Zs J J J (Zs J J J (Zs J J J (Zs J J J (Zr J J J J (Zt J J (Zn (Za ?_)))))))))))
 exact ⟨rfl,(),trivial,(by refine ⟨rfl,rfl,rfl,?_,trivial⟩;show some (Value.bool _)=some (Value.bool _);unfold kindB;simp_all <;> first | done | exact Iff.rfl | rfl),Lh⟩
 refine Zq J J (Zz (n:=2) (m:=2) J J J (Zzh ?_))
 refine Zq J J (Zy J J (Zq J J (Zo J (ZS (ZT 45) (fun h45=>?_) (fun h45=>?_)))))
 refine Zq J J (Zz (n:=3) (m:=3) J J J (Zzh ?_))
 refine Zq J J ?_
 (refine ZC0 rfl ZK (fun w hS=>frame hS ZQ (fun B' hB hS'=>ref5_Text hS' x.fKind hvx.2.2.2.1)) ?_;rintro ⟨⟩ -)
 refine Zq J J (oSEq J J (Zq J J (Zt J J (Zu J J (Zn (Za ?_))))))
 exact ⟨rfl,(),trivial,(by refine ⟨rfl,rfl,rfl,?_,trivial⟩;show some (Value.bool _)=some (Value.bool _);unfold kindB;simp_all <;> first | done | exact Iff.rfl | rfl),Lh⟩
 refine Zr J J J J (Zr J J J J (Zr J J J J (Zr J J J J (Zq J J (Zu J J (Zu J J (Zn (Za ?_))))))))
 exact ⟨rfl,(),trivial,(by refine ⟨rfl,rfl,rfl,?_,trivial⟩;show some (Value.bool _)=some (Value.bool _);unfold kindB;simp_all <;> first | done | exact Iff.rfl | rfl),Lh⟩
 refine Zr J J J J (Zr J J J J (Zr J J J J (Zr J J J J (Zq J J (Zu J J (Zu J J (Zo J (Zq J J (Zz (n:=2) (m:=2) J J J (Zzh ?_))))))))))
 refine Zq J J (Zy J J (Zq J J (Zo J (ZS (ZT 45) (fun h45=>?_) (fun h45=>?_)))))
 refine Zq J J (Zz (n:=3) (m:=3) J J J (Zzh ?_))
 refine Zq J J ?_
 (refine ZC0 rfl ZK (fun w hS=>frame hS ZQ (fun B' hB hS'=>ref5_Text hS' x.fKind hvx.2.2.2.1)) ?_;rintro ⟨⟩ -)
 refine Zq J J (oSEq J J (Zq J J (Zt J J (Zu J J (Zn (Za ?_))))))
 exact ⟨rfl,(),trivial,(by refine ⟨rfl,rfl,rfl,?_,trivial⟩;show some (Value.bool _)=some (Value.bool _);unfold kindB;simp_all <;> first | done | exact Iff.rfl | rfl),Lh⟩
 refine Zr J J J J (Zr J J J J (Zr J J J J (Zr J J J J (Zq J J (Zu J J (Zu J J (Zn (Za ?_))))))))
 exact ⟨rfl,(),trivial,(by refine ⟨rfl,rfl,rfl,?_,trivial⟩;show some (Value.bool _)=some (Value.bool _);unfold kindB;simp_all <;> first | done | exact Iff.rfl | rfl),Lh⟩
 rintro ⟨⟩ -
 try dsimp only
 refine wC (fun h51=>?_) (fun h51=>?_)
 refine Zh (Zi (Zzd ?_))
 exact ⟨(),trivial,by unfold symX;rw [if_neg h20,if_pos h51];rfl,Lh⟩
 have hkb:¬ kindB x=true:=by rw [h51];simp
 refine Zj (Za (Zh (Zh (Zi (Zp J (Zn (Za (Zk (wLoop (ι:=Nat) (fun k=>[(1,.int .i64 (i:Int)),(2,.pointer (some ⟨b2,0,none⟩)),(5,.pointer (some ⟨b5,0,none⟩)),(7,.int .i64 (k:Int))]) (fun k=>[blk b2 26 [.slice A0 o.fSymbols.length c0,.slice A1 o.fFuncs.length c1,.slice A2 o.fDatas.length c2],blk b5 37 [.string x.fName,.bool x.fLocal,.int .i64 x.fSort,.int .i64 x.fKind,.int .i64 x.fDef]]) (fun k=>k≤i∧∀ y ∈ o.fSymbols.take k,nameP x y=false) (fun k=>i-k) 0 ?_ cv (Leads.has ZQ) ?_)))))))))
 exact ⟨Nat.zero_le _,by simp⟩
 rintro k ⟨hk,hs⟩
 try dsimp only
 refine Zh (Zh (Zi (Zo J (Zo J (Zx J J (Zn (Za (wC (fun h54=>?_) (fun h54=>?_)))))))))
 obtain ⟨y,hy⟩:∃ y,o.fSymbols[k]?=some y:=⟨_,List.getElem?_eq_getElem ZO⟩
 have hyi:(o.fSymbols.take i)[k]?=some y:=by rw [List.getElem?_take,if_pos ZO,hy]
 obtain ⟨e2,cs2,hE2⟩:=q0.elm hy
 obtain rfl:=kApiSymbol_open hE2.K
 refine Zj (Za (Zh (Zk (Zh (wDraw2 J J [2] [0,1,3,4,5,6,7] 8 ZK J J J (fun w0=>?_))))))
 refine Zz (n:=0) (m:=0) J J J (Zld ?_)
 refine oIdxE J J (hE2) ZO J J ?_
 have hc60:=(hE2).cell
 refine ZF (ZT 0) (ZT 0) ?_
 refine Zlx hc60 ?_
 refine Zz (n:=0) (m:=0) J J J (Zld ?_)
 refine oHead (oSEq J J (oNilT (Za (wC (fun h65=>?_) (fun h65=>?_)))))
 refine Zh (Zi (Zzb ?_))
 exact ⟨(),trivial,by unfold symX;rw [if_neg h20,if_neg hkb,if_pos (any_hit hyi (decide_eq_true h65))];rfl,Lh⟩
 refine Zj (Zze ?_)
 refine Zp J (Zn (Za ?_))
 exact ⟨rfl,k+1,⟨by omega,take_not hs hy (decide_eq_false h65)⟩,by omega,cv,Lh⟩
 obtain rfl:i=k:=by omega
 refine Zm (Zb (Zb (Ze (Za (Zh (Zi (Zz (n:=1) (m:=1) J J J (Zld ?_))))))))
 refine Zv J J (Zp J (Zn (Za (Zh (Zh (Zi (Zz (n:=2) (m:=2) J J J (Zld ?_))))))))
 refine Zy J J (Zn (Za (wC (fun h71=>?_) (fun h71=>?_))))
 have hmo:mostN o x=o.fDatas.length:=by unfold mostN;rw [if_pos ZO]
 refine Zi (Zz (n:=2) (m:=2) J J J (Zld ?_))
 refine Zv rfl rfl (Zp rfl (Zn (Za (Zh (Zi (Zp rfl (ZS0 (t:=8) (v':=.int .i64 (mostN o x:Int)) rfl (by rw [hmo]) ?_)))))))
 refine Zn (Za (Zh (Zh (Zi (Zp J (Zn (Za (Zk ?_))))))))
 refine wLoop (ι:=Nat) (fun k=>[(1,.int .i64 (i:Int)),(2,.pointer (some ⟨b2,0,none⟩)),(5,.pointer (some ⟨b5,0,none⟩)),(8,.int .i64 (mostN o x:Int)),(9,.int .i64 (aheadN x (o.fSymbols.take k):Int)),(10,.int .i64 (k:Int))]) (fun k=>[blk b2 26 [.slice A0 o.fSymbols.length c0,.slice A1 o.fFuncs.length c1,.slice A2 o.fDatas.length c2],blk b5 37 [.string x.fName,.bool x.fLocal,.int .i64 x.fSort,.int .i64 x.fKind,.int .i64 x.fDef]]) (fun k=>k≤i) (fun k=>i-k) 0 ?_ cv (by skip;exact Lh) ?_
 exact Nat.zero_le _
 rintro k hk
 have hle:=ahead_le x (o.fSymbols.take k)
 rw [List.length_take] at hle
 try dsimp only
 refine Zh (Zh (Zi (Zo J (Zo J (Zx J J (Zn (Za (wC (fun h77=>?_) (fun h77=>?_)))))))))
 obtain ⟨y,hy⟩:∃ y,o.fSymbols[k]?=some y:=⟨_,List.getElem?_eq_getElem ZO⟩
 obtain ⟨e2,cs2,hE2⟩:=q0.elm hy
 obtain rfl:=kApiSymbol_open hE2.K
 refine Zj (Za (Zh (Zk (Zh (wDraw2 J J [2] [0,1,3,4,5,6,7,8,9,10,11,12,13,14,15,16] 17 ZK J J J (fun w0=>?_))))))
 refine Zz (n:=0) (m:=0) J J J (Zld ?_)
 refine oIdxE J J (hE2) ZO J J ?_
 have hc83:=(hE2).cell
 refine ZF (ZT 2) (ZT 2) ?_
 refine Zlx hc83 ?_
 refine Zz (n:=2) (m:=2) J J J (Zld ?_)
 refine Zy J J (Zo J (ZS (ZT 89) (fun h89=>?_) (fun h89=>?_)))
 refine Zq J J (Zz (n:=0) (m:=0) J J J (Zzh ?_))
 refine Zq J J (Zo J (Zq J J (oIdxE J J (hE2) ZO J J ?_)))
 have hc93:=(hE2).cell
 refine Zq J J (ZF (ZT 4) (ZT 4) ?_)
 refine Zq J J (Zlx hc93 ?_)
 refine Zq J J (Z0 J J (oHead (Zt J J (oNilT (Za (wC (fun h97=>?_) (fun h97=>?_)))))))
 refine Zi (Zo J (Zsu ?_))
 refine Zp J ?_
 skip
 refine Zn (Zze ?_)
 refine Zp J (Zn (Za ?_))
 exact ⟨rfl,k+1,by omega,by omega,by rw [ahead_succ x hy,if_pos (by unfold aheadP;simp_all)];exact cv,Lh⟩
 refine Zj (Zze ?_)
 refine Zp J (Zn (Za ?_))
 exact ⟨rfl,k+1,by omega,by omega,by rw [ahead_succ x hy,if_neg (by unfold aheadP;simp_all)];exact cv,Lh⟩
 refine Zr J J J J (Zr J J J J (Zr J J J J (Zr J J J J (Zr J J J J (Zr J J J J (Zr J J J J (oHead (Zu J J (oNilT (Za (wCondF J (Zj (Zze ?_)))))))))))))
 refine Zp J (Zn (Za ?_))
 exact ⟨rfl,k+1,by omega,by omega,by rw [ahead_succ x hy,if_neg (by unfold aheadP;simp_all)];exact cv,Lh⟩
 obtain rfl:i=k:=by omega
 have hany:¬ (o.fSymbols.take i).any (nameP x)=true:=by rw [any_not hs];simp
 refine Zm (Zb (Zb (Ze (Za (Zh (Zh (Zi (Zz (n:=4) (m:=4) J J J (Zld ?_)))))))))
 refine Z0 J J (Zo J (ZS (ZT 103) (fun h103=>?_) (fun h103=>?_)))
 refine Zq J J (Zz (n:=4) (m:=4) J J J (Zzh ?_))
 refine Zq J J (Zo J (Zq J J (Z0 J J (Zq J J (Zo J (ZS (ZT 108) (fun h108=>?_) (fun h108=>?_)))))))
 refine Zr J J J J (Zr J J J J (Zr J J J J (Zr J J J J (Zq J J (Zt J J (Zt J J (Zn (Za (wCondT J (Zh (Zi (Zzd ?_))))))))))))
 exact ⟨(),trivial,by unfold symX;rw [if_neg h20,if_neg hkb,if_neg hany,if_pos (by simp_all <;> omega)];rfl,Lh⟩
 refine Zq J J (Zz (n:=4) (m:=4) J J J (Zzh ?_))
 refine Zq J J (Zo J (Zq J J (Z2 J J (Zq J J (Zu J J (Zt J J (Zn (Za (wC (fun h114=>?_) (fun h114=>?_))))))))))
 refine Zh (Zi (Zzd ?_))
 exact ⟨(),trivial,by unfold symX;rw [if_neg h20,if_neg hkb,if_neg hany,if_pos (by simp_all <;> omega)];rfl,Lh⟩
 refine Zj (Za (Zh (Zh (Zi (Zz (n:=1) (m:=1) J J J (Zld ?_))))))
 refine Zo J (ZS (ZT 117) (fun h117=>?_) (fun h117=>?_))
 refine Zq J J (Zz (n:=4) (m:=4) J J J (Zzh ?_))
 refine Zq J J (Zy J J (Zt J J (Zn (Za (wC (fun h121=>?_) (fun h121=>?_))))))
 refine Zh (Zi (Zzd ?_))
 have hnd:¬ (x.fDef≠-1∧(x.fDef≠(aheadN x (o.fSymbols.take i):Int)∨(mostN o x:Int)≤x.fDef)):=by simp_all <;> omega
 exact ⟨(),trivial,by unfold symX;rw [if_neg h20,if_neg hkb,if_neg hany,if_neg hnd,if_pos (by simp_all <;> omega)];rfl,Lh⟩
 refine Zj (Zzv ?_)
 have hnd:¬ (x.fDef≠-1∧(x.fDef≠(aheadN x (o.fSymbols.take i):Int)∨(mostN o x:Int)≤x.fDef)):=by simp_all <;> omega
 exact ⟨(),trivial,by unfold symX;rw [if_neg h20,if_neg hkb,if_neg hany,if_neg hnd,if_neg (by simp_all <;> omega)];rfl,Lh⟩
 refine Zr J J J J (Zr J J J J (Zr J J J J (Zu J J (Zn (Za (wCondF J (Zj (Zzv ?_))))))))
 have hnd:¬ (x.fDef≠-1∧(x.fDef≠(aheadN x (o.fSymbols.take i):Int)∨(mostN o x:Int)≤x.fDef)):=by simp_all <;> omega
 exact ⟨(),trivial,by unfold symX;rw [if_neg h20,if_neg hkb,if_neg hany,if_neg hnd,if_neg (by simp_all <;> omega)];rfl,Lh⟩
 refine Zr J J J J (Zr J J J J (Zr J J J J (Zr J J J J (Zr J J J J (Zs J J J (Zs J J J (Zs J J J (Zs J J J (Zr J J J J (Zu J J (Zn (Za (wCondF J (Zj (Za (Zh (Zh (Zi (Zz (n:=1) (m:=1) J J J (Zld ?_))))))))))))))))))))
 refine Zo J (ZS (ZT 117) (fun h117=>?_) (fun h117=>?_))
 refine Zq J J (Zz (n:=4) (m:=4) J J J (Zzh ?_))
 refine Zq J J (Zy J J (Zt J J (Zn (Za (wC (fun h121=>?_) (fun h121=>?_))))))
 refine Zh (Zi (Zzd ?_))
 have hnd:¬ (x.fDef≠-1∧(x.fDef≠(aheadN x (o.fSymbols.take i):Int)∨(mostN o x:Int)≤x.fDef)):=by simp_all <;> omega
 exact ⟨(),trivial,by unfold symX;rw [if_neg h20,if_neg hkb,if_neg hany,if_neg hnd,if_pos (by simp_all <;> omega)];rfl,Lh⟩
 refine Zj (Zzv ?_)
 have hnd:¬ (x.fDef≠-1∧(x.fDef≠(aheadN x (o.fSymbols.take i):Int)∨(mostN o x:Int)≤x.fDef)):=by simp_all <;> omega
 exact ⟨(),trivial,by unfold symX;rw [if_neg h20,if_neg hkb,if_neg hany,if_neg hnd,if_neg (by simp_all <;> omega)];rfl,Lh⟩
 refine Zr J J J J (Zr J J J J (Zr J J J J (Zu J J (Zn (Za (wCondF J (Zj (Zzv ?_))))))))
 have hnd:¬ (x.fDef≠-1∧(x.fDef≠(aheadN x (o.fSymbols.take i):Int)∨(mostN o x:Int)≤x.fDef)):=by simp_all <;> omega
 exact ⟨(),trivial,by unfold symX;rw [if_neg h20,if_neg hkb,if_neg hany,if_neg hnd,if_neg (by simp_all <;> omega)];rfl,Lh⟩
 have hmo:mostN o x=o.fFuncs.length:=by unfold mostN;rw [if_neg ZO]
 refine Zj (Za (Zh (Zi (Zp rfl (ZS0 (t:=8) (v':=.int .i64 (mostN o x:Int)) rfl (by rw [hmo]) ?_)))))
 refine Zn (Za (Zh (Zh (Zi (Zp J (Zn (Za (Zk ?_))))))))
 refine wLoop (ι:=Nat) (fun k=>[(1,.int .i64 (i:Int)),(2,.pointer (some ⟨b2,0,none⟩)),(5,.pointer (some ⟨b5,0,none⟩)),(8,.int .i64 (mostN o x:Int)),(9,.int .i64 (aheadN x (o.fSymbols.take k):Int)),(10,.int .i64 (k:Int))]) (fun k=>[blk b2 26 [.slice A0 o.fSymbols.length c0,.slice A1 o.fFuncs.length c1,.slice A2 o.fDatas.length c2],blk b5 37 [.string x.fName,.bool x.fLocal,.int .i64 x.fSort,.int .i64 x.fKind,.int .i64 x.fDef]]) (fun k=>k≤i) (fun k=>i-k) 0 ?_ cv (by skip;exact Lh) ?_
 exact Nat.zero_le _
 rintro k hk
 have hle:=ahead_le x (o.fSymbols.take k)
 rw [List.length_take] at hle
 try dsimp only
 refine Zh (Zh (Zi (Zo J (Zo J (Zx J J (Zn (Za (wC (fun h77=>?_) (fun h77=>?_)))))))))
 obtain ⟨y,hy⟩:∃ y,o.fSymbols[k]?=some y:=⟨_,List.getElem?_eq_getElem ZO⟩
 obtain ⟨e2,cs2,hE2⟩:=q0.elm hy
 obtain rfl:=kApiSymbol_open hE2.K
 refine Zj (Za (Zh (Zk (Zh (wDraw2 J J [2] [0,1,3,4,5,6,7,8,9,10,11,12,13,14,15,16] 17 ZK J J J (fun w0=>?_))))))
 refine Zz (n:=0) (m:=0) J J J (Zld ?_)
 refine oIdxE J J (hE2) ZO J J ?_
 have hc83:=(hE2).cell
 refine ZF (ZT 2) (ZT 2) ?_
 refine Zlx hc83 ?_
 refine Zz (n:=2) (m:=2) J J J (Zld ?_)
 refine Zy J J (Zo J (ZS (ZT 89) (fun h89=>?_) (fun h89=>?_)))
 refine Zq J J (Zz (n:=0) (m:=0) J J J (Zzh ?_))
 refine Zq J J (Zo J (Zq J J (oIdxE J J (hE2) ZO J J ?_)))
 have hc93:=(hE2).cell
 refine Zq J J (ZF (ZT 4) (ZT 4) ?_)
 refine Zq J J (Zlx hc93 ?_)
 refine Zq J J (Z0 J J (oHead (Zt J J (oNilT (Za (wC (fun h97=>?_) (fun h97=>?_)))))))
 refine Zi (Zo J (Zsu ?_))
 refine Zp J ?_
 skip
 refine Zn (Zze ?_)
 refine Zp J (Zn (Za ?_))
 exact ⟨rfl,k+1,by omega,by omega,by rw [ahead_succ x hy,if_pos (by unfold aheadP;simp_all)];exact cv,Lh⟩
 refine Zj (Zze ?_)
 refine Zp J (Zn (Za ?_))
 exact ⟨rfl,k+1,by omega,by omega,by rw [ahead_succ x hy,if_neg (by unfold aheadP;simp_all)];exact cv,Lh⟩
 refine Zr J J J J (Zr J J J J (Zr J J J J (Zr J J J J (Zr J J J J (Zr J J J J (Zr J J J J (oHead (Zu J J (oNilT (Za (wCondF J (Zj (Zze ?_)))))))))))))
 refine Zp J (Zn (Za ?_))
 exact ⟨rfl,k+1,by omega,by omega,by rw [ahead_succ x hy,if_neg (by unfold aheadP;simp_all)];exact cv,Lh⟩
 obtain rfl:i=k:=by omega
 have hany:¬ (o.fSymbols.take i).any (nameP x)=true:=by rw [any_not hs];simp
 refine Zm (Zb (Zb (Ze (Za (Zh (Zh (Zi (Zz (n:=4) (m:=4) J J J (Zld ?_)))))))))
 refine Z0 J J (Zo J (ZS (ZT 103) (fun h103=>?_) (fun h103=>?_)))
 refine Zq J J (Zz (n:=4) (m:=4) J J J (Zzh ?_))
 refine Zq J J (Zo J (Zq J J (Z0 J J (Zq J J (Zo J (ZS (ZT 108) (fun h108=>?_) (fun h108=>?_)))))))
 refine Zr J J J J (Zr J J J J (Zr J J J J (Zr J J J J (Zq J J (Zt J J (Zt J J (Zn (Za (wCondT J (Zh (Zi (Zzd ?_))))))))))))
 exact ⟨(),trivial,by unfold symX;rw [if_neg h20,if_neg hkb,if_neg hany,if_pos (by simp_all <;> omega)];rfl,Lh⟩
 refine Zq J J (Zz (n:=4) (m:=4) J J J (Zzh ?_))
 refine Zq J J (Zo J (Zq J J (Z2 J J (Zq J J (Zu J J (Zt J J (Zn (Za (wC (fun h114=>?_) (fun h114=>?_))))))))))
 refine Zh (Zi (Zzd ?_))
 exact ⟨(),trivial,by unfold symX;rw [if_neg h20,if_neg hkb,if_neg hany,if_pos (by simp_all <;> omega)];rfl,Lh⟩
 refine Zj (Za (Zh (Zh (Zi (Zz (n:=1) (m:=1) J J J (Zld ?_))))))
 refine Zo J (ZS (ZT 117) (fun h117=>?_) (fun h117=>?_))
 refine Zq J J (Zz (n:=4) (m:=4) J J J (Zzh ?_))
 refine Zq J J (Zy J J (Zt J J (Zn (Za (wC (fun h121=>?_) (fun h121=>?_))))))
 refine Zh (Zi (Zzd ?_))
 have hnd:¬ (x.fDef≠-1∧(x.fDef≠(aheadN x (o.fSymbols.take i):Int)∨(mostN o x:Int)≤x.fDef)):=by simp_all <;> omega
 exact ⟨(),trivial,by unfold symX;rw [if_neg h20,if_neg hkb,if_neg hany,if_neg hnd,if_pos (by simp_all <;> omega)];rfl,Lh⟩
 refine Zj (Zzv ?_)
 have hnd:¬ (x.fDef≠-1∧(x.fDef≠(aheadN x (o.fSymbols.take i):Int)∨(mostN o x:Int)≤x.fDef)):=by simp_all <;> omega
 exact ⟨(),trivial,by unfold symX;rw [if_neg h20,if_neg hkb,if_neg hany,if_neg hnd,if_neg (by simp_all <;> omega)];rfl,Lh⟩
 refine Zr J J J J (Zr J J J J (Zr J J J J (Zu J J (Zn (Za (wCondF J (Zj (Zzv ?_))))))))
 have hnd:¬ (x.fDef≠-1∧(x.fDef≠(aheadN x (o.fSymbols.take i):Int)∨(mostN o x:Int)≤x.fDef)):=by simp_all <;> omega
 exact ⟨(),trivial,by unfold symX;rw [if_neg h20,if_neg hkb,if_neg hany,if_neg hnd,if_neg (by simp_all <;> omega)];rfl,Lh⟩
 refine Zr J J J J (Zr J J J J (Zr J J J J (Zr J J J J (Zr J J J J (Zs J J J (Zs J J J (Zs J J J (Zs J J J (Zr J J J J (Zu J J (Zn (Za (wCondF J (Zj (Za (Zh (Zh (Zi (Zz (n:=1) (m:=1) J J J (Zld ?_))))))))))))))))))))
 refine Zo J (ZS (ZT 117) (fun h117=>?_) (fun h117=>?_))
 refine Zq J J (Zz (n:=4) (m:=4) J J J (Zzh ?_))
 refine Zq J J (Zy J J (Zt J J (Zn (Za (wC (fun h121=>?_) (fun h121=>?_))))))
 refine Zh (Zi (Zzd ?_))
 have hnd:¬ (x.fDef≠-1∧(x.fDef≠(aheadN x (o.fSymbols.take i):Int)∨(mostN o x:Int)≤x.fDef)):=by simp_all <;> omega
 exact ⟨(),trivial,by unfold symX;rw [if_neg h20,if_neg hkb,if_neg hany,if_neg hnd,if_pos (by simp_all <;> omega)];rfl,Lh⟩
 refine Zj (Zzv ?_)
 have hnd:¬ (x.fDef≠-1∧(x.fDef≠(aheadN x (o.fSymbols.take i):Int)∨(mostN o x:Int)≤x.fDef)):=by simp_all <;> omega
 exact ⟨(),trivial,by unfold symX;rw [if_neg h20,if_neg hkb,if_neg hany,if_neg hnd,if_neg (by simp_all <;> omega)];rfl,Lh⟩
 refine Zr J J J J (Zr J J J J (Zr J J J J (Zu J J (Zn (Za (wCondF J (Zj (Zzv ?_))))))))
 have hnd:¬ (x.fDef≠-1∧(x.fDef≠(aheadN x (o.fSymbols.take i):Int)∨(mostN o x:Int)≤x.fDef)):=by simp_all <;> omega
 exact ⟨(),trivial,by unfold symX;rw [if_neg h20,if_neg hkb,if_neg hany,if_neg hnd,if_neg (by simp_all <;> omega)];rfl,Lh⟩
def symsL (o:ApiObject):List Int:=(List.range o.fSymbols.length).map (symE o)
def dKind (o:ApiObject) (i:Nat):Int:=(o.fSymbols.getD (definerF o (i:Int)).toNat default).fKind
noncomputable def funE (o:ApiObject) (f:ApiFunc):Int:=if chkE f o.fSymbols≠0 then chkE f o.fSymbols else rangeF f
noncomputable def itemE (o:ApiObject) (i:Nat):Int:=
  if definerF o (i:Int)<0 then 13 else
  if o.fFuncs.length≤i then (if (o.fDatas.getD (i-o.fFuncs.length) default).fKind≠dKind o i then 14 else dataF (o.fDatas.getD (i-o.fFuncs.length) default) o.fSymbols) else
  if (o.fFuncs.getD i default).fClass≠dKind o i then 14 else funE o (o.fFuncs.getD i default)
noncomputable def itsL (o:ApiObject):List Int:=(List.range (o.fFuncs.length+o.fDatas.length)).map (itemE o)
def manyO (o:ApiObject):Prop:=32<o.fSymbols.length∨12<o.fFuncs.length∨8<o.fDatas.length
instance (o:ApiObject):Decidable (manyO o):=by unfold manyO;infer_instance
noncomputable def objE (o:ApiObject):Int:=if manyO o then 19 else if fstE (symsL o)≠0 then fstE (symsL o) else fstE (itsL o)
noncomputable def objI (o:ApiObject):Int:=if manyO o then -1 else if fstE (symsL o)≠0 then idxI non0 (symsL o) else idxI non0 (itsL o)
theorem definer_at {o:ApiObject}{item:Int}(h:0≤definerF o item):∃ (k:Nat) (x:ApiSymbol),definerF o item=(k:Int)∧o.fSymbols[k]?=some x∧definesF o item x=true:=idxI_at h
theorem ref19_item {B:Base}{w:World}(hS:St B [] w) (o:ApiObject) (oc:List Value) (ho:kApiObject.K B.e o oc) (hg:GoodO o) (i:Nat) (hi:i<o.fFuncs.length+o.fDatas.length) :
 CW 34 #[.agg oc.toArray,.int .i64 (i:Int)] w (Ret B (fun _:Unit=>True) (fun _=>.int .i64 (itemE o i)) (fun _=>[])):=by
 obtain ⟨A0,c0,A1,c1,A2,c2,rfl,m0,q0,m1,q1,m2,q2⟩:=kApiObject_open ho
 have hn0:=hg.syms
 have hn1:=hg.funcs
 have hn2:=hg.datas
 refine ZX Tryz.func34 hS ?_
 refine Zh (Zi (oBox J ZP (fun b2=>?_)))
 refine Zp J (Zn (Za (Zzq ?_)))
 refine Zo J ?_
 (refine ZC0 rfl ZK (fun w hS=>frame hS ZQ (fun B' hB hS'=>ref19_Definer hS' o _ (kApiObject.K_grow hB ho) hg (i:Int))) ?_;rintro ⟨⟩ -)
 refine Zp J (Zn (Za (Zh (Zh (Zi (Zo J (Zx J J (Zn (Za (wC (fun h14=>?_) (fun h14=>?_)))))))))))
 refine Zh (Zi (Zzd ?_))
 exact ⟨(),trivial,by unfold itemE;rw [if_pos h14];rfl,Lh⟩
 obtain ⟨k,x,hk,hx,-⟩:=definer_at (show 0≤definerF o (i:Int) by omega)
 have hkl:=(List.getElem?_eq_some_iff.1 hx).1
 obtain ⟨e1,cs1,hE⟩:=q0.elm hx
 obtain rfl:=kApiSymbol_open hE.K
 have hdk:dKind o i=x.fKind:=by unfold dKind;rw [hk,Int.toNat_natCast,List.getD_eq_getElem?_getD,hx];rfl
 refine Zj (Za (Zh (Zi (Zz (n:=0) (m:=0) J J J (Zld ?_)))))
 refine Zo rfl (ZS0 (t:=17) (v':=.int .i64 (k:Int)) rfl (by rw [hk]) ?_)
 refine oIdxE J J (hE) ZO J J ?_
 have hc18:=(hE).cell
 refine ZF (ZT 3) (ZT 3) ?_
 refine Zlx hc18 ?_
 refine Zp J (Zn (Za (Zh (Zh (Zi (Zo J (Zz (n:=1) (m:=1) J J J (Zld ?_))))))))
 refine Zv J J (Z2 J J (Zn (Za (wC (fun h25=>?_) (fun h25=>?_)))))
 have hif:o.fFuncs.length≤i:=by omega
 obtain ⟨d,hd⟩:∃ d,o.fDatas[i-o.fFuncs.length]?=some d:=⟨_,List.getElem?_eq_getElem ZO⟩
 obtain ⟨e2,cs2,hE2⟩:=q2.elm hd
 obtain ⟨D0,d0,D1,d1,rfl,n0,r0,n1,r1⟩:=kApiData_open hE2.K
 have hgd:=hg.data d (List.mem_of_getElem? hd)
 have hvd:=hg.v.2.2.2 d (List.mem_of_getElem? hd)
 have hdg:o.fDatas.getD (i-o.fFuncs.length) default=d:=by rw [List.getD_eq_getElem?_getD,hd];rfl
 refine Zh (Zi (Zz (n:=2) (m:=2) J J J (Zld ?_)))
 refine Zo J (Zz (n:=1) (m:=1) J J J (Zld ?_))
 refine Zv J J (oSub J J ZO ?_)
 refine ZS0 (t:=32) (v':=.int .i64 ((i-o.fFuncs.length:Nat):Int)) J (by congr 1;omega) ?_
 refine oIdxE J J (hE2) ZO J J ?_
 have hc33:=(hE2).cell
 refine Zlx hc33 ?_
 refine oAlloc J ZP (fun b7=>?_)
 refine Zsa ?_
 refine Zn (Za (Zh (Zh (Zi (Zz (n:=0) (m:=0) J J J (Zld ?_))))))
 refine Zo J (Z0 J J (Zn (Za (wC (fun h38=>?_) (fun h38=>?_)))))
 refine Zh (Zi (Zp J (Zn (Za (Zl (Zc (Zc (Zw (fi1 J ?_)))))))))
 exact ⟨(),trivial,by unfold itemE;rw [if_neg h14,if_pos hif,hdg,hdk,if_pos h38];rfl,Lh⟩
 refine Zj (Za (Zzq ?_))
 refine Zz (n:=0) (m:=0) J J J (Zld ?_)
 (refine ZC0 rfl ZK (fun w hS=>frame hS ZQ (fun B' hB hS'=>ref15_Check hS' d _ (kApiData_mk _ d n0 (Kd.C_grow hB r0) n1 (Kd.C_grow hB r1)) hvd.1 ZO A0 c0 o.fSymbols (Kd.C_grow hB q0))) ?_;rintro ⟨⟩ -)
 refine Zp J (Zzs ?_)
 exact ⟨(),trivial,by unfold itemE;rw [if_neg h14,if_pos hif,hdg,hdk,if_neg h38];rfl,Lh⟩
 have hif:¬ o.fFuncs.length≤i:=by omega
 obtain ⟨f,hf⟩:∃ f,o.fFuncs[i]?=some f:=⟨_,List.getElem?_eq_getElem ZO⟩
 obtain ⟨e3,cs3,hE3⟩:=q1.elm hf
 obtain ⟨F0,f0,F1,f1,F2,f2,F3,f3,rfl,n0,r0,n1,r1,n2,r2,n3,r3⟩:=kApiFunc_open hE3.K
 have hgf:=hg.fun_ f (List.mem_of_getElem? hf)
 have hvf:=hg.v.2.1.2 f (List.mem_of_getElem? hf)
 have hfg:o.fFuncs.getD i default=f:=by rw [List.getD_eq_getElem?_getD,hf];rfl
 refine Zj (Za (Zh (Zh (Zi (Zz (n:=1) (m:=1) J J J (Zld ?_))))))
 refine Zo J (oIdxE J J (hE3) ZO J J ?_)
 have hc46:=(hE3).cell
 refine ZF (ZT 0) (ZT 0) ?_
 refine Zlx hc46 ?_
 refine Zo J (Z0 J J (Zn (Za (wC (fun h50=>?_) (fun h50=>?_)))))
 refine Zh (Zi (Zzd ?_))
 exact ⟨(),trivial,by unfold itemE;rw [if_neg h14,if_neg hif,hfg,hdk,if_pos h50];rfl,Lh⟩
 refine Zj (Za (Zh (Zh (wDrawG J [0,1,2,3,4,5,6] [(7,[],[8,9,10,11])] [12] 24 ZK J J (fun w0=>?_)))))
 refine Zz (n:=1) (m:=1) J J J (Zld ?_)
 refine Zo J (oIdxE J J (hE3) ZO J J ?_)
 have hc55:=(hE3).cell
 refine Zlx hc55 ?_
 refine Zz (n:=0) (m:=0) J J J (Zld ?_)
 refine Z4 (Z5 J ?_)
 (refine ZC0 rfl ZK (fun w hS=>frame hS ZQ (fun B' hB hS'=>ref17_Check hS' f _ (kApiFunc_mk _ f n0 (Kd.C_grow hB r0) n1 (Kd.C_grow hB r1) n2 (Kd.C_grow hB r2) n3 (Kd.C_grow hB r3)) hvf.2.1.2 A0 c0 o.fSymbols (Kd.C_grow hB q0))) ?_;rintro ⟨⟩ -)
 refine ZG ?_ J (fun w0=>?_)
 exact AgainG.nil
 refine Zo J (oExt J ZP ?_)
 refine oExt J ZP ?_
 refine Zp J (Z6 (Zp J (Zn (Za (Zh (Zi (Zo J (Z0 J J (Zn (Za (wC (fun h63=>?_) (fun h63=>?_))))))))))))
 refine Zh (Zi (Zo J (Zzd ?_)))
 exact ⟨(),trivial,by unfold itemE funE;rw [if_neg h14,if_neg hif,hfg,hdk,if_neg h50,if_pos h63];rfl,Lh⟩
 refine Zj (Za (Zh (Zi (Zz (n:=1) (m:=1) J J J (Zld ?_)))))
 refine Zo J (oIdxE J J (hE3) ZO J J ?_)
 have hc68:=(hE3).cell
 refine Zlx hc68 ?_
 (refine ZC0 rfl ZK (fun w hS=>frame hS ZQ (fun B' hB hS'=>ref18_Check hS' f _ (kApiFunc_mk _ f n0 (Kd.C_grow hB r0) n1 (Kd.C_grow hB r1) n2 (Kd.C_grow hB r2) n3 (Kd.C_grow hB r3)) ZO)) ?_;rintro ⟨⟩ -)
 refine Zp J (Zzj ?_)
 exact ⟨(),trivial,by unfold itemE funE;rw [if_neg h14,if_neg hif,hfg,hdk,if_neg h50,if_neg h63];rfl,Lh⟩
theorem ref19_Check {B:Base}{w:World}(hS:St B [] w) (o:ApiObject) (oc:List Value) (ho:kApiObject.K B.e o oc) (hg:GoodO o) :
 CW 11 #[.agg oc.toArray] w (Ret B (fun _:Unit=>True) (fun _=>.tuple #[.int .i64 (objE o),.int .i64 (objI o)]) (fun _=>[])):=by
 obtain ⟨A0,c0,A1,c1,A2,c2,rfl,m0,q0,m1,q1,m2,q2⟩:=kApiObject_open ho
 have hn0:=hg.syms
 have hn1:=hg.funcs
 have hn2:=hg.datas
 have hit:itemsF o=(o.fFuncs.length:Int)+(o.fDatas.length:Int):=rfl
 refine ZX Tryz.func11 hS ?_
 refine Zh (Zi (oBox J ZP (fun b1=>?_)))
 refine Zp J (Zp J (Zn (Za (Zh (Zh (Zi (Zz (n:=0) (m:=0) J J J (Zld ?_))))))))
 refine Zv J J (Z1 J J (Zo J (ZS (ZT 12) (fun h12=>?_) (fun h12=>?_))))
 refine Zr J J J J (Zr J J J J (Zr J J J J (Zr J J J J (Zt J J (Zo J (Zr J J J J (Zr J J J J (Zr J J J J (Zr J J J J (Zt J J (Zn (Za (wCondT J (Zh (Zi (Zzu ?_))))))))))))))))
 refine ⟨rfl,_,(ResL.cons (ResR.tmp rfl) (ResL.cons (ResR.tmp rfl) ResL.nil)),?_⟩
 have hm:manyO o:=by unfold manyO;omega
 exact ⟨(),trivial,by unfold objE objI;rw [if_pos hm,if_pos hm];rfl,Lh⟩
 refine Zq J J (Zz (n:=1) (m:=1) J J J (Zzh ?_))
 refine Zq J J (Zv J J (Zq J J (Z1 J J (Zu J J (Zo J (ZS (ZT 18) (fun h18=>?_) (fun h18=>?_)))))))
 refine Zr J J J J (Zr J J J J (Zr J J J J (Zr J J J J (Zt J J (Zn (Za (wCondT J (Zh (Zi (Zzu ?_))))))))))
 refine ⟨rfl,_,(ResL.cons (ResR.tmp rfl) (ResL.cons (ResR.tmp rfl) ResL.nil)),?_⟩
 have hm:manyO o:=by unfold manyO;omega
 exact ⟨(),trivial,by unfold objE objI;rw [if_pos hm,if_pos hm];rfl,Lh⟩
 refine Zq J J (Zz (n:=2) (m:=2) J J J (Zzh ?_))
 refine Zq J J (Zv J J (Zq J J (Z1 J J (Zu J J (Zn (Za (wC (fun h23=>?_) (fun h23=>?_))))))))
 refine Zh (Zi (Zzu ?_))
 refine ⟨rfl,_,(ResL.cons (ResR.tmp rfl) (ResL.cons (ResR.tmp rfl) ResL.nil)),?_⟩
 have hm:manyO o:=by unfold manyO;omega
 exact ⟨(),trivial,by unfold objE objI;rw [if_pos hm,if_pos hm];rfl,Lh⟩
 have hm:¬ manyO o:=by unfold manyO;omega
 refine Zj (Za (Zh (Zh (Zi (Zp J (Zn (Za (Zk (wLoop (ι:=Nat) (fun i=>[(1,.pointer (some ⟨b1,0,none⟩)),(4,.int .i64 (i:Int))]) (fun i=>[blk b1 26 [.slice A0 o.fSymbols.length c0,.slice A1 o.fFuncs.length c1,.slice A2 o.fDatas.length c2]]) (fun i=>i≤o.fSymbols.length∧fstE ((symsL o).take i)=0∧∀ y ∈ (symsL o).take i,non0 y=false) (fun i=>o.fSymbols.length-i) 0 ?_ cv (Leads.has ZQ) ?_)))))))))
 exact ⟨Nat.zero_le _,rfl,by simp⟩
 rintro i ⟨hi,hs,hs2⟩
 try dsimp only
 refine Zh (Zh (Zi (Zo J (Zz (n:=0) (m:=0) J J J (Zld ?_)))))
 refine Zv J J (Zx J J (Zn (Za (wC (fun h28=>?_) (fun h28=>?_)))))
 have hxe:(symsL o)[i]?=some (symE o i):=rmap_at ZO
 refine Zj (Za (Zh (Zk (Zzq ?_))))
 refine Zo J ?_
 (refine ZC0 rfl ZK (fun w hS=>frame hS ZQ (fun B' hB hS'=>ref19_symbol hS' o _ (kApiObject.K_grow hB ho) hg i ZO)) ?_;rintro ⟨⟩ -)
 refine Zp J (Zn (Za (Zh (Zi (Zo J (Z0 J J (Zn (Za (wC (fun h35=>?_) (fun h35=>?_))))))))))
 refine Zh (Zi (Zo J (Zo J (Zp J (Zp J (Zn (Za (Zl (Zf (Zc (Zc (Zf (Zc (Zw ?_))))))))))))))
 refine ⟨rfl,_,(ResL.cons (ResR.tmp rfl) (ResL.cons (ResR.tmp rfl) ResL.nil)),?_⟩
 exact ⟨(),trivial,by have hfe:=fstE_stop hs hxe h35;unfold objE objI;rw [if_neg hm,if_neg hm,hfe,if_pos h35,if_pos h35,idxI_stop hs2 hxe (decide_eq_true h35)];rfl,Lh⟩
 refine Zj (Zze ?_)
 refine Zp J (Zn (Za ?_))
 exact ⟨rfl,i+1,⟨by omega,fstE_next hs hxe (Classical.not_not.1 h35),take_not hs2 hxe (decide_eq_false h35)⟩,by omega,cv,Lh⟩
 obtain rfl:i=o.fSymbols.length:=by omega
 have hfs:fstE (symsL o)=0:=by have:=hs;unfold symsL at this;rw [rmap_all] at this;exact this
 refine Zm (Zb (Zb (Ze (Za (Zh (Zh (Zi (Zp J (Zn (Za (Zk (wLoop (ι:=Nat) (fun i=>[(1,.pointer (some ⟨b1,0,none⟩)),(6,.int .i64 (i:Int))]) (fun i=>[blk b1 26 [.slice A0 o.fSymbols.length c0,.slice A1 o.fFuncs.length c1,.slice A2 o.fDatas.length c2]]) (fun i=>i≤o.fFuncs.length+o.fDatas.length∧fstE ((itsL o).take i)=0∧∀ y ∈ (itsL o).take i,non0 y=false) (fun i=>o.fFuncs.length+o.fDatas.length-i) 0 ?_ cv (Leads.has ZQ) ?_))))))))))))
 exact ⟨Nat.zero_le _,rfl,by simp⟩
 rintro i ⟨hi,hs,hs2⟩
 try dsimp only
 refine Zh (Zh (Zi (Zo J (Zla ?_))))
 (refine ZC0 rfl ZK (fun w hS=>frame hS ZQ (fun B' hB hS'=>ref19_Items hS' o _ (kApiObject.K_grow hB ho) hg)) ?_;rintro ⟨⟩ -)
 refine Zx J J (Zn (Za (wC (fun h41=>?_) (fun h41=>?_))))
 have hxe:(itsL o)[i]?=some (itemE o i):=rmap_at ZO
 refine Zj (Za (Zh (Zk (Zzq ?_))))
 refine Zo J ?_
 (refine ZC0 rfl ZK (fun w hS=>frame hS ZQ (fun B' hB hS'=>ref19_item hS' o _ (kApiObject.K_grow hB ho) hg i ZO)) ?_;rintro ⟨⟩ -)
 refine Zp J (Zn (Za (Zh (Zi (Zo J (Z0 J J (Zn (Za (wC (fun h48=>?_) (fun h48=>?_))))))))))
 refine Zh (Zi (Zo J (Zo J (Zp J (Zp J (Zn (Za (Zl (Zf (Zc (Zc (Zf (Zc (Zw ?_))))))))))))))
 refine ⟨rfl,_,(ResL.cons (ResR.tmp rfl) (ResL.cons (ResR.tmp rfl) ResL.nil)),?_⟩
 exact ⟨(),trivial,by have hfe:=fstE_stop hs hxe h48;unfold objE objI;rw [if_neg hm,if_neg hm,if_neg (by rw [hfs];simp),if_neg (by rw [hfs];simp),hfe,idxI_stop hs2 hxe (decide_eq_true h48)];rfl,Lh⟩
 refine Zj (Zze ?_)
 refine Zp J (Zn (Za ?_))
 exact ⟨rfl,i+1,⟨by omega,fstE_next hs hxe (Classical.not_not.1 h48),take_not hs2 hxe (decide_eq_false h48)⟩,by omega,cv,Lh⟩
 refine Zm (Zb (Zb (Ze (Za (Zh (Zi (Zp J (Zp J (Zn (Za (Zl (Zw ?_))))))))))))
 refine ⟨rfl,_,(ResL.cons (ResR.tmp rfl) (ResL.cons (ResR.tmp rfl) ResL.nil)),?_⟩
 obtain rfl:i=o.fFuncs.length+o.fDatas.length:=by omega
 unfold itsL at hs hs2
 rw [rmap_all] at hs hs2
 exact ⟨(),trivial,by unfold objE objI;rw [if_neg hm,if_neg hm,if_neg (by rw [hfs];simp),if_neg (by rw [hfs];simp)];unfold itsL;rw [hs,idxI_none hs2];rfl,Lh⟩
theorem ref16_FewA {B:Base}{w:World}(hS:St B [] w) (f:ApiFunc) (fc:List Value) (hf:kApiFunc.K B.e f fc) :
 CW 26 #[.agg fc.toArray] w (Ret B (fun r:Bool=>r=true→f.fKinds.length≤100∧f.fLines.length≤100∧f.fCode.length≤100∧f.fRelocs.length≤100) (fun r=>.bool r) (fun _=>[])):=by
 obtain ⟨A0,c0,A1,c1,A2,c2,A3,c3,rfl,l0,g0,l1,g1,l2,g2,l3,g3⟩:=kApiFunc_open hf
 refine ZX Tryz.func26 hS ?_
 refine Zh (Zi (oBox J ZP (fun b1=>?_)))
 refine Zp J (Zn (Za (Zh (Zi (Zz (n:=1) (m:=1) J J J (Zld ?_))))))
 refine Zv J J (oLeq J J (Zo J (ZS (ZT 7) (fun h7=>?_) (fun h7=>?_))))
 refine Zq J J (Zz (n:=6) (m:=6) J J J (Zzh ?_))
 refine Zq J J (Zv J J (Zq J J (oLeq J J (Zt J J (Zo J (ZS (ZT 13) (fun h13=>?_) (fun h13=>?_)))))))
 refine Zq J J (Zz (n:=7) (m:=7) J J J (Zzh ?_))
 refine Zq J J (Zv J J (Zq J J (oLeq J J (Zt J J (Zo J (ZS (ZT 19) (fun h19=>?_) (fun h19=>?_)))))))
 refine Zq J J (Zz (n:=8) (m:=8) J J J (Zzh ?_))
 refine Zq J J (Zv J J (Zq J J (oLeq J J (Zt J J (Zza ?_)))))
 exact ⟨_,(by intro h;first | focus (simp at h;done) | (have:=of_decide_eq_true h;omega)),rfl,Lh⟩
 refine Zr J J J J (Zzp ?_)
 exact ⟨_,(by intro h;first | focus (simp at h;done) | (have:=of_decide_eq_true h;omega)),rfl,Lh⟩
 refine Zr J J J J (Zr J J J J (Zr J J J J (Zr J J J J (Zu J J (Zo J (Zr J J J J (Zzp ?_)))))))
 exact ⟨_,(by intro h;first | focus (simp at h;done) | (have:=of_decide_eq_true h;omega)),rfl,Lh⟩
 refine Zr J J J J (Zr J J J J (Zr J J J J (Zr J J J J (Zu J J (Zo J (Zr J J J J (Zr J J J J (Zr J J J J (Zr J J J J (Zu J J (Zo J (Zr J J J J (Zzp ?_)))))))))))))
 exact ⟨_,(by intro h;first | focus (simp at h;done) | (have:=of_decide_eq_true h;omega)),rfl,Lh⟩
structure FewB (o:ApiObject):Prop where
  syms:o.fSymbols.length≤60
  funcs:o.fFuncs.length≤20
  datas:o.fDatas.length≤20
  fun_:∀ f ∈ o.fFuncs,f.fKinds.length≤100∧f.fLines.length≤100∧f.fCode.length≤100∧f.fRelocs.length≤100
  data:∀ d ∈ o.fDatas,d.fWords.length≤100∧d.fRelocs.length≤100
theorem take_all {α:Type}{P:α→Prop}{l:List α}{i:Nat}{x:α}(h:∀ y ∈ l.take i,P y) (hi:l[i]?=some x) (hp:P x):∀ y ∈ l.take (i+1),P y:=by
 intro y hy
 rw [List.take_add_one,hi] at hy
 rcases List.mem_append.1 hy with k | k
 · exact h y k
 · obtain rfl:y=x:=by simpa using k
   exact hp
abbrev fewF (f:ApiFunc):Prop:=f.fKinds.length≤100∧f.fLines.length≤100∧f.fCode.length≤100∧f.fRelocs.length≤100
abbrev fewD (d:ApiData):Prop:=d.fWords.length≤100∧d.fRelocs.length≤100
theorem ref19_Few {B:Base}{w:World}(hS:St B [] w) (o:ApiObject) (oc:List Value) (ho:kApiObject.K B.e o oc) :
 CW 8 #[.agg oc.toArray] w (Ret B (fun r:Bool=>r=true→FewB o) (fun r=>.bool r) (fun _=>[])):=by
 obtain ⟨A0,c0,A1,c1,A2,c2,rfl,m0,q0,m1,q1,m2,q2⟩:=kApiObject_open ho
 have hl0:=q0.1
 have hl1:=q1.1
 have hl2:=q2.1
 refine ZX Tryz.func8 hS ?_
 refine Zh (Zi (oBox J ZP (fun b1=>?_)))
 refine Zp J (Zn (Za (Zh (Zh (Zi (Zp J (Zn (Za (Zk (wLoop (ι:=Nat) (fun i=>[(1,.pointer (some ⟨b1,0,none⟩)),(3,.int .i64 (i:Int))]) (fun i=>[blk b1 26 [.slice A0 o.fSymbols.length c0,.slice A1 o.fFuncs.length c1,.slice A2 o.fDatas.length c2]]) (fun i=>i≤o.fSymbols.length) (fun i=>o.fSymbols.length-i) 0 ?_ cv (Leads.has ZQ) ?_))))))))))
 exact Nat.zero_le _
 rintro i hi
 try dsimp only
 refine Zh (Zh (Zi (Zo J (Zz (n:=0) (m:=0) J J J (Zld ?_)))))
 refine Zv J J (Zx J J (Zn (Za (wC (fun h10=>?_) (fun h10=>?_)))))
 obtain ⟨x,hx⟩:∃ x,o.fSymbols[i]?=some x:=⟨_,List.getElem?_eq_getElem ZO⟩
 obtain ⟨e1,cs1,hE⟩:=q0.elm hx
 obtain rfl:=kApiSymbol_open hE.K
 refine Zj (Za (Zh (Zk (Zh (Zi (Zz (n:=0) (m:=0) J J J (Zld ?_)))))))
 refine Zo J (oIdxE J J (hE) ZO J J ?_)
 have hc16:=(hE).cell
 refine ZF (ZT 0) (ZT 0) ?_
 refine Zlx hc16 ?_
 refine oLenStr J J (Z1 J J (Zn (Za (wC (fun h20=>?_) (fun h20=>?_)))))
 refine Zh (Zi (Zzb ?_))
 exact ⟨false,(by intro h;cases h),rfl,Lh⟩
 refine Zj (Zze ?_)
 refine Zp J (Zn (Za ?_))
 exact ⟨rfl,i+1,by omega,by omega,cv,Lh⟩
 refine Zm (Zb (Zb (Ze (Za (Zh (Zh (Zi (Zp J (Zn (Za (Zk (wLoop (ι:=Nat) (fun i=>[(1,.pointer (some ⟨b1,0,none⟩)),(4,.int .i64 (i:Int))]) (fun i=>[blk b1 26 [.slice A0 o.fSymbols.length c0,.slice A1 o.fFuncs.length c1,.slice A2 o.fDatas.length c2]]) (fun i=>i≤o.fFuncs.length∧i≤20∧∀ f ∈ o.fFuncs.take i,fewF f) (fun i=>o.fFuncs.length-i) 0 ?_ cv (Leads.has ZQ) ?_))))))))))))
 exact ⟨Nat.zero_le _,by omega,by simp⟩
 rintro i ⟨hi,hi2,hs⟩
 try dsimp only
 refine Zh (Zh (Zi (Zo J (Zz (n:=1) (m:=1) J J J (Zld ?_)))))
 refine Zv J J (Zx J J (Zn (Za (wC (fun h25=>?_) (fun h25=>?_)))))
 obtain ⟨f,hf⟩:∃ f,o.fFuncs[i]?=some f:=⟨_,List.getElem?_eq_getElem ZO⟩
 obtain ⟨e3,cs3,hE3⟩:=q1.elm hf
 obtain ⟨F0,f0,F1,f1,F2,f2,F3,f3,rfl,n0,r0,n1,r1,n2,r2,n3,r3⟩:=kApiFunc_open hE3.K
 refine Zj (Za (Zh (Zk (Zh (Zi (Zo J (Z2 J J (Zo J (ZS (ZT 30) (fun h30=>?_) (fun h30=>?_))))))))))
 refine Zr J J J J (Zr J J J J (Zr J J J J (Zr J J J J (Zr J J J J (Zr J J J J (Zr J J J J (Zt J J (Zn (Za (wCondT J (Zh (Zi (Zzb ?_)))))))))))))
 exact ⟨false,(by intro h;cases h),rfl,Lh⟩
 refine Zq J J (Zz (n:=1) (m:=1) J J J (Zzh ?_))
 refine Zq J J (Zo J (Zq J J (oIdxE J J (hE3) ZO J J ?_)))
 have hc34:=(hE3).cell
 refine Zq J J (Zlx hc34 ?_)
 refine Zq J J ?_
 (refine ZC0 rfl ZK (fun w hS=>frame hS ZQ (fun B' hB hS'=>ref16_FewA hS' f _ (kApiFunc_mk _ f n0 (Kd.C_grow hB r0) n1 (Kd.C_grow hB r1) n2 (Kd.C_grow hB r2) n3 (Kd.C_grow hB r3)))) ?_;rintro r36 h36)
 refine Zq J J (Zno ?_)
 refine Zu J J (Zn (Za (wC (fun h38=>?_) (fun h38=>?_))))
 refine Zh (Zi (Zzb ?_))
 exact ⟨false,(by intro h;cases h),rfl,Lh⟩
 refine Zj (Zze ?_)
 refine Zp J (Zn (Za ?_))
 exact ⟨rfl,i+1,⟨by omega,by omega,take_all hs hf (h36 (by simp_all))⟩,by omega,cv,Lh⟩
 obtain rfl:i=o.fFuncs.length:=by omega
 rw [List.take_length] at hs
 have hsF:=hs
 have hsN:=hi2
 refine Zm (Zb (Zb (Ze (Za (Zh (Zh (Zi (Zp J (Zn (Za (Zk (wLoop (ι:=Nat) (fun i=>[(1,.pointer (some ⟨b1,0,none⟩)),(5,.int .i64 (i:Int))]) (fun i=>[blk b1 26 [.slice A0 o.fSymbols.length c0,.slice A1 o.fFuncs.length c1,.slice A2 o.fDatas.length c2]]) (fun i=>i≤o.fDatas.length∧i≤20∧∀ f ∈ o.fDatas.take i,fewD f) (fun i=>o.fDatas.length-i) 0 ?_ cv (Leads.has ZQ) ?_))))))))))))
 exact ⟨Nat.zero_le _,by omega,by simp⟩
 rintro i ⟨hi,hi2,hs⟩
 try dsimp only
 refine Zh (Zh (Zi (Zo J (Zz (n:=2) (m:=2) J J J (Zld ?_)))))
 refine Zv J J (Zx J J (Zn (Za (wC (fun h43=>?_) (fun h43=>?_)))))
 obtain ⟨d,hd⟩:∃ d,o.fDatas[i]?=some d:=⟨_,List.getElem?_eq_getElem ZO⟩
 obtain ⟨e2,cs2,hE2⟩:=q2.elm hd
 obtain ⟨D0,d0,D1,d1,rfl,n0,r0,n1,r1⟩:=kApiData_open hE2.K
 refine Zj (Za (Zh (Zk (Zh (Zi (Zo J (Z2 J J (Zo J (ZS (ZT 48) (fun h48=>?_) (fun h48=>?_))))))))))
 refine Zr J J J J (Zr J J J J (Zr J J J J (Zr J J J J (Zr J J J J (Zr J J J J (Zr J J J J (Zt J J (Zn (Za (wCondT J (Zh (Zi (Zzb ?_)))))))))))))
 exact ⟨false,(by intro h;cases h),rfl,Lh⟩
 refine Zq J J (Zz (n:=2) (m:=2) J J J (Zzh ?_))
 refine Zq J J (Zo J (Zq J J (oIdxE J J (hE2) ZO J J ?_)))
 have hc52:=(hE2).cell
 refine Zq J J (Zlx hc52 ?_)
 refine Zq J J ?_
 (refine ZC0 rfl ZK (fun w hS=>frame hS ZQ (fun B' hB hS'=>ref15_Few hS' d _ (kApiData_mk _ d n0 (Kd.C_grow hB r0) n1 (Kd.C_grow hB r1)))) ?_;rintro r54 h54)
 refine Zq J J (Zno ?_)
 refine Zu J J (Zn (Za (wC (fun h56=>?_) (fun h56=>?_))))
 refine Zh (Zi (Zzb ?_))
 exact ⟨false,(by intro h;cases h),rfl,Lh⟩
 refine Zj (Zze ?_)
 refine Zp J (Zn (Za ?_))
 exact ⟨rfl,i+1,⟨by omega,by omega,take_all hs hd (h54 (by simp_all))⟩,by omega,cv,Lh⟩
 refine Zm (Zb (Zb (Ze (Za (Zh (Zi (Zz (n:=0) (m:=0) J J J (Zld ?_))))))))
 refine Zv J J (oLeq J J (Zza ?_))
 obtain rfl:i=o.fDatas.length:=by omega
 rw [List.take_length] at hs
 exact ⟨_,(by intro h;have:=of_decide_eq_true h;exact ⟨by omega,hsN,hi2,hsF,hs⟩),rfl,Lh⟩
end Go.Proofs.YtafiabekcekdbaaGreatW
namespace Go.Proofs.YtafiabekcekdbaaGreatK
open Go.RowKit

def stepL (F:Fence) (n:Nat) (P:Program) (ops:Array Oper) (Q:Exit→Act→World→Prop) (K:Act→World→Prop):List Oper→Act→World→Prop
  | [],a,w=>K a w
  | o :: rest,a,w=>
    if Region.wanted o (yielded ops a.tmps) then o.wpIn F n P a w (stepL F n P ops Q K rest) Q
    else (∀ f,o.about P w a.eval=some f→F.fn f)∧stepL F n P ops Q K rest (a.put o.dst undef) w
def Me.step (c:Cx) (ops:Array Oper) (Q:Post) (K:Act→World→Prop):Me c where
  X:=stepL c.F 0 c.P ops (lift c Q) K
  ops:=ops
  calm o rest a w v hw hp hr hK:=by
    simp only [stepL,hw,if_true]
    exact ⟨fun f _=>c.fn f,by rw [semAt_plain' _ _ _ hp,hr];exact hK⟩
  skip o rest a w hw hK:=by
    simp only [stepL,hw]
    exact ⟨fun f _=>c.fn f,hK⟩
  want dst op ty pos af g rest a w hw h:=by
    simp only [stepL] at h ⊢
    rw [if_pos hw]
    rw [if_pos (show Region.wanted { dst:=dst,op:=op,type:=ty,pos:=pos,after:=af,guard:=none } (yielded ops a.tmps)=true from rfl)] at h
    exact h
  eff o rest a w v w' hw hp hr hK:=by
    simp only [stepL]
    rw [if_pos (show Region.wanted o (yielded ops a.tmps)=true from hw)]
    exact ⟨fun f _=>c.fn f,by rw [semAt_plain' _ _ _ hp,hr];exact hK⟩
  effs o rest a w w' hw hp hr hK:=by
    simp only [stepL]
    rw [if_pos (show Region.wanted o (yielded ops a.tmps)=true from hw)]
    exact ⟨fun f _=>c.fn f,by rw [semAt_plain' _ _ _ hp,hr];exact hK⟩
  enter o rest a w g args w1 hw hp hr hK:=by
    simp only [stepL]
    rw [if_pos (show Region.wanted o (yielded ops a.tmps)=true from hw)]
    refine ⟨fun f _=>c.fn f,?_⟩
    rw [semAt_plain' _ _ _ hp,hr]
    refine ⟨fun h=>absurd h (by rw [c.dp];simp),(c.call hK).mono ?_⟩
    rintro e w2 ⟨v,rfl,hx⟩
    exact hx
inductive AllN (c:Cx) (ops:Array Oper) (Q:Post) (f:Nat) (listed:Array Bool) (E:Env) (D:List Deferred) (H:List Res):List Nat→Prop
  | nil:AllN c ops Q f listed E D H []
  | cons {i:Nat}{o:Oper}{rs:List Nat}(ho:ops[i]?=some o) (h:O (Me.step c ops Q (wpAnyIn c.F 0 c.P .any ops (lift c Q) f (listed.setIfInBounds i true))).toMd [o] E D H) (k:AllN c ops Q f listed E D H rs):AllN c ops Q f listed E D H (i :: rs)
section
variable {c : Cx} {Q : Post} {ops : Array Oper} {E : Env} {D : List Deferred} {H : List Res} {f : Nat} {listed : Array Bool}
theorem AllN.get {rs:List Nat}(h:AllN c ops Q f listed E D H rs):∀ i ∈ rs,∀ a w,Ok c.N E D a→St c.B H w→wpOpIn c.F 0 c.P ops (lift c Q) i (wpAnyIn c.F 0 c.P .any ops (lift c Q) f (listed.setIfInBounds i true)) a w:=by
 induction h with
 | nil=>intro i hi;cases hi
 | @cons j o rs ho h k ih=>
  intro i hi a w ha hw
  rcases List.mem_cons.1 hi with rfl | hi
  · have:=h a w ha hw
    simp only [Me.step,stepL] at this
    unfold wpOpIn
    rw [ho]
    exact this
  · exact ih i hi a w ha hw
end
section
variable {c : Cx} {N : Md c} {M : Me c} {d : Nat} {ty t t' : TypeId} {pos : String} {af : Array Edge} {rest : List Oper} {E : Env} {D : List Deferred} {H H' : List Res} {x y : Operand}
end
end Go.Proofs.YtafiabekcekdbaaGreatK
namespace Go.Proofs.YtafiabekcekdbaaGreatK
open Go.RowKit
def ZA:=@AllN.cons
def ZB:=@AllN.nil
end Go.Proofs.YtafiabekcekdbaaGreatK
namespace Go.Proofs.YtafiabekcekdbaaGreatO
set_option maxRecDepth 100000
set_option maxHeartbeats 4000000
open Go.RowKit Go.Proofs.YtafiabekcekdbaaGreatK Go.Proofs.YtafiabekcekdbaaGreatT Go.Proofs.YtafiabekcekdbaaGreatL Go.Proofs.YtafiabekcekdbaaGreatV Go.Proofs.YtafiabekcekdbaaGreatG Go.Proofs.YtafiabekcekdbaaGreatW

section
variable {c : Cx} {M : Md c} {d : Nat} {ty : TypeId} {pos : String} {af : Array Edge} {rest : List Oper} {E : Env} {D : List Deferred} {H : List Res} {x y : Operand} {t : TypeId}
theorem oSliceU {k:IntKind}{A:Option Addr}{n cp m s:Nat}{e':TypeId}(hx:E.op x=some (.slice A n cp)) (hy:E.op y=some (.int k (m:Int))) (hm:m≤cp) (ht:elemT c.P t=some (e',s))
 (h:O M rest ((d,.slice A m cp) :: E) D H) (hN:Nat.blt d c.N=true:=by rfl):O M (⟨some d,.slice t x none (some y) none,ty,pos,af,none⟩ :: rest) E D H:=
 oC _ rfl hN (fun a w ha hw=>by
  obtain ⟨h1,inf,h2,h3⟩:=run_elemT ht
  cases A <;> simp [execOp,ha.op hx,ha.op hy,Instr.sliceAt,Instr.slice,run_underlying h1,Instr.sliceBounds,Instr.sliceBound,asIntOf,hm,sizeOf,typeInfo,h2,h3,Addr.add]) h
end
theorem C_take {α:Type}{d:Kd α}{w:World}{A:Option Addr}{xs:List α}(h:d.C w A xs) (i:Nat):d.C w A (xs.take i):=by
 refine ⟨by have:=h.1;rw [List.length_take];omega,fun hn=>?_⟩
 obtain ⟨ad,e,hc⟩:=h.2 (by rw [List.length_take] at hn;omega)
 exact ⟨ad,e,fun j x hx=>hc j x (by rw [List.getElem?_take] at hx;split at hx;exact hx;cases hx)⟩
def rn (s:ByteArray) (p:Nat):Int:=((Utf8.decode s p).1:Int)
theorem nextV_rn {s:ByteArray}{p:Nat}(h:p<s.size):nextV s p=.tuple #[.bool true,.int .i64 (p:Int),.int .i32 (rn s p)]:=by unfold nextV rn;rw [if_pos h]
theorem rn_lo {s:ByteArray}{p:Nat}(h:p<s.size) (ha:byteAt s p<128):rn s p=byteAt s p:=by
 have h1:=nextV_T h ha
 rw [nextV_rn h] at h1
 simpa using h1
theorem rn_hi {s:ByteArray}{p:Nat}(h:p<s.size) (ha:¬ byteAt s p<128):128≤rn s p:=by
 rw [byteAt_eq h] at ha
 have hg:(s.get! (p+0)).toNat=(s[p]'h).toNat:=by
  show (s.data[p]!).toNat=_
  rw [getElem!_pos s.data p h];rfl
 have h0:128≤(s[p]'h).toNat:=by omega
 have key:128≤(Utf8.decode s p).1:=by
  unfold Utf8.decode Utf8.runeError
  simp only [hg]
  rw [if_neg ZO]
  repeat' split
  all_goals first | (dsimp only;omega) | (rename_i hc;simp only [Bool.and_eq_true,decide_eq_true_eq] at hc;dsimp only;omega)
 unfold rn;omega
def mayR (c:Int) (i:Int):Bool:=(decide (97≤c) && decide (c≤122)) || decide (c=95) || decide (c=46) || ((decide (48≤c) && decide (c≤57)) && decide (0<i))
theorem bad_rn {s:ByteArray}{i:Nat}(h:i<s.size):badC s i=!mayR (rn s i) (i:Int):=by
 unfold badC mayF mayR
 by_cases ha:byteAt s i<128
 · rw [rn_lo h ha]
   congr 1
   by_cases h0:i=0
   · subst h0;simp
   · simp [h0,show 0<i by omega]
 · have:=rn_hi h ha
   rw [decide_eq_false (show ¬ byteAt s i≤122 by omega),decide_eq_false (show ¬ byteAt s i=95 by omega),decide_eq_false (show ¬ byteAt s i=46 by omega),decide_eq_false (show ¬ byteAt s i≤57 by omega),decide_eq_false (show ¬ rn s i≤122 by omega),decide_eq_false (show ¬ rn s i=95 by omega),decide_eq_false (show ¬ rn s i=46 by omega),decide_eq_false (show ¬ rn s i≤57 by omega)]
   simp
theorem ok_lo {s:ByteArray}{i:Nat}(h:badC s i=false):byteAt s i<128:=by
 unfold badC mayF at h
 simp at h
 omega
theorem name_Check {B:Base}{w:World}(hS:St B [] w) (s:ByteArray) :
 CW 63 #[.string s] w (Ret B (fun _:Unit=>True) (fun _=>.int .i64 (nameF4 s)) (fun _=>[])):=by
 refine ZX Tryz.func63 hS ?_
 refine Zh (Zi (Zp J (Zn (Za (Zh (Zk (Zh (Zi (Zo J (oLenStr J J (Z1 J J (Zp J (Zn (Za (wC (fun h5=>?_) (fun h5=>?_))))))))))))))))
 refine Zh (Zi (Zzf ?_))
 exact ⟨(),trivial,by unfold nameF4;rw [if_pos ZO];rfl,Lh⟩
 have hs24:¬ 24<s.size:=by omega
 refine Zh (Zi (Zo J (oSEq J J (Zp J (Zn (Za (wC (fun h9=>?_) (fun h9=>?_))))))))
 refine Zh (Zi (Zzf ?_))
 exact ⟨(),trivial,by unfold nameF4;rw [if_neg hs24,if_pos (size_zero.1 h9)];rfl,Lh⟩
 have hz:¬ s.size=0:=fun h=>h9 (size_zero.2 h)
 refine Zj (Zd (Za (Zh (Zh (Zi (Zo J (oRangeStr J J (fun b13=>?_))))))))
 refine Zn (Za (Zk (wLoop (ι:=Nat) (fun i=>[(0,.string s),(13,.pointer (some ⟨b13,0,none⟩))]) (fun i=>[ob b13 (.stringIter s i)]) (fun i=>i≤s.size∧∀ j,j<i→badC s j=false) (fun i=>s.size-i) 0 ?_ cv (Leads.has ZQ) ?_)))
 exact ⟨Nat.zero_le _,fun j hj=>by omega⟩
 rintro i ⟨hi,hs⟩
 try dsimp only
 refine Zh (Zi (oNextStr J ZP ?_))
 refine oExtN J (Zn (Za (Zh (wC (fun h15=>?_) (fun h15=>?_)))))
 have hil:i<s.size:=h15
 rw [nextV_rn hil]
 refine Zj (Za (Zk (Zh (Zi (oExt J ZP ?_)))))
 refine oExt J ZP ?_
 refine Zp J (Zp J (Zn (Za (Zk (Zh (Zh (Zi (Zo J (Z2 J J (Zo J (ZS (ZT 21) (fun h21=>?_) (fun h21=>?_))))))))))))
 refine Zq J J (Zo J (Zq J J (oLeq J J (Zt J J (Zp J (Zn (Za (wC (fun h18=>?_) (fun h18=>?_)))))))))
 refine Zj (Za (ZY h18 ?_))
 refine Zj (Zd (Zd (Za ?_)))
 have hno:badC s i=false:=by rw [bad_rn hil];unfold mayR;simp_all <;> omega
 rw [nextP_T hil (ok_lo hno)]
 exact ⟨rfl,i+1,⟨by omega,fun j hj=>by
 by_cases e:j=i
 · subst e;exact hno
 · exact hs j ZO⟩,by omega,cv,Lh⟩
 refine Zh (Zi (Zo J (Zy J J (Zp J (Zn (Za (wC (fun h18=>?_) (fun h18=>?_))))))))
 refine Zj (Za (ZY h18 ?_))
 refine Zj (Zd (Zd (Za ?_)))
 have hno:badC s i=false:=by rw [bad_rn hil];unfold mayR;simp_all <;> omega
 rw [nextP_T hil (ok_lo hno)]
 exact ⟨rfl,i+1,⟨by omega,fun j hj=>by
 by_cases e:j=i
 · subst e;exact hno
 · exact hs j ZO⟩,by omega,cv,Lh⟩
 refine Zh (Zi (Zo J (Zy J J (Zp J (Zn (Za (wC (fun h18=>?_) (fun h18=>?_))))))))
 refine Zj (Za (ZY h18 ?_))
 refine Zj (Zd (Zd (Za ?_)))
 have hno:badC s i=false:=by rw [bad_rn hil];unfold mayR;simp_all <;> omega
 rw [nextP_T hil (ok_lo hno)]
 exact ⟨rfl,i+1,⟨by omega,fun j hj=>by
 by_cases e:j=i
 · subst e;exact hno
 · exact hs j ZO⟩,by omega,cv,Lh⟩
 refine Zi (Zo J (Z2 J J (Zo J (ZS (ZT 31) (fun h31=>?_) (fun h31=>?_)))))
 refine Zq J J (Zo J (Zq J J (oLeq J J (Zt J J (Zo J (ZS (ZT 35) (fun h35=>?_) (fun h35=>?_)))))))
 refine Zq J J (Zo J (Zq J J (Z1 J J (Zt J J (Zp J (Zn (Za (wC (fun h18=>?_) (fun h18=>?_)))))))))
 refine Zj (Zd (Zd (Za ?_)))
 have hno:badC s i=false:=by rw [bad_rn hil];unfold mayR;simp_all <;> omega
 rw [nextP_T hil (ok_lo hno)]
 exact ⟨rfl,i+1,⟨by omega,fun j hj=>by
 by_cases e:j=i
 · subst e;exact hno
 · exact hs j ZO⟩,by omega,cv,Lh⟩
 refine Zh (Zzt ?_)
 have hyes:badC s i=true:=by rw [bad_rn hil];unfold mayR;simp_all <;> omega
 exact ⟨(),trivial,by unfold nameF4;rw [if_neg hs24,if_neg hz,if_pos (any_T hil hyes)];rfl,Lh⟩
 refine Zr J J J J (Zr J J J J (Zu J J (Zp J (Zn (Za (ZY h18 ?_))))))
 refine Zh (Zzt ?_)
 have hyes:badC s i=true:=by rw [bad_rn hil];unfold mayR;simp_all <;> omega
 exact ⟨(),trivial,by unfold nameF4;rw [if_neg hs24,if_neg hz,if_pos (any_T hil hyes)];rfl,Lh⟩
 refine Zr J J J J (Zr J J J J (Zu J J (Zo J (Zr J J J J (Zr J J J J (Zu J J (Zp J (Zn (Za (ZY h18 ?_))))))))))
 refine Zh (Zzt ?_)
 have hyes:badC s i=true:=by rw [bad_rn hil];unfold mayR;simp_all <;> omega
 exact ⟨(),trivial,by unfold nameF4;rw [if_neg hs24,if_neg hz,if_pos (any_T hil hyes)];rfl,Lh⟩
 refine Zr J J J J (Zr J J J J (Zu J J (Zp J (Zn (Za (wCondF J (Zh (Zi (Zo J (Zy J J (Zp J (Zn (Za (wC (fun h18=>?_) (fun h18=>?_)))))))))))))))
 refine Zj (Za (ZY h18 ?_))
 refine Zj (Zd (Zd (Za ?_)))
 have hno:badC s i=false:=by rw [bad_rn hil];unfold mayR;simp_all <;> omega
 rw [nextP_T hil (ok_lo hno)]
 exact ⟨rfl,i+1,⟨by omega,fun j hj=>by
 by_cases e:j=i
 · subst e;exact hno
 · exact hs j ZO⟩,by omega,cv,Lh⟩
 refine Zh (Zi (Zo J (Zy J J (Zp J (Zn (Za (wC (fun h18=>?_) (fun h18=>?_))))))))
 refine Zj (Za (ZY h18 ?_))
 refine Zj (Zd (Zd (Za ?_)))
 have hno:badC s i=false:=by rw [bad_rn hil];unfold mayR;simp_all <;> omega
 rw [nextP_T hil (ok_lo hno)]
 exact ⟨rfl,i+1,⟨by omega,fun j hj=>by
 by_cases e:j=i
 · subst e;exact hno
 · exact hs j ZO⟩,by omega,cv,Lh⟩
 refine Zi (Zo J (Z2 J J (Zo J (ZS (ZT 31) (fun h31=>?_) (fun h31=>?_)))))
 refine Zq J J (Zo J (Zq J J (oLeq J J (Zt J J (Zo J (ZS (ZT 35) (fun h35=>?_) (fun h35=>?_)))))))
 refine Zq J J (Zo J (Zq J J (Z1 J J (Zt J J (Zp J (Zn (Za (wC (fun h18=>?_) (fun h18=>?_)))))))))
 refine Zj (Zd (Zd (Za ?_)))
 have hno:badC s i=false:=by rw [bad_rn hil];unfold mayR;simp_all <;> omega
 rw [nextP_T hil (ok_lo hno)]
 exact ⟨rfl,i+1,⟨by omega,fun j hj=>by
 by_cases e:j=i
 · subst e;exact hno
 · exact hs j ZO⟩,by omega,cv,Lh⟩
 refine Zh (Zzt ?_)
 have hyes:badC s i=true:=by rw [bad_rn hil];unfold mayR;simp_all <;> omega
 exact ⟨(),trivial,by unfold nameF4;rw [if_neg hs24,if_neg hz,if_pos (any_T hil hyes)];rfl,Lh⟩
 refine Zr J J J J (Zr J J J J (Zu J J (Zp J (Zn (Za (ZY h18 ?_))))))
 refine Zh (Zzt ?_)
 have hyes:badC s i=true:=by rw [bad_rn hil];unfold mayR;simp_all <;> omega
 exact ⟨(),trivial,by unfold nameF4;rw [if_neg hs24,if_neg hz,if_pos (any_T hil hyes)];rfl,Lh⟩
 refine Zr J J J J (Zr J J J J (Zu J J (Zo J (Zr J J J J (Zr J J J J (Zu J J (Zp J (Zn (Za (ZY h18 ?_))))))))))
 refine Zh (Zzt ?_)
 have hyes:badC s i=true:=by rw [bad_rn hil];unfold mayR;simp_all <;> omega
 exact ⟨(),trivial,by unfold nameF4;rw [if_neg hs24,if_neg hz,if_pos (any_T hil hyes)];rfl,Lh⟩
 refine Zm (Zzg ?_)
 obtain rfl:i=s.size:=by omega
 exact ⟨(),trivial,by unfold nameF4;rw [if_neg hs24,if_neg hz,if_neg (by rw [any_F hs];simp)];rfl,Lh⟩
theorem indexFunc_sym1 {B:Base}{w:World}{R1:Res}(hS:St B [R1] w) (l:List ApiSymbol) (A:Option Addr) (n cp:Nat) (hn:n=l.length) (hC:kApiSymbol.C B.e A l) (gf:Nat) (lb:Array Value) (p:ApiSymbol→Bool) (hg:goodF Tryz.prog gf=true)
 (hh:∀ B' w (x:ApiSymbol),Grow B.e B'.e→x ∈ l→St B' [R1] w→CW gf (#[]++[Value.agg #[.string x.fName,.bool x.fLocal,.int .i64 x.fSort,.int .i64 x.fKind,.int .i64 x.fDef]].toArray++lb) w (Ret B' (fun _:Unit=>True) (fun _=>.bool (p x)) (fun _=>[R1]))) :
 CW 35 #[.slice A n cp,.func (.func gf) #[] lb] w (Ret B (fun _:Unit=>True) (fun _=>.int .i64 (idxI p l)) (fun _=>[R1])):=by
 subst hn
 have hl:=hC.1
 refine ZX Tryz.func35 hS ?_
 refine Zh (Zi (Zp J (Zn (Za (Zh (Zh (Zi (Zo J (Zv J J (Zo J (Zn (Za (Zk (wLoop (ι:=Nat) (fun i=>[(0,.slice A l.length cp),(1,.func (.func gf) #[] lb),(7,.int .i64 (l.length:Int)),(8,.int .i64 (i:Int))]) (fun i=>[R1]) (fun i=>i≤l.length∧∀ y ∈ l.take i,p y=false) (fun i=>l.length-i) 0 ?_ cv (Leads.has ZQ) ?_))))))))))))))
 exact ⟨Nat.zero_le _,by simp⟩
 rintro i ⟨hi,hs⟩
 try dsimp only
 refine Zh (Zi (Zx J J (Zn (Za (Zh (wC (fun h9=>?_) (fun h9=>?_)))))))
 obtain ⟨x,hx⟩:∃ x,l[i]?=some x:=⟨_,List.getElem?_eq_getElem ZO⟩
 obtain ⟨e1,cs1,hE⟩:=hC.elm hx
 obtain rfl:=kApiSymbol_open hE.K
 refine Zj (Za (Zh (Zk (Zh (Zi (Zo J (Zp J (Zn (Za (Zh (Zi (Zo J (Zo J (Zo J (oIdxE J J (hE) ZO J J ?_)))))))))))))))
 have hc14:=(hE).cell
 refine Zlx hc14 ?_
 (refine oCallV rfl rfl rfl hg (fun w hS=>frame hS ZQ (fun B' hB hS'=>hh B' w x hB (List.mem_of_getElem? hx) hS')) ?_;rintro ⟨⟩ -)
 refine Zn (Za (wC (fun h16=>?_) (fun h16=>?_)))
 refine Zh (Zi (Zo J (Zzb ?_)))
 exact ⟨(),trivial,by rw [idxI_stop hs hx (by simpa using h16)];rfl,Lh⟩
 refine Zj (Zzl ?_)
 refine Zo J (Zn (Za ?_))
 exact ⟨rfl,i+1,⟨by omega,take_not hs hx (by simpa using h16)⟩,by omega,cv,Lh⟩
 refine Zm (Zzg ?_)
 obtain rfl:i=l.length:=by omega
 rw [List.take_length] at hs
 exact ⟨(),trivial,by rw [idxI_none hs];rfl,Lh⟩
theorem indexFunc_sym2 {B:Base}{w:World}{R1 R2:Res}(hS:St B [R1,R2] w) (l:List ApiSymbol) (A:Option Addr) (n cp:Nat) (hn:n=l.length) (hC:kApiSymbol.C B.e A l) (gf:Nat) (lb:Array Value) (p:ApiSymbol→Bool) (hg:goodF Tryz.prog gf=true)
 (hh:∀ B' w (x:ApiSymbol),Grow B.e B'.e→x ∈ l→St B' [R1,R2] w→CW gf (#[]++[Value.agg #[.string x.fName,.bool x.fLocal,.int .i64 x.fSort,.int .i64 x.fKind,.int .i64 x.fDef]].toArray++lb) w (Ret B' (fun _:Unit=>True) (fun _=>.bool (p x)) (fun _=>[R1,R2]))) :
 CW 35 #[.slice A n cp,.func (.func gf) #[] lb] w (Ret B (fun _:Unit=>True) (fun _=>.int .i64 (idxI p l)) (fun _=>[R1,R2])):=by
 subst hn
 have hl:=hC.1
 refine ZX Tryz.func35 hS ?_
 refine Zh (Zi (Zp J (Zn (Za (Zh (Zh (Zi (Zo J (Zv J J (Zo J (Zn (Za (Zk (wLoop (ι:=Nat) (fun i=>[(0,.slice A l.length cp),(1,.func (.func gf) #[] lb),(7,.int .i64 (l.length:Int)),(8,.int .i64 (i:Int))]) (fun i=>[R1,R2]) (fun i=>i≤l.length∧∀ y ∈ l.take i,p y=false) (fun i=>l.length-i) 0 ?_ cv (Leads.has ZQ) ?_))))))))))))))
 exact ⟨Nat.zero_le _,by simp⟩
 rintro i ⟨hi,hs⟩
 try dsimp only
 refine Zh (Zi (Zx J J (Zn (Za (Zh (wC (fun h9=>?_) (fun h9=>?_)))))))
 obtain ⟨x,hx⟩:∃ x,l[i]?=some x:=⟨_,List.getElem?_eq_getElem ZO⟩
 obtain ⟨e1,cs1,hE⟩:=hC.elm hx
 obtain rfl:=kApiSymbol_open hE.K
 refine Zj (Za (Zh (Zk (Zh (Zi (Zo J (Zp J (Zn (Za (Zh (Zi (Zo J (Zo J (Zo J (oIdxE J J (hE) ZO J J ?_)))))))))))))))
 have hc14:=(hE).cell
 refine Zlx hc14 ?_
 (refine oCallV rfl rfl rfl hg (fun w hS=>frame hS ZQ (fun B' hB hS'=>hh B' w x hB (List.mem_of_getElem? hx) hS')) ?_;rintro ⟨⟩ -)
 refine Zn (Za (wC (fun h16=>?_) (fun h16=>?_)))
 refine Zh (Zi (Zo J (Zzb ?_)))
 exact ⟨(),trivial,by rw [idxI_stop hs hx (by simpa using h16)];rfl,Lh⟩
 refine Zj (Zzl ?_)
 refine Zo J (Zn (Za ?_))
 exact ⟨rfl,i+1,⟨by omega,take_not hs hx (by simpa using h16)⟩,by omega,cv,Lh⟩
 refine Zm (Zzg ?_)
 obtain rfl:i=l.length:=by omega
 rw [List.take_length] at hs
 exact ⟨(),trivial,by rw [idxI_none hs];rfl,Lh⟩
theorem containsFunc_sym {B:Base}{w:World}{R1:Res}(hS:St B [R1] w) (l:List ApiSymbol) (A:Option Addr) (n cp:Nat) (hn:n=l.length) (hC:kApiSymbol.C B.e A l) (gf:Nat) (lb:Array Value) (p:ApiSymbol→Bool) (hg:goodF Tryz.prog gf=true)
 (hh:∀ B' w (x:ApiSymbol),Grow B.e B'.e→x ∈ l→St B' [R1] w→CW gf (#[]++[Value.agg #[.string x.fName,.bool x.fLocal,.int .i64 x.fSort,.int .i64 x.fKind,.int .i64 x.fDef]].toArray++lb) w (Ret B' (fun _:Unit=>True) (fun _=>.bool (p x)) (fun _=>[R1]))) :
 CW 66 #[.slice A n cp,.func (.func gf) #[] lb] w (Ret B (fun _:Unit=>True) (fun _=>.bool (l.any p)) (fun _=>[R1])):=by
 refine ZX Tryz.func66 hS ?_
 refine Zh (Zi (Zp J (Zn (Za (Zh (Zi (Zo J (Zo J ?_))))))))
 (refine ZC0 rfl ZK (fun w hS=>frame hS ZQ (fun B' hB hS'=>indexFunc_sym1 hS' l A n cp hn (Kd.C_grow hB hC) gf lb p hg (fun B2 w2 x hB2 hx hS2=>hh B2 w2 x (hB.trans hB2) hx hS2))) ?_;rintro ⟨⟩ -)
 refine Z2 J J (Zza ?_)
 exact ⟨(),trivial,by show Value.bool (decide (0≤idxI p l))=_;congr 1;rw [Bool.eq_iff_iff,decide_eq_true_eq];exact idxI_iff,Lh⟩
theorem obj_Items {B:Base}{w:World}(hS:St B [] w) (o:ApiObject) (oc:List Value) (ho:kApiObject.K B.e o oc) (hg:GoodO o) :
 CW 12 #[.agg oc.toArray] w (Ret B (fun _:Unit=>True) (fun _=>.int .i64 (itemsF o)) (fun _=>[])):=by
 obtain ⟨A0,c0,A1,c1,A2,c2,rfl,m0,q0,m1,q1,m2,q2⟩:=kApiObject_open ho
 have hn1:=hg.funcs
 have hn2:=hg.datas
 refine ZX Tryz.func12 hS ?_
 refine Zh (Zi (oBox J ZP (fun b1=>?_)))
 refine Zp J (Zn (Za (Zh (Zi (Zz (n:=1) (m:=1) J J J (Zld ?_))))))
 refine Zv J J (Zz (n:=2) (m:=2) J J J (Zld ?_))
 refine Zv J J ?_
 first | refine oAdd rfl rfl ZO ?_ | refine oAddW rfl rfl ?_
 refine Zp J (Zzj ?_)
 exact ⟨(),trivial,rfl,Lh⟩
theorem obj_defines {B:Base}{w:World}(hS:St B [] w) (o:ApiObject) (oc:List Value) (ho:kApiObject.K B.e o oc) (hg:GoodO o) (x:ApiSymbol) (xc:List Value) (hx:kApiSymbol.K B.e x xc) (item:Int) :
 CW 37 #[.agg oc.toArray,.agg xc.toArray,.int .i64 item] w (Ret B (fun _:Unit=>True) (fun _=>.bool (definesF o item x)) (fun _=>[])):=by
 obtain ⟨A0,c0,A1,c1,A2,c2,rfl,m0,q0,m1,q1,m2,q2⟩:=kApiObject_open ho
 obtain rfl:=kApiSymbol_open hx
 have hn1:=hg.funcs
 have hn2:=hg.datas
 have hit:itemsF o=(o.fFuncs.length:Int)+(o.fDatas.length:Int):=rfl
 refine ZX Tryz.func37 hS ?_
 refine Zh (Zi (oBox J ZP (fun b3=>?_)))
 refine oBox J ZP (fun b4=>?_)
 refine Zp J (Zn (Za (Zh (Zk (Zh (Zh (Zi (Zo J (Zx J J (Zp J (Zn (Za (wC (fun h7=>?_) (fun h7=>?_))))))))))))))
 refine Zj (Za (ZY h7 ?_))
 refine Zh (Zi (Zzf ?_))
 exact ⟨(),trivial,by unfold definesF;rw [if_pos (by first | omega | (rcases Int.lt_or_le item 0 with h | h;exact .inl h;right;first | omega | simp_all))];rfl,Lh⟩
 refine Zi (Zo J (Zla ?_))
 (refine ZC0 rfl ZK (fun w hS=>frame hS ZQ (fun B' hB hS'=>obj_Items hS' o _ (kApiObject.K_grow hB ho) hg)) ?_;rintro ⟨⟩ -)
 refine Z2 J J (Zp J (Zn (Za (wC (fun h7=>?_) (fun h7=>?_)))))
 refine Zh (Zi (Zzf ?_))
 exact ⟨(),trivial,by unfold definesF;rw [if_pos (by first | omega | (rcases Int.lt_or_le item 0 with h | h;exact .inl h;right;first | omega | simp_all))];rfl,Lh⟩
 refine Zh (Zi (Zo J (Zz (n:=1) (m:=1) J J J (Zld ?_))))
 refine Zv J J (Zx J J (Zp J (Zn (Za (wC (fun h14=>?_) (fun h14=>?_))))))
 refine Zh (Zi (Zz (n:=2) (m:=2) J J J (Zld ?_)))
 refine Zy J J (Zo J (ZS (ZT 23) (fun h23=>?_) (fun h23=>?_)))
 refine Zq J J (Zz (n:=4) (m:=4) J J J (Zzh ?_))
 refine Zq J J (Zo J (Zq J J (Zy J J (Zt J J (Zzf ?_)))))
 exact ⟨(),trivial,by unfold definesF;rw [if_neg ZO,if_pos ZO];simp [resVal,h23],Lh⟩
 refine Zr J J J J (Zr J J J J (Zr J J J J (Zr J J J J (Zu J J (Zzf ?_)))))
 exact ⟨(),trivial,by unfold definesF;rw [if_neg ZO,if_pos ZO];simp [resVal,h23],Lh⟩
 refine Zj (Zd (Za (Zh (Zi (Zz (n:=2) (m:=2) J J J (Zld ?_))))))
 refine Zy J J (Zo J (ZS (ZT 32) (fun h32=>?_) (fun h32=>?_)))
 refine Zq J J (Zz (n:=4) (m:=4) J J J (Zzh ?_))
 refine Zq J J (Zo J (Zq J J (Zz (n:=1) (m:=1) J J J (Zzh ?_))))
 refine Zq J J (Zv J J (Zq J J (oSub J J ZO ?_)))
 refine Zq J J (Zy J J (Zt J J (Zza ?_)))
 exact ⟨(),trivial,by unfold definesF;rw [if_neg ZO,if_neg ZO];simp [resVal,h32],Lh⟩
 refine Zr J J J J (Zr J J J J (Zr J J J J (Zr J J J J (Zr J J J J (Zzp ?_)))))
 exact ⟨(),trivial,by unfold definesF;rw [if_neg ZO,if_neg ZO];simp [resVal,h32],Lh⟩
theorem obj_Definer1 {B:Base}{w:World}(o:ApiObject) (A0:Option Addr) (c0:Nat) (A1:Option Addr) (c1:Nat) (A2:Option Addr) (c2 b2 b3:Nat) (item:Int) (hS:St B [blk b2 26 [.slice A0 o.fSymbols.length c0,.slice A1 o.fFuncs.length c1,.slice A2 o.fDatas.length c2],blk b3 3 [.int .i64 item]] w) (ho:kApiObject.K B.e o [.slice A0 o.fSymbols.length c0,.slice A1 o.fFuncs.length c1,.slice A2 o.fDatas.length c2]) (hg:GoodO o) (x:ApiSymbol) (hx:kApiSymbol.K B.e x [.string x.fName,.bool x.fLocal,.int .i64 x.fSort,.int .i64 x.fKind,.int .i64 x.fDef]) :
 CW 36 #[.agg #[.string x.fName,.bool x.fLocal,.int .i64 x.fSort,.int .i64 x.fKind,.int .i64 x.fDef],.pointer (some ⟨b2,0,none⟩),.pointer (some ⟨b3,0,none⟩)] w (Ret B (fun _:Unit=>True) (fun _=>.bool (definesF o item x)) (fun _=>[blk b2 26 [.slice A0 o.fSymbols.length c0,.slice A1 o.fFuncs.length c1,.slice A2 o.fDatas.length c2],blk b3 3 [.int .i64 item]])):=by
 refine ZX Tryz.func36 hS ?_
 refine Zh (Zi (oBox J ZP (fun b3=>?_)))
 refine Zp J (Zn (Za (Zzq ?_)))
 refine Zla ?_
 refine Zld ?_
 (refine ZC0 rfl ZK (fun w hS=>frame hS ZQ (fun B' hB hS'=>obj_defines hS' o _ (kApiObject.K_grow hB ho) hg x _ (kApiSymbol.K_grow hB hx) item)) ?_;rintro ⟨⟩ -)
 refine Zp J (Zzj ?_)
 exact ⟨(),trivial,rfl,Lh⟩
theorem obj_Definer {B:Base}{w:World}(hS:St B [] w) (o:ApiObject) (oc:List Value) (ho:kApiObject.K B.e o oc) (hg:GoodO o) (item:Int) :
 CW 14 #[.agg oc.toArray,.int .i64 item] w (Ret B (fun _:Unit=>True) (fun _=>.int .i64 (definerF o item)) (fun _=>[])):=by
 obtain ⟨A0,c0,A1,c1,A2,c2,rfl,m0,q0,m1,q1,m2,q2⟩:=kApiObject_open ho
 refine ZX Tryz.func14 hS ?_
 refine Zh (Zi (oBox J ZP (fun b2=>?_)))
 refine oBox J ZP (fun b3=>?_)
 refine Zp J (Zn (Za (Zh (Zi (Zz (n:=0) (m:=0) J J J (Zld ?_))))))
 refine oMakeFunc J ?_
 (refine ZC0 rfl ZK (fun w hS=>frame hS ZQ (fun B' hB hS'=>indexFunc_sym2 hS' o.fSymbols A0 o.fSymbols.length c0 rfl (Kd.C_grow hB q0) 36 #[.pointer (some ⟨b2,0,none⟩),.pointer (some ⟨b3,0,none⟩)] (definesF o item) ZK (fun B2 w2 x hB2 hx2 hS2=>obj_Definer1 o A0 c0 A1 c1 A2 c2 b2 b3 item hS2 (kApiObject.K_grow (hB.trans hB2) ho) hg x (kApiSymbol_mk _ x)))) ?_;rintro ⟨⟩ -)
 refine Zp J (Zzj ?_)
 exact ⟨(),trivial,rfl,Lh⟩
theorem obj_kind {B:Base}{w:World}(hS:St B [] w) (x:ApiSymbol) (xc:List Value) (hx:kApiSymbol.K B.e x xc) :
 CW 65 #[.agg xc.toArray] w (Ret B (fun _:Unit=>True) (fun _=>.bool (kindB x)) (fun _=>[])):=by
 obtain rfl:=kApiSymbol_open hx
 refine ZX Tryz.func65 hS ?_
 refine Zh (Zi (oBox J ZP (fun b1=>?_)))
 refine Zp J (Zn (Za (Zh (Zh (Zi (Zz (n:=2) (m:=2) J J J (Zld ?_)))))))
 refine Zn (Za (Zk (Zh (Zi (Zy J J (Zp J (Zn (Za (wC (fun h5=>?_) (fun h5=>?_))))))))))
 refine Zh (Zi (Zz (n:=3) (m:=3) J J J (Zld ?_)))
 (refine ZC0 rfl ZK (fun w hS=>frame hS ZQ (fun B' hB hS'=>sig_Is hS' x.fKind)) ?_;rintro ⟨⟩ -)
 refine Zno ?_
 refine Zp J (Zn (Za (Zl (Zf (Zc (Zw (fi1 J ?_)))))))
 exact ⟨(),trivial,by unfold kindB;rw [show x.fSort=1 from h5];simp [resVal],Lh⟩
 refine Zh (Zi (Zy J J (Zp J (Zn (Za (wC (fun h11=>?_) (fun h11=>?_)))))))
 refine Zh (Zi (Zz (n:=3) (m:=3) J J J (Zld ?_)))
 (refine ZC0 rfl ZK (fun w hS=>frame hS ZQ (fun B' hB hS'=>sig_Text hS' x.fKind)) ?_;rintro ⟨⟩ -)
 refine oSEq J J (Zzf ?_)
 exact ⟨(),trivial,by unfold kindB;rw [show x.fSort=2 from h11];simp [resVal];exact Iff.rfl,Lh⟩
 refine Zj (Zd (Zzv ?_))
 exact ⟨(),trivial,by unfold kindB;simp [resVal,show ¬ x.fSort=1 from h5,show ¬ x.fSort=2 from h11],Lh⟩
theorem obj_named {B:Base}{w:World}(x:ApiSymbol) (b5:Nat) (hS:St B [blk b5 37 [.string x.fName,.bool x.fLocal,.int .i64 x.fSort,.int .i64 x.fKind,.int .i64 x.fDef]] w) (y:ApiSymbol) :
 CW 61 #[.agg #[.string y.fName,.bool y.fLocal,.int .i64 y.fSort,.int .i64 y.fKind,.int .i64 y.fDef],.pointer (some ⟨b5,0,none⟩)] w (Ret B (fun _:Unit=>True) (fun _=>.bool (nameP x y)) (fun _=>[blk b5 37 [.string x.fName,.bool x.fLocal,.int .i64 x.fSort,.int .i64 x.fKind,.int .i64 x.fDef]])):=by
 refine ZX Tryz.func61 hS ?_
 refine Zh (Zi (oBox J ZP (fun b2=>?_)))
 refine Zp J (Zn (Za (Zh (Zi (Zz (n:=0) (m:=0) J J J (Zld ?_))))))
 refine Zz (n:=0) (m:=0) J J J (Zld ?_)
 refine oSEq J J (Zza ?_)
 exact ⟨(),trivial,rfl,Lh⟩
def whenF (is:Bool) (e:Int):Int:=if is=true then e else 0
theorem obj_when {B:Base}{w:World}(hS:St B [] w) (is:Bool) (e:Int) :
 CW 64 #[.bool is,.int .i64 e] w (Ret B (fun _:Unit=>True) (fun _=>.int .i64 (whenF is e)) (fun _=>[])):=by
 refine ZX Tryz.func64 hS ?_
 refine Zh (Zi (Zp J (Zn (Za (Zh (Zh (Zi (Zo J (Zn (Za (wC (fun h5=>?_) (fun h5=>?_))))))))))))
 refine Zh (Zi (Zo J (Zzd ?_)))
 exact ⟨(),trivial,by unfold whenF;rw [if_pos h5];rfl,Lh⟩
 refine Zj (Zzv ?_)
 exact ⟨(),trivial,by unfold whenF;rw [if_neg (by rw [h5];simp)];rfl,Lh⟩
theorem fst_drop {l:List Int}{i:Nat}{x:Int}(h:l[i]?=some x):fstE (l.drop i)=if x≠0 then x else fstE (l.drop (i+1)):=by
 obtain ⟨hi,rfl⟩:=List.getElem?_eq_some_iff.1 h
 rw [← List.getElem_cons_drop (h:=hi)];rfl
theorem obj_first {B:Base}{w:World}(hS:St B [] w) (l:List Int) (A:Option Addr) (n cp:Nat) (hn:n=l.length) (hC:(Kd.int .i64).C B.e A l) :
 CW 62 #[.slice A n cp] w (Ret B (fun _:Unit=>True) (fun _=>.int .i64 (fstE l)) (fun _=>[])):=by
 subst hn
 have hl:=hC.1
 refine ZX Tryz.func62 hS ?_
 refine Zh (Zi (Zp J (Zn (Za (Zh (Zh (Zi (Zo J (Zv J J (Zo J (Zn (Za (Zk (wLoop (ι:=Nat) (fun i=>[(5,.slice A l.length cp),(6,.int .i64 (l.length:Int)),(7,.int .i64 (i:Int))]) (fun i=>[]) (fun i=>i≤l.length∧fstE (l.drop i)=fstE l) (fun i=>l.length-i) 0 ?_ cv (Leads.has ZQ) ?_))))))))))))))
 exact ⟨Nat.zero_le _,rfl⟩
 rintro i ⟨hi,hs⟩
 try dsimp only
 refine Zh (Zi (Zx J J (Zn (Za (Zh (wC (fun h8=>?_) (fun h8=>?_)))))))
 obtain ⟨x,hx⟩:∃ x,l[i]?=some x:=⟨_,List.getElem?_eq_getElem ZO⟩
 obtain ⟨e1,cs1,hE⟩:=hC.elm hx
 obtain rfl:=(show cs1=[Value.int .i64 x] from hE.K)
 refine Zj (Za (Zh (Zk (Zh (Zi (oIdxE J J (hE) ZO J J ?_))))))
 have hc9:=(hE).cell
 refine Zlx hc9 ?_
 refine Zp J (Zn (Za (Zh (Zi (Zo J (Z0 J J (Zn (Za (wC (fun h12=>?_) (fun h12=>?_))))))))))
 refine Zh (Zi (Zo J (Zzb ?_)))
 exact ⟨(),trivial,by rw [← hs,fst_drop hx,if_pos (by first | exact h12 | simpa using h12)];rfl,Lh⟩
 refine Zj (Zzl ?_)
 refine Zo J (Zn (Za ?_))
 exact ⟨rfl,i+1,⟨by omega,by rw [← hs,fst_drop hx,if_neg (by first | exact h12 | simpa using h12)]⟩,by omega,cv,Lh⟩
 refine Zm (Zzg ?_)
 obtain rfl:i=l.length:=by omega
 exact ⟨(),trivial,by rw [← hs,List.drop_length];rfl,Lh⟩
theorem when_fst {c:Bool}{e:Int}{l:List Int}(h:e≠0):fstE (whenF c e :: l)=if c=true then e else fstE l:=by
 cases c with
 | false=>rfl
 | true=>show (if e≠0 then e else fstE l)=e;rw [if_pos h]
theorem sym_fir {o:ApiObject}{i:Nat}{x:ApiSymbol} : fstE [nameF4 x.fName,whenF (kindB x) 8,whenF ((o.fSymbols.take i).any (nameP x)) 12,whenF (decide (x.fDef≠-1) && (decide (x.fDef≠(aheadN x (o.fSymbols.take i):Int)) || decide ((mostN o x:Int)≤(aheadN x (o.fSymbols.take i):Int)))) 9,whenF (x.fLocal && decide (x.fDef = -1)) 13]=symX o i x:=by
 have h4:(decide (x.fDef≠-1) && (decide (x.fDef≠(aheadN x (o.fSymbols.take i):Int)) || decide ((mostN o x:Int)≤(aheadN x (o.fSymbols.take i):Int))))=true↔x.fDef≠-1∧(x.fDef≠(aheadN x (o.fSymbols.take i):Int)∨(mostN o x:Int)≤x.fDef):=by
  simp only [Bool.and_eq_true,Bool.or_eq_true,decide_eq_true_eq]
  constructor
  · rintro ⟨a,b⟩
    refine ⟨a,?_⟩
    by_cases c:x.fDef=(aheadN x (o.fSymbols.take i):Int)
    · right;rcases b with b | b
      · exact absurd c b
      · omega
    · exact .inl c
  · rintro ⟨a,b⟩
    refine ⟨a,?_⟩
    by_cases c:x.fDef=(aheadN x (o.fSymbols.take i):Int)
    · right;rcases b with b | b
      · exact absurd c b
      · omega
    · exact .inl c
 have h6:(x.fLocal && decide (x.fDef = -1))=true↔x.fLocal=true∧x.fDef = -1:=by simp
 unfold symX
 show (if nameF4 x.fName≠0 then nameF4 x.fName else fstE _)=_
 rw [when_fst (by decide),when_fst (by decide),when_fst (by decide),when_fst (by decide)]
 simp only [h4,h6]
 rfl
theorem obj_symbol {B:Base}{w:World}(hS:St B [] w) (o:ApiObject) (oc:List Value) (ho:kApiObject.K B.e o oc) (hg:GoodO o) (i:Nat) (hi:i<o.fSymbols.length) :
 CW 30 #[.agg oc.toArray,.int .i64 (i:Int)] w (Ret B (fun _:Unit=>True) (fun _=>.int .i64 (symE o i)) (fun _=>[])):=by
 obtain ⟨A0,c0,A1,c1,A2,c2,rfl,m0,q0,m1,q1,m2,q2⟩:=kApiObject_open ho
 have hn0:=hg.syms
 have hn1:=hg.funcs
 have hn2:=hg.datas
 obtain ⟨x,hx⟩:∃ x,o.fSymbols[i]?=some x:=⟨_,List.getElem?_eq_getElem hi⟩
 obtain ⟨e1,cs1,hE⟩:=q0.elm hx
 obtain rfl:=kApiSymbol_open hE.K
 have hxK:=hE.K
 have htl:(o.fSymbols.take i).length=i:=by rw [List.length_take];omega
 have hqt:kApiSymbol.C B.e A0 (o.fSymbols.take i):=C_take q0 i
 rw [symE_at hx,← sym_fir]
 refine ZX Tryz.func30 hS ?_
 refine Zh (Zi (oBox J ZP (fun b2=>?_)))
 refine Zp J (Zn (Za (Zh (Zi (Zz (n:=0) (m:=0) J J J (Zld ?_))))))
 refine Zo J (oIdxE J J (hE) ZO J J ?_)
 have hc14:=(hE).cell
 refine Zlx hc14 ?_
 refine oAlloc J ZP (fun b5=>?_)
 refine Zsa ?_
 refine Zn (Za (Zh (Zi (Zz (n:=1) (m:=1) J J J (Zld ?_)))))
 refine Zv J J (Zp J (Zn (Za (Zh (Zh (Zi (Zz (n:=2) (m:=2) J J J (Zld ?_))))))))
 refine Zy J J (Zn (Za (wC (fun h21=>?_) (fun h21=>?_))))
 refine Zi (Zz (n:=2) (m:=2) J J J (Zld ?_))
 refine Zv J J (Zp J (Zn (Za (Zh (Zi (oMakeFunc J ?_))))))
 refine ZS0 (t:=6) (v':=.int .i64 (mostN o x:Int)) J (by unfold mostN;rw [if_pos (show x.fSort=2 from h21)]) ?_
 refine Zp J (Zn (Za (Zh (Zi (Zp J ?_)))))
 refine ZS0 (t:=8) (v':=.int .i64 (aheadN x (o.fSymbols.take 0):Int)) J (by unfold aheadN;simp) ?_
 refine Zn (Za (Zh (Zh (Zi (Zz (n:=0) (m:=0) J J J (Zld ?_))))))
 refine Zo J (oSliceU J J ZO J ?_)
 refine Zv J J (Zo J (Zn (Za (Zk (wLoop (ι:=Nat) (fun k=>[(1,.int .i64 (i:Int)),(2,.pointer (some ⟨b2,0,none⟩)),(5,.pointer (some ⟨b5,0,none⟩)),(6,.int .i64 (mostN o x:Int)),(7,.func (.func 61) #[] #[.pointer (some ⟨b5,0,none⟩)]),(8,.int .i64 (aheadN x (o.fSymbols.take k):Int)),(29,.slice A0 i c0),(30,.int .i64 (i:Int)),(31,.int .i64 (k:Int))]) (fun k=>[blk b2 26 [.slice A0 o.fSymbols.length c0,.slice A1 o.fFuncs.length c1,.slice A2 o.fDatas.length c2],blk b5 37 [.string x.fName,.bool x.fLocal,.int .i64 x.fSort,.int .i64 x.fKind,.int .i64 x.fDef]]) (fun k=>k≤i) (fun k=>i-k) 0 ?_ cv (Leads.has ZQ) ?_)))))
 exact Nat.zero_le _
 rintro k hk
 have hal:=ahead_le x (o.fSymbols.take k)
 have htk:(o.fSymbols.take k).length≤60:=by rw [List.length_take];omega
 try dsimp only
 refine Zh (Zi (Zx J J (Zn (Za (Zh (wC (fun h32=>?_) (fun h32=>?_)))))))
 obtain ⟨y,hy⟩:∃ y,o.fSymbols[k]?=some y:=⟨_,List.getElem?_eq_getElem ZO⟩
 have hyt:(o.fSymbols.take i)[k]?=some y:=by rw [List.getElem?_take,if_pos ZO,hy]
 obtain ⟨e2,cs2,hE2⟩:=hqt.elm hyt
 obtain rfl:=kApiSymbol_open hE2.K
 refine Zj (Za (Zh (Zk (Zh (Zi (oIdxE J J (hE2) ZO J J ?_))))))
 have hc33:=(hE2).cell
 refine Zlx hc33 ?_
 refine oAlloc J ZP (fun b10=>?_)
 refine Zsa ?_
 refine Zn (Za (Zh (Zi (Zz (n:=2) (m:=2) J J J (Zld ?_)))))
 refine Zz (n:=2) (m:=2) J J J (Zld ?_)
 refine Zy J J (Zo J (ZS (ZT 40) (fun h40=>?_) (fun h40=>?_)))
 refine Zq J J (Zz (n:=4) (m:=4) J J J (Zzh ?_))
 refine Zq J J (Z0 J J (Zt J J (Zn (Za (wC (fun h44=>?_) (fun h44=>?_))))))
 have hap:aheadP x y=true:=by unfold aheadP;simp [show y.fSort=x.fSort from h40];first | exact h44 | simpa using h44
 refine Zi (Zo J ?_)
 first | refine oAdd rfl rfl ZO ?_ | refine oAddW rfl rfl ?_
 refine Zp J ?_
 skip
 refine Zn (Zzl ?_)
 refine Zo J (Zn (Za ?_))
 exact ⟨rfl,k+1,by omega,by omega,by rw [ahead_succ x hy,if_pos hap];exact cv,Lh⟩
 have hap:¬ aheadP x y=true:=by unfold aheadP;simp [show y.fSort=x.fSort from h40];first | exact h44 | simpa using h44
 refine Zj (Zzl ?_)
 refine Zo J (Zn (Za ?_))
 exact ⟨rfl,k+1,by omega,by omega,by rw [ahead_succ x hy,if_neg hap,Nat.add_zero];exact cv,Lh⟩
 have hap:¬ aheadP x y=true:=by unfold aheadP;simp [show ¬ y.fSort=x.fSort from h40]
 refine Zr J J J J (Zr J J J J (Zr J J J J (Zu J J (Zn (Za (wCondF J (Zj (Zzl ?_))))))))
 refine Zo J (Zn (Za ?_))
 exact ⟨rfl,k+1,by omega,by omega,by rw [ahead_succ x hy,if_neg hap,Nat.add_zero];exact cv,Lh⟩
 obtain rfl:k=i:=by omega
 refine Zm (Zb (Zb (Ze (Za (Zh (wDrawG J [0,1,3,6,7,8,9,10,13,14,15,28,29] [(2,[3,6,7,8,9,10,13,14,15,28,29],[]),(4,[6,7,8,9,10,13,14,15,28,29],[]),(5,[6,7,8,9,10,13,14,15,28,29],[]),(11,[13,14,15,28,29],[]),(12,[13,14,15,28,29],[16,17,18,19,20,21,22,23,24,25,26]),(27,[28,29],[30,31,32,33,34]),(35,[],[]),(36,[],[]),(37,[],[])] [38] 24 ZK J J (fun w0=>?_)))))))
 refine Zz (n:=0) (m:=0) J J J (Zld ?_)
 refine Zla ?_
 refine Zz (n:=0) (m:=0) J J J (Zld ?_)
 refine Zo J (oSliceU J J ZO J ?_)
 refine Zo J (Zz (n:=4) (m:=4) J J J (Zld ?_))
 refine Z0 J J (Zz (n:=1) (m:=1) J J J (Zld ?_))
 refine Z4 (Z5 J ?_)
 (refine ZC0 rfl ZK (fun w hS=>frame hS ZQ (fun B' hB hS'=>name_Check hS' x.fName)) ?_;rintro ⟨⟩ -)
 refine ZG ?_ J (fun w0=>?_)
 refine Z8 J J J J (fun w0=>?_) ?_
 refine Zla ?_
 exact Z9 rfl
 refine Z8 J J J J (fun w0=>?_) ?_
 refine Zz (n:=0) (m:=0) J J J ?_
 exact Z9 rfl
 refine Z8 J J J J (fun w0=>?_) ?_
 refine Zld ?_
 exact Z9 rfl
 refine Z8 J J J J (fun w0=>?_) ?_
 refine Zo J ?_
 exact Z9 rfl
 refine Z8 J J J J (fun w0=>?_) ?_
 refine oSliceU J J ZO J ?_
 exact Z9 rfl
 refine Z8 J J J J (fun w0=>?_) ?_
 refine Zo J ?_
 exact Z9 rfl
 refine Z8 J J J J (fun w0=>?_) ?_
 refine Zz (n:=4) (m:=4) J J J ?_
 exact Z9 rfl
 refine Z8 J J J J (fun w0=>?_) ?_
 refine Zld ?_
 exact Z9 rfl
 refine Z8 J J J J (fun w0=>?_) ?_
 refine Z0 J J ?_
 exact Z9 rfl
 refine Z8 J J J J (fun w0=>?_) ?_
 refine Zz (n:=1) (m:=1) J J J ?_
 exact Z9 rfl
 refine Z8 J J J J (fun w0=>?_) ?_
 refine Zld ?_
 exact Z9 rfl
 exact AgainG.nil
 refine Z4 (Z5 J ?_)
 (refine ZC0 rfl ZK (fun w hS=>frame hS ZQ (fun B' hB hS'=>obj_kind hS' x _ (kApiSymbol.K_grow hB hxK))) ?_;rintro ⟨⟩ -)
 refine ZG ?_ J (fun w0=>?_)
 refine Z8 J J J J (fun w0=>?_) ?_
 refine Zz (n:=0) (m:=0) J J J ?_
 exact Z9 rfl
 refine Z8 J J J J (fun w0=>?_) ?_
 refine Zld ?_
 exact Z9 rfl
 refine Z8 J J J J (fun w0=>?_) ?_
 refine Zo J ?_
 exact Z9 rfl
 refine Z8 J J J J (fun w0=>?_) ?_
 refine oSliceU J J ZO J ?_
 exact Z9 rfl
 refine Z8 J J J J (fun w0=>?_) ?_
 refine Zo J ?_
 exact Z9 rfl
 refine Z8 J J J J (fun w0=>?_) ?_
 refine Zz (n:=4) (m:=4) J J J ?_
 exact Z9 rfl
 refine Z8 J J J J (fun w0=>?_) ?_
 refine Zld ?_
 exact Z9 rfl
 refine Z8 J J J J (fun w0=>?_) ?_
 refine Z0 J J ?_
 exact Z9 rfl
 refine Z8 J J J J (fun w0=>?_) ?_
 refine Zz (n:=1) (m:=1) J J J ?_
 exact Z9 rfl
 refine Z8 J J J J (fun w0=>?_) ?_
 refine Zld ?_
 exact Z9 rfl
 exact AgainG.nil
 refine Z4 (Z5 J ?_)
 (refine ZC0 rfl ZK (fun w hS=>frame hS ZQ (fun B' hB hS'=>obj_when hS' (kindB x) 8)) ?_;rintro ⟨⟩ -)
 refine ZG ?_ J (fun w0=>?_)
 refine Z8 J J J J (fun w0=>?_) ?_
 refine Zz (n:=0) (m:=0) J J J ?_
 exact Z9 rfl
 refine Z8 J J J J (fun w0=>?_) ?_
 refine Zld ?_
 exact Z9 rfl
 refine Z8 J J J J (fun w0=>?_) ?_
 refine Zo J ?_
 exact Z9 rfl
 refine Z8 J J J J (fun w0=>?_) ?_
 refine oSliceU J J ZO J ?_
 exact Z9 rfl
 refine Z8 J J J J (fun w0=>?_) ?_
 refine Zo J ?_
 exact Z9 rfl
 refine Z8 J J J J (fun w0=>?_) ?_
 refine Zz (n:=4) (m:=4) J J J ?_
 exact Z9 rfl
 refine Z8 J J J J (fun w0=>?_) ?_
 refine Zld ?_
 exact Z9 rfl
 refine Z8 J J J J (fun w0=>?_) ?_
 refine Z0 J J ?_
 exact Z9 rfl
 refine Z8 J J J J (fun w0=>?_) ?_
 refine Zz (n:=1) (m:=1) J J J ?_
 exact Z9 rfl
 refine Z8 J J J J (fun w0=>?_) ?_
 refine Zld ?_
 exact Z9 rfl
 exact AgainG.nil
 refine Z4 (Z5 J ?_)
 (refine ZC0 rfl ZK (fun w hS=>frame hS ZQ (fun B' hB hS'=>containsFunc_sym hS' (o.fSymbols.take k) A0 k c0 htl.symm (Kd.C_grow hB hqt) 61 #[.pointer (some ⟨b5,0,none⟩)] (nameP x) ZK (fun B2 w2 y hB2 hy2 hS2=>obj_named x b5 hS2 y))) ?_;rintro ⟨⟩ -)
 refine ZG ?_ J (fun w0=>?_)
 refine Z8 J J J J (fun w0=>?_) ?_
 refine Zz (n:=4) (m:=4) J J J ?_
 exact Z9 rfl
 refine Z8 J J J J (fun w0=>?_) ?_
 refine Zld ?_
 exact Z9 rfl
 refine Z8 J J J J (fun w0=>?_) ?_
 refine Z0 J J ?_
 exact Z9 rfl
 refine Z8 J J J J (fun w0=>?_) ?_
 refine Zz (n:=1) (m:=1) J J J ?_
 exact Z9 rfl
 refine Z8 J J J J (fun w0=>?_) ?_
 refine Zld ?_
 exact Z9 rfl
 exact AgainG.nil
 refine Z4 (Z5 J ?_)
 (refine ZC0 rfl ZK (fun w hS=>frame hS ZQ (fun B' hB hS'=>obj_when hS' ((o.fSymbols.take k).any (nameP x)) 12)) ?_;rintro ⟨⟩ -)
 refine ZG ?_ J (fun w0=>?_)
 refine Z8 J J J J (fun w0=>?_) ?_
 refine Zz (n:=4) (m:=4) J J J ?_
 exact Z9 rfl
 refine Z8 J J J J (fun w0=>?_) ?_
 refine Zld ?_
 exact Z9 rfl
 refine Z8 J J J J (fun w0=>?_) ?_
 refine Z0 J J ?_
 exact Z9 rfl
 refine Z8 J J J J (fun w0=>?_) ?_
 refine Zz (n:=1) (m:=1) J J J ?_
 exact Z9 rfl
 refine Z8 J J J J (fun w0=>?_) ?_
 refine Zld ?_
 exact Z9 rfl
 exact AgainG.nil
 refine Zo J (ZS (ZT 64) (fun h64=>?_) (fun h64=>?_))
 refine Zq J J (Zz (n:=4) (m:=4) J J J (Zzh ?_))
 refine Zq J J (Zo J (Zq J J (Z0 J J (Zq J J (Zo J (ZS (ZT 69) (fun h69=>?_) (fun h69=>?_)))))))
 refine Zr J J J J (Zr J J J J (Zr J J J J (Zq J J (Zt J J (Zt J J ?_)))))
 refine ZS0 (t:=74) (v':=.bool (decide (x.fDef≠-1) && (decide (x.fDef≠(aheadN x (o.fSymbols.take k):Int)) || decide ((mostN o x:Int)≤(aheadN x (o.fSymbols.take k):Int))))) J (by congr 1;rw [decide_eq_true (show x.fDef≠-1 from h64),decide_eq_true (show x.fDef≠(aheadN x (o.fSymbols.take k):Int) from h69)];rfl) ?_
 refine Z4 (Z5 J ?_)
 (refine ZC0 rfl ZK (fun w hS=>frame hS ZQ (fun B' hB hS'=>obj_when hS' (decide (x.fDef≠-1) && (decide (x.fDef≠(aheadN x (o.fSymbols.take k):Int)) || decide ((mostN o x:Int)≤(aheadN x (o.fSymbols.take k):Int)))) 9)) ?_;rintro ⟨⟩ -)
 refine ZG ?_ J (fun w0=>?_)
 refine Z8 J J J J (fun w0=>?_) ?_
 refine Zz (n:=1) (m:=1) J J J ?_
 exact Z9 rfl
 refine Z8 J J J J (fun w0=>?_) ?_
 refine Zld ?_
 exact Z9 rfl
 exact AgainG.nil
 refine Zo J (ZS (ZT 78) (fun h78=>?_) (fun h78=>?_))
 refine Zq J J (Zz (n:=4) (m:=4) J J J (Zzh ?_))
 refine Zq J J (Zy J J (Zt J J ?_))
 refine ZS0 (t:=82) (v':=.bool (x.fLocal && decide (x.fDef = -1))) rfl (by rw [show x.fLocal=true from h78];rfl) ?_
 refine Z4 (Z5 J ?_)
 (refine ZC0 rfl ZK (fun w hS=>frame hS ZQ (fun B' hB hS'=>obj_when hS' (x.fLocal && decide (x.fDef = -1)) 13)) ?_;rintro ⟨⟩ -)
 refine ZG ?_ J (fun w0=>?_)
 exact AgainG.nil
 refine Z4 (Z5 J ?_)
 refine oBuildSliceF (Parts.cons J (Parts.cons J (Parts.cons J (Parts.cons J (Parts.cons J Parts.nil))))) J J J J J (Fulls.cons ZP J (Fulls.cons ZP J (Fulls.cons ZP J (Fulls.cons ZP J (Fulls.cons ZP J Fulls.nil ap) ap) ap) ap) ap) (fun b84=>?_)
 refine oConv (blk_row (enc:=Value.int .i64) (h1:=fun _=>J) (W:=B.e) (xs:=[nameF4 x.fName,whenF (kindB x) 8,whenF ((o.fSymbols.take k).any (nameP x)) 12,whenF (decide (x.fDef≠-1) && (decide (x.fDef≠(aheadN x (o.fSymbols.take k):Int)) || decide ((mostN o x:Int)≤(aheadN x (o.fSymbols.take k):Int)))) 9,whenF (x.fLocal && decide (x.fDef = -1)) 13]) (n:=5) ZP J J (by decide)) ?_
 refine ZG ?_ J (fun w0=>?_)
 exact AgainG.nil
 refine Z4 (Z5 J ?_)
 (refine ZD J (fun w B' hB hR hS'=>obj_first hS' [nameF4 x.fName,whenF (kindB x) 8,whenF ((o.fSymbols.take k).any (nameP x)) 12,whenF (decide (x.fDef≠-1) && (decide (x.fDef≠(aheadN x (o.fSymbols.take k):Int)) || decide ((mostN o x:Int)≤(aheadN x (o.fSymbols.take k):Int)))) 9,whenF (x.fLocal && decide (x.fDef = -1)) 13] (some ⟨b84,0,none⟩) 5 5 rfl (row_Cs (W:=B.e) (e:=29) (A:=some ⟨b84,0,none⟩) (n:=5) (cp:=5) (hR _ _ ZP))) ?_;rintro ⟨⟩ -)
 refine ZG ?_ J (fun w0=>?_)
 exact AgainG.nil
 refine Z6 (Zza ?_)
 exact ⟨(),trivial,rfl,Lh⟩
 refine Zr J J J J (Zr J J J J (Zr J J J J (Zu J J ?_)))
 refine ZS0 (t:=82) (v':=.bool (x.fLocal && decide (x.fDef = -1))) rfl (by rw [show x.fLocal=false from h78];rfl) ?_
 refine Z4 (Z5 J ?_)
 (refine ZC0 rfl ZK (fun w hS=>frame hS ZQ (fun B' hB hS'=>obj_when hS' (x.fLocal && decide (x.fDef = -1)) 13)) ?_;rintro ⟨⟩ -)
 refine ZG ?_ J (fun w0=>?_)
 exact AgainG.nil
 refine Z4 (Z5 J ?_)
 refine oBuildSliceF (Parts.cons J (Parts.cons J (Parts.cons J (Parts.cons J (Parts.cons J Parts.nil))))) J J J J J (Fulls.cons ZP J (Fulls.cons ZP J (Fulls.cons ZP J (Fulls.cons ZP J (Fulls.cons ZP J Fulls.nil ap) ap) ap) ap) ap) (fun b84=>?_)
 refine oConv (blk_row (enc:=Value.int .i64) (h1:=fun _=>J) (W:=B.e) (xs:=[nameF4 x.fName,whenF (kindB x) 8,whenF ((o.fSymbols.take k).any (nameP x)) 12,whenF (decide (x.fDef≠-1) && (decide (x.fDef≠(aheadN x (o.fSymbols.take k):Int)) || decide ((mostN o x:Int)≤(aheadN x (o.fSymbols.take k):Int)))) 9,whenF (x.fLocal && decide (x.fDef = -1)) 13]) (n:=5) ZP J J (by decide)) ?_
 refine ZG ?_ J (fun w0=>?_)
 exact AgainG.nil
 refine Z4 (Z5 J ?_)
 (refine ZD J (fun w B' hB hR hS'=>obj_first hS' [nameF4 x.fName,whenF (kindB x) 8,whenF ((o.fSymbols.take k).any (nameP x)) 12,whenF (decide (x.fDef≠-1) && (decide (x.fDef≠(aheadN x (o.fSymbols.take k):Int)) || decide ((mostN o x:Int)≤(aheadN x (o.fSymbols.take k):Int)))) 9,whenF (x.fLocal && decide (x.fDef = -1)) 13] (some ⟨b84,0,none⟩) 5 5 rfl (row_Cs (W:=B.e) (e:=29) (A:=some ⟨b84,0,none⟩) (n:=5) (cp:=5) (hR _ _ ZP))) ?_;rintro ⟨⟩ -)
 refine ZG ?_ J (fun w0=>?_)
 exact AgainG.nil
 refine Z6 (Zza ?_)
 exact ⟨(),trivial,rfl,Lh⟩
 refine Zq J J (Zo J (Zq J J (Zo J (Zq J J (Z2 J J (Zq J J (Zu J J (Zt J J ?_))))))))
 refine ZS0 (t:=74) (v':=.bool (decide (x.fDef≠-1) && (decide (x.fDef≠(aheadN x (o.fSymbols.take k):Int)) || decide ((mostN o x:Int)≤(aheadN x (o.fSymbols.take k):Int))))) J (by congr 1;rw [decide_eq_true (show x.fDef≠-1 from h64),decide_eq_false (show ¬ x.fDef≠(aheadN x (o.fSymbols.take k):Int) from h69)];rfl) ?_
 refine Z4 (Z5 J ?_)
 (refine ZC0 rfl ZK (fun w hS=>frame hS ZQ (fun B' hB hS'=>obj_when hS' (decide (x.fDef≠-1) && (decide (x.fDef≠(aheadN x (o.fSymbols.take k):Int)) || decide ((mostN o x:Int)≤(aheadN x (o.fSymbols.take k):Int)))) 9)) ?_;rintro ⟨⟩ -)
 refine ZG ?_ J (fun w0=>?_)
 refine Z8 J J J J (fun w0=>?_) ?_
 refine Zz (n:=1) (m:=1) J J J ?_
 exact Z9 rfl
 refine Z8 J J J J (fun w0=>?_) ?_
 refine Zld ?_
 exact Z9 rfl
 exact AgainG.nil
 refine Zo J (ZS (ZT 78) (fun h78=>?_) (fun h78=>?_))
 refine Zq J J (Zz (n:=4) (m:=4) J J J (Zzh ?_))
 refine Zq J J (Zy J J (Zt J J ?_))
 refine ZS0 (t:=82) (v':=.bool (x.fLocal && decide (x.fDef = -1))) rfl (by rw [show x.fLocal=true from h78];rfl) ?_
 refine Z4 (Z5 J ?_)
 (refine ZC0 rfl ZK (fun w hS=>frame hS ZQ (fun B' hB hS'=>obj_when hS' (x.fLocal && decide (x.fDef = -1)) 13)) ?_;rintro ⟨⟩ -)
 refine ZG ?_ J (fun w0=>?_)
 exact AgainG.nil
 refine Z4 (Z5 J ?_)
 refine oBuildSliceF (Parts.cons J (Parts.cons J (Parts.cons J (Parts.cons J (Parts.cons J Parts.nil))))) J J J J J (Fulls.cons ZP J (Fulls.cons ZP J (Fulls.cons ZP J (Fulls.cons ZP J (Fulls.cons ZP J Fulls.nil ap) ap) ap) ap) ap) (fun b84=>?_)
 refine oConv (blk_row (enc:=Value.int .i64) (h1:=fun _=>J) (W:=B.e) (xs:=[nameF4 x.fName,whenF (kindB x) 8,whenF ((o.fSymbols.take k).any (nameP x)) 12,whenF (decide (x.fDef≠-1) && (decide (x.fDef≠(aheadN x (o.fSymbols.take k):Int)) || decide ((mostN o x:Int)≤(aheadN x (o.fSymbols.take k):Int)))) 9,whenF (x.fLocal && decide (x.fDef = -1)) 13]) (n:=5) ZP J J (by decide)) ?_
 refine ZG ?_ J (fun w0=>?_)
 exact AgainG.nil
 refine Z4 (Z5 J ?_)
 (refine ZD J (fun w B' hB hR hS'=>obj_first hS' [nameF4 x.fName,whenF (kindB x) 8,whenF ((o.fSymbols.take k).any (nameP x)) 12,whenF (decide (x.fDef≠-1) && (decide (x.fDef≠(aheadN x (o.fSymbols.take k):Int)) || decide ((mostN o x:Int)≤(aheadN x (o.fSymbols.take k):Int)))) 9,whenF (x.fLocal && decide (x.fDef = -1)) 13] (some ⟨b84,0,none⟩) 5 5 rfl (row_Cs (W:=B.e) (e:=29) (A:=some ⟨b84,0,none⟩) (n:=5) (cp:=5) (hR _ _ ZP))) ?_;rintro ⟨⟩ -)
 refine ZG ?_ J (fun w0=>?_)
 exact AgainG.nil
 refine Z6 (Zza ?_)
 exact ⟨(),trivial,rfl,Lh⟩
 refine Zr J J J J (Zr J J J J (Zr J J J J (Zu J J ?_)))
 refine ZS0 (t:=82) (v':=.bool (x.fLocal && decide (x.fDef = -1))) rfl (by rw [show x.fLocal=false from h78];rfl) ?_
 refine Z4 (Z5 J ?_)
 (refine ZC0 rfl ZK (fun w hS=>frame hS ZQ (fun B' hB hS'=>obj_when hS' (x.fLocal && decide (x.fDef = -1)) 13)) ?_;rintro ⟨⟩ -)
 refine ZG ?_ J (fun w0=>?_)
 exact AgainG.nil
 refine Z4 (Z5 J ?_)
 refine oBuildSliceF (Parts.cons J (Parts.cons J (Parts.cons J (Parts.cons J (Parts.cons J Parts.nil))))) J J J J J (Fulls.cons ZP J (Fulls.cons ZP J (Fulls.cons ZP J (Fulls.cons ZP J (Fulls.cons ZP J Fulls.nil ap) ap) ap) ap) ap) (fun b84=>?_)
 refine oConv (blk_row (enc:=Value.int .i64) (h1:=fun _=>J) (W:=B.e) (xs:=[nameF4 x.fName,whenF (kindB x) 8,whenF ((o.fSymbols.take k).any (nameP x)) 12,whenF (decide (x.fDef≠-1) && (decide (x.fDef≠(aheadN x (o.fSymbols.take k):Int)) || decide ((mostN o x:Int)≤(aheadN x (o.fSymbols.take k):Int)))) 9,whenF (x.fLocal && decide (x.fDef = -1)) 13]) (n:=5) ZP J J (by decide)) ?_
 refine ZG ?_ J (fun w0=>?_)
 exact AgainG.nil
 refine Z4 (Z5 J ?_)
 (refine ZD J (fun w B' hB hR hS'=>obj_first hS' [nameF4 x.fName,whenF (kindB x) 8,whenF ((o.fSymbols.take k).any (nameP x)) 12,whenF (decide (x.fDef≠-1) && (decide (x.fDef≠(aheadN x (o.fSymbols.take k):Int)) || decide ((mostN o x:Int)≤(aheadN x (o.fSymbols.take k):Int)))) 9,whenF (x.fLocal && decide (x.fDef = -1)) 13] (some ⟨b84,0,none⟩) 5 5 rfl (row_Cs (W:=B.e) (e:=29) (A:=some ⟨b84,0,none⟩) (n:=5) (cp:=5) (hR _ _ ZP))) ?_;rintro ⟨⟩ -)
 refine ZG ?_ J (fun w0=>?_)
 exact AgainG.nil
 refine Z6 (Zza ?_)
 exact ⟨(),trivial,rfl,Lh⟩
 refine Zr J J J J (Zr J J J J (Zr J J J J (Zr J J J J (Zr J J J J (Zs J J J (Zs J J J (Zs J J J (Zr J J J J (Zu J J ?_)))))))))
 refine ZS0 (t:=74) (v':=.bool (decide (x.fDef≠-1) && (decide (x.fDef≠(aheadN x (o.fSymbols.take k):Int)) || decide ((mostN o x:Int)≤(aheadN x (o.fSymbols.take k):Int))))) J (by congr 1;rw [decide_eq_false (show ¬ x.fDef≠-1 from h64)];rfl) ?_
 refine Z4 (Z5 J ?_)
 (refine ZC0 rfl ZK (fun w hS=>frame hS ZQ (fun B' hB hS'=>obj_when hS' (decide (x.fDef≠-1) && (decide (x.fDef≠(aheadN x (o.fSymbols.take k):Int)) || decide ((mostN o x:Int)≤(aheadN x (o.fSymbols.take k):Int)))) 9)) ?_;rintro ⟨⟩ -)
 refine ZG ?_ J (fun w0=>?_)
 refine Z8 J J J J (fun w0=>?_) ?_
 refine Zz (n:=1) (m:=1) J J J ?_
 exact Z9 rfl
 refine Z8 J J J J (fun w0=>?_) ?_
 refine Zld ?_
 exact Z9 rfl
 exact AgainG.nil
 refine Zo J (ZS (ZT 78) (fun h78=>?_) (fun h78=>?_))
 refine Zq J J (Zz (n:=4) (m:=4) J J J (Zzh ?_))
 refine Zq J J (Zy J J (Zt J J ?_))
 refine ZS0 (t:=82) (v':=.bool (x.fLocal && decide (x.fDef = -1))) rfl (by rw [show x.fLocal=true from h78];rfl) ?_
 refine Z4 (Z5 J ?_)
 (refine ZC0 rfl ZK (fun w hS=>frame hS ZQ (fun B' hB hS'=>obj_when hS' (x.fLocal && decide (x.fDef = -1)) 13)) ?_;rintro ⟨⟩ -)
 refine ZG ?_ J (fun w0=>?_)
 exact AgainG.nil
 refine Z4 (Z5 J ?_)
 refine oBuildSliceF (Parts.cons J (Parts.cons J (Parts.cons J (Parts.cons J (Parts.cons J Parts.nil))))) J J J J J (Fulls.cons ZP J (Fulls.cons ZP J (Fulls.cons ZP J (Fulls.cons ZP J (Fulls.cons ZP J Fulls.nil ap) ap) ap) ap) ap) (fun b84=>?_)
 refine oConv (blk_row (enc:=Value.int .i64) (h1:=fun _=>J) (W:=B.e) (xs:=[nameF4 x.fName,whenF (kindB x) 8,whenF ((o.fSymbols.take k).any (nameP x)) 12,whenF (decide (x.fDef≠-1) && (decide (x.fDef≠(aheadN x (o.fSymbols.take k):Int)) || decide ((mostN o x:Int)≤(aheadN x (o.fSymbols.take k):Int)))) 9,whenF (x.fLocal && decide (x.fDef = -1)) 13]) (n:=5) ZP J J (by decide)) ?_
 refine ZG ?_ J (fun w0=>?_)
 exact AgainG.nil
 refine Z4 (Z5 J ?_)
 (refine ZD J (fun w B' hB hR hS'=>obj_first hS' [nameF4 x.fName,whenF (kindB x) 8,whenF ((o.fSymbols.take k).any (nameP x)) 12,whenF (decide (x.fDef≠-1) && (decide (x.fDef≠(aheadN x (o.fSymbols.take k):Int)) || decide ((mostN o x:Int)≤(aheadN x (o.fSymbols.take k):Int)))) 9,whenF (x.fLocal && decide (x.fDef = -1)) 13] (some ⟨b84,0,none⟩) 5 5 rfl (row_Cs (W:=B.e) (e:=29) (A:=some ⟨b84,0,none⟩) (n:=5) (cp:=5) (hR _ _ ZP))) ?_;rintro ⟨⟩ -)
 refine ZG ?_ J (fun w0=>?_)
 exact AgainG.nil
 refine Z6 (Zza ?_)
 exact ⟨(),trivial,rfl,Lh⟩
 refine Zr J J J J (Zr J J J J (Zr J J J J (Zu J J ?_)))
 refine ZS0 (t:=82) (v':=.bool (x.fLocal && decide (x.fDef = -1))) rfl (by rw [show x.fLocal=false from h78];rfl) ?_
 refine Z4 (Z5 J ?_)
 (refine ZC0 rfl ZK (fun w hS=>frame hS ZQ (fun B' hB hS'=>obj_when hS' (x.fLocal && decide (x.fDef = -1)) 13)) ?_;rintro ⟨⟩ -)
 refine ZG ?_ J (fun w0=>?_)
 exact AgainG.nil
 refine Z4 (Z5 J ?_)
 refine oBuildSliceF (Parts.cons J (Parts.cons J (Parts.cons J (Parts.cons J (Parts.cons J Parts.nil))))) J J J J J (Fulls.cons ZP J (Fulls.cons ZP J (Fulls.cons ZP J (Fulls.cons ZP J (Fulls.cons ZP J Fulls.nil ap) ap) ap) ap) ap) (fun b84=>?_)
 refine oConv (blk_row (enc:=Value.int .i64) (h1:=fun _=>J) (W:=B.e) (xs:=[nameF4 x.fName,whenF (kindB x) 8,whenF ((o.fSymbols.take k).any (nameP x)) 12,whenF (decide (x.fDef≠-1) && (decide (x.fDef≠(aheadN x (o.fSymbols.take k):Int)) || decide ((mostN o x:Int)≤(aheadN x (o.fSymbols.take k):Int)))) 9,whenF (x.fLocal && decide (x.fDef = -1)) 13]) (n:=5) ZP J J (by decide)) ?_
 refine ZG ?_ J (fun w0=>?_)
 exact AgainG.nil
 refine Z4 (Z5 J ?_)
 (refine ZD J (fun w B' hB hR hS'=>obj_first hS' [nameF4 x.fName,whenF (kindB x) 8,whenF ((o.fSymbols.take k).any (nameP x)) 12,whenF (decide (x.fDef≠-1) && (decide (x.fDef≠(aheadN x (o.fSymbols.take k):Int)) || decide ((mostN o x:Int)≤(aheadN x (o.fSymbols.take k):Int)))) 9,whenF (x.fLocal && decide (x.fDef = -1)) 13] (some ⟨b84,0,none⟩) 5 5 rfl (row_Cs (W:=B.e) (e:=29) (A:=some ⟨b84,0,none⟩) (n:=5) (cp:=5) (hR _ _ ZP))) ?_;rintro ⟨⟩ -)
 refine ZG ?_ J (fun w0=>?_)
 exact AgainG.nil
 refine Z6 (Zza ?_)
 exact ⟨(),trivial,rfl,Lh⟩
 refine Zj (Za (Zh (Zi (oMakeFunc J ?_))))
 refine ZS0 (t:=6) (v':=.int .i64 (mostN o x:Int)) J (by unfold mostN;rw [if_neg (show ¬ x.fSort=2 from h21)]) ?_
 refine Zp J (Zn (Za (Zh (Zi (Zp J ?_)))))
 refine ZS0 (t:=8) (v':=.int .i64 (aheadN x (o.fSymbols.take 0):Int)) J (by unfold aheadN;simp) ?_
 refine Zn (Za (Zh (Zh (Zi (Zz (n:=0) (m:=0) J J J (Zld ?_))))))
 refine Zo J (oSliceU J J ZO J ?_)
 refine Zv J J (Zo J (Zn (Za (Zk (wLoop (ι:=Nat) (fun k=>[(1,.int .i64 (i:Int)),(2,.pointer (some ⟨b2,0,none⟩)),(5,.pointer (some ⟨b5,0,none⟩)),(6,.int .i64 (mostN o x:Int)),(7,.func (.func 61) #[] #[.pointer (some ⟨b5,0,none⟩)]),(8,.int .i64 (aheadN x (o.fSymbols.take k):Int)),(29,.slice A0 i c0),(30,.int .i64 (i:Int)),(31,.int .i64 (k:Int))]) (fun k=>[blk b2 26 [.slice A0 o.fSymbols.length c0,.slice A1 o.fFuncs.length c1,.slice A2 o.fDatas.length c2],blk b5 37 [.string x.fName,.bool x.fLocal,.int .i64 x.fSort,.int .i64 x.fKind,.int .i64 x.fDef]]) (fun k=>k≤i) (fun k=>i-k) 0 ?_ cv (Leads.has ZQ) ?_)))))
 exact Nat.zero_le _
 rintro k hk
 have hal:=ahead_le x (o.fSymbols.take k)
 have htk:(o.fSymbols.take k).length≤60:=by rw [List.length_take];omega
 try dsimp only
 refine Zh (Zi (Zx J J (Zn (Za (Zh (wC (fun h32=>?_) (fun h32=>?_)))))))
 obtain ⟨y,hy⟩:∃ y,o.fSymbols[k]?=some y:=⟨_,List.getElem?_eq_getElem ZO⟩
 have hyt:(o.fSymbols.take i)[k]?=some y:=by rw [List.getElem?_take,if_pos ZO,hy]
 obtain ⟨e2,cs2,hE2⟩:=hqt.elm hyt
 obtain rfl:=kApiSymbol_open hE2.K
 refine Zj (Za (Zh (Zk (Zh (Zi (oIdxE J J (hE2) ZO J J ?_))))))
 have hc33:=(hE2).cell
 refine Zlx hc33 ?_
 refine oAlloc J ZP (fun b10=>?_)
 refine Zsa ?_
 refine Zn (Za (Zh (Zi (Zz (n:=2) (m:=2) J J J (Zld ?_)))))
 refine Zz (n:=2) (m:=2) J J J (Zld ?_)
 refine Zy J J (Zo J (ZS (ZT 40) (fun h40=>?_) (fun h40=>?_)))
 refine Zq J J (Zz (n:=4) (m:=4) J J J (Zzh ?_))
 refine Zq J J (Z0 J J (Zt J J (Zn (Za (wC (fun h44=>?_) (fun h44=>?_))))))
 have hap:aheadP x y=true:=by unfold aheadP;simp [show y.fSort=x.fSort from h40];first | exact h44 | simpa using h44
 refine Zi (Zo J ?_)
 first | refine oAdd rfl rfl ZO ?_ | refine oAddW rfl rfl ?_
 refine Zp J ?_
 skip
 refine Zn (Zzl ?_)
 refine Zo J (Zn (Za ?_))
 exact ⟨rfl,k+1,by omega,by omega,by rw [ahead_succ x hy,if_pos hap];exact cv,Lh⟩
 have hap:¬ aheadP x y=true:=by unfold aheadP;simp [show y.fSort=x.fSort from h40];first | exact h44 | simpa using h44
 refine Zj (Zzl ?_)
 refine Zo J (Zn (Za ?_))
 exact ⟨rfl,k+1,by omega,by omega,by rw [ahead_succ x hy,if_neg hap,Nat.add_zero];exact cv,Lh⟩
 have hap:¬ aheadP x y=true:=by unfold aheadP;simp [show ¬ y.fSort=x.fSort from h40]
 refine Zr J J J J (Zr J J J J (Zr J J J J (Zu J J (Zn (Za (wCondF J (Zj (Zzl ?_))))))))
 refine Zo J (Zn (Za ?_))
 exact ⟨rfl,k+1,by omega,by omega,by rw [ahead_succ x hy,if_neg hap,Nat.add_zero];exact cv,Lh⟩
 obtain rfl:k=i:=by omega
 refine Zm (Zb (Zb (Ze (Za (Zh (wDrawG J [0,1,3,6,7,8,9,10,13,14,15,28,29] [(2,[3,6,7,8,9,10,13,14,15,28,29],[]),(4,[6,7,8,9,10,13,14,15,28,29],[]),(5,[6,7,8,9,10,13,14,15,28,29],[]),(11,[13,14,15,28,29],[]),(12,[13,14,15,28,29],[16,17,18,19,20,21,22,23,24,25,26]),(27,[28,29],[30,31,32,33,34]),(35,[],[]),(36,[],[]),(37,[],[])] [38] 24 ZK J J (fun w0=>?_)))))))
 refine Zz (n:=0) (m:=0) J J J (Zld ?_)
 refine Zla ?_
 refine Zz (n:=0) (m:=0) J J J (Zld ?_)
 refine Zo J (oSliceU J J ZO J ?_)
 refine Zo J (Zz (n:=4) (m:=4) J J J (Zld ?_))
 refine Z0 J J (Zz (n:=1) (m:=1) J J J (Zld ?_))
 refine Z4 (Z5 J ?_)
 (refine ZC0 rfl ZK (fun w hS=>frame hS ZQ (fun B' hB hS'=>name_Check hS' x.fName)) ?_;rintro ⟨⟩ -)
 refine ZG ?_ J (fun w0=>?_)
 refine Z8 J J J J (fun w0=>?_) ?_
 refine Zla ?_
 exact Z9 rfl
 refine Z8 J J J J (fun w0=>?_) ?_
 refine Zz (n:=0) (m:=0) J J J ?_
 exact Z9 rfl
 refine Z8 J J J J (fun w0=>?_) ?_
 refine Zld ?_
 exact Z9 rfl
 refine Z8 J J J J (fun w0=>?_) ?_
 refine Zo J ?_
 exact Z9 rfl
 refine Z8 J J J J (fun w0=>?_) ?_
 refine oSliceU J J ZO J ?_
 exact Z9 rfl
 refine Z8 J J J J (fun w0=>?_) ?_
 refine Zo J ?_
 exact Z9 rfl
 refine Z8 J J J J (fun w0=>?_) ?_
 refine Zz (n:=4) (m:=4) J J J ?_
 exact Z9 rfl
 refine Z8 J J J J (fun w0=>?_) ?_
 refine Zld ?_
 exact Z9 rfl
 refine Z8 J J J J (fun w0=>?_) ?_
 refine Z0 J J ?_
 exact Z9 rfl
 refine Z8 J J J J (fun w0=>?_) ?_
 refine Zz (n:=1) (m:=1) J J J ?_
 exact Z9 rfl
 refine Z8 J J J J (fun w0=>?_) ?_
 refine Zld ?_
 exact Z9 rfl
 exact AgainG.nil
 refine Z4 (Z5 J ?_)
 (refine ZC0 rfl ZK (fun w hS=>frame hS ZQ (fun B' hB hS'=>obj_kind hS' x _ (kApiSymbol.K_grow hB hxK))) ?_;rintro ⟨⟩ -)
 refine ZG ?_ J (fun w0=>?_)
 refine Z8 J J J J (fun w0=>?_) ?_
 refine Zz (n:=0) (m:=0) J J J ?_
 exact Z9 rfl
 refine Z8 J J J J (fun w0=>?_) ?_
 refine Zld ?_
 exact Z9 rfl
 refine Z8 J J J J (fun w0=>?_) ?_
 refine Zo J ?_
 exact Z9 rfl
 refine Z8 J J J J (fun w0=>?_) ?_
 refine oSliceU J J ZO J ?_
 exact Z9 rfl
 refine Z8 J J J J (fun w0=>?_) ?_
 refine Zo J ?_
 exact Z9 rfl
 refine Z8 J J J J (fun w0=>?_) ?_
 refine Zz (n:=4) (m:=4) J J J ?_
 exact Z9 rfl
 refine Z8 J J J J (fun w0=>?_) ?_
 refine Zld ?_
 exact Z9 rfl
 refine Z8 J J J J (fun w0=>?_) ?_
 refine Z0 J J ?_
 exact Z9 rfl
 refine Z8 J J J J (fun w0=>?_) ?_
 refine Zz (n:=1) (m:=1) J J J ?_
 exact Z9 rfl
 refine Z8 J J J J (fun w0=>?_) ?_
 refine Zld ?_
 exact Z9 rfl
 exact AgainG.nil
 refine Z4 (Z5 J ?_)
 (refine ZC0 rfl ZK (fun w hS=>frame hS ZQ (fun B' hB hS'=>obj_when hS' (kindB x) 8)) ?_;rintro ⟨⟩ -)
 refine ZG ?_ J (fun w0=>?_)
 refine Z8 J J J J (fun w0=>?_) ?_
 refine Zz (n:=0) (m:=0) J J J ?_
 exact Z9 rfl
 refine Z8 J J J J (fun w0=>?_) ?_
 refine Zld ?_
 exact Z9 rfl
 refine Z8 J J J J (fun w0=>?_) ?_
 refine Zo J ?_
 exact Z9 rfl
 refine Z8 J J J J (fun w0=>?_) ?_
 refine oSliceU J J ZO J ?_
 exact Z9 rfl
 refine Z8 J J J J (fun w0=>?_) ?_
 refine Zo J ?_
 exact Z9 rfl
 refine Z8 J J J J (fun w0=>?_) ?_
 refine Zz (n:=4) (m:=4) J J J ?_
 exact Z9 rfl
 refine Z8 J J J J (fun w0=>?_) ?_
 refine Zld ?_
 exact Z9 rfl
 refine Z8 J J J J (fun w0=>?_) ?_
 refine Z0 J J ?_
 exact Z9 rfl
 refine Z8 J J J J (fun w0=>?_) ?_
 refine Zz (n:=1) (m:=1) J J J ?_
 exact Z9 rfl
 refine Z8 J J J J (fun w0=>?_) ?_
 refine Zld ?_
 exact Z9 rfl
 exact AgainG.nil
 refine Z4 (Z5 J ?_)
 (refine ZC0 rfl ZK (fun w hS=>frame hS ZQ (fun B' hB hS'=>containsFunc_sym hS' (o.fSymbols.take k) A0 k c0 htl.symm (Kd.C_grow hB hqt) 61 #[.pointer (some ⟨b5,0,none⟩)] (nameP x) ZK (fun B2 w2 y hB2 hy2 hS2=>obj_named x b5 hS2 y))) ?_;rintro ⟨⟩ -)
 refine ZG ?_ J (fun w0=>?_)
 refine Z8 J J J J (fun w0=>?_) ?_
 refine Zz (n:=4) (m:=4) J J J ?_
 exact Z9 rfl
 refine Z8 J J J J (fun w0=>?_) ?_
 refine Zld ?_
 exact Z9 rfl
 refine Z8 J J J J (fun w0=>?_) ?_
 refine Z0 J J ?_
 exact Z9 rfl
 refine Z8 J J J J (fun w0=>?_) ?_
 refine Zz (n:=1) (m:=1) J J J ?_
 exact Z9 rfl
 refine Z8 J J J J (fun w0=>?_) ?_
 refine Zld ?_
 exact Z9 rfl
 exact AgainG.nil
 refine Z4 (Z5 J ?_)
 (refine ZC0 rfl ZK (fun w hS=>frame hS ZQ (fun B' hB hS'=>obj_when hS' ((o.fSymbols.take k).any (nameP x)) 12)) ?_;rintro ⟨⟩ -)
 refine ZG ?_ J (fun w0=>?_)
 refine Z8 J J J J (fun w0=>?_) ?_
 refine Zz (n:=4) (m:=4) J J J ?_
 exact Z9 rfl
 refine Z8 J J J J (fun w0=>?_) ?_
 refine Zld ?_
 exact Z9 rfl
 refine Z8 J J J J (fun w0=>?_) ?_
 refine Z0 J J ?_
 exact Z9 rfl
 refine Z8 J J J J (fun w0=>?_) ?_
 refine Zz (n:=1) (m:=1) J J J ?_
 exact Z9 rfl
 refine Z8 J J J J (fun w0=>?_) ?_
 refine Zld ?_
 exact Z9 rfl
 exact AgainG.nil
 refine Zo J (ZS (ZT 64) (fun h64=>?_) (fun h64=>?_))
 refine Zq J J (Zz (n:=4) (m:=4) J J J (Zzh ?_))
 refine Zq J J (Zo J (Zq J J (Z0 J J (Zq J J (Zo J (ZS (ZT 69) (fun h69=>?_) (fun h69=>?_)))))))
 refine Zr J J J J (Zr J J J J (Zr J J J J (Zq J J (Zt J J (Zt J J ?_)))))
 refine ZS0 (t:=74) (v':=.bool (decide (x.fDef≠-1) && (decide (x.fDef≠(aheadN x (o.fSymbols.take k):Int)) || decide ((mostN o x:Int)≤(aheadN x (o.fSymbols.take k):Int))))) J (by congr 1;rw [decide_eq_true (show x.fDef≠-1 from h64),decide_eq_true (show x.fDef≠(aheadN x (o.fSymbols.take k):Int) from h69)];rfl) ?_
 refine Z4 (Z5 J ?_)
 (refine ZC0 rfl ZK (fun w hS=>frame hS ZQ (fun B' hB hS'=>obj_when hS' (decide (x.fDef≠-1) && (decide (x.fDef≠(aheadN x (o.fSymbols.take k):Int)) || decide ((mostN o x:Int)≤(aheadN x (o.fSymbols.take k):Int)))) 9)) ?_;rintro ⟨⟩ -)
 refine ZG ?_ J (fun w0=>?_)
 refine Z8 J J J J (fun w0=>?_) ?_
 refine Zz (n:=1) (m:=1) J J J ?_
 exact Z9 rfl
 refine Z8 J J J J (fun w0=>?_) ?_
 refine Zld ?_
 exact Z9 rfl
 exact AgainG.nil
 refine Zo J (ZS (ZT 78) (fun h78=>?_) (fun h78=>?_))
 refine Zq J J (Zz (n:=4) (m:=4) J J J (Zzh ?_))
 refine Zq J J (Zy J J (Zt J J ?_))
 refine ZS0 (t:=82) (v':=.bool (x.fLocal && decide (x.fDef = -1))) rfl (by rw [show x.fLocal=true from h78];rfl) ?_
 refine Z4 (Z5 J ?_)
 (refine ZC0 rfl ZK (fun w hS=>frame hS ZQ (fun B' hB hS'=>obj_when hS' (x.fLocal && decide (x.fDef = -1)) 13)) ?_;rintro ⟨⟩ -)
 refine ZG ?_ J (fun w0=>?_)
 exact AgainG.nil
 refine Z4 (Z5 J ?_)
 refine oBuildSliceF (Parts.cons J (Parts.cons J (Parts.cons J (Parts.cons J (Parts.cons J Parts.nil))))) J J J J J (Fulls.cons ZP J (Fulls.cons ZP J (Fulls.cons ZP J (Fulls.cons ZP J (Fulls.cons ZP J Fulls.nil ap) ap) ap) ap) ap) (fun b84=>?_)
 refine oConv (blk_row (enc:=Value.int .i64) (h1:=fun _=>J) (W:=B.e) (xs:=[nameF4 x.fName,whenF (kindB x) 8,whenF ((o.fSymbols.take k).any (nameP x)) 12,whenF (decide (x.fDef≠-1) && (decide (x.fDef≠(aheadN x (o.fSymbols.take k):Int)) || decide ((mostN o x:Int)≤(aheadN x (o.fSymbols.take k):Int)))) 9,whenF (x.fLocal && decide (x.fDef = -1)) 13]) (n:=5) ZP J J (by decide)) ?_
 refine ZG ?_ J (fun w0=>?_)
 exact AgainG.nil
 refine Z4 (Z5 J ?_)
 (refine ZD J (fun w B' hB hR hS'=>obj_first hS' [nameF4 x.fName,whenF (kindB x) 8,whenF ((o.fSymbols.take k).any (nameP x)) 12,whenF (decide (x.fDef≠-1) && (decide (x.fDef≠(aheadN x (o.fSymbols.take k):Int)) || decide ((mostN o x:Int)≤(aheadN x (o.fSymbols.take k):Int)))) 9,whenF (x.fLocal && decide (x.fDef = -1)) 13] (some ⟨b84,0,none⟩) 5 5 rfl (row_Cs (W:=B.e) (e:=29) (A:=some ⟨b84,0,none⟩) (n:=5) (cp:=5) (hR _ _ ZP))) ?_;rintro ⟨⟩ -)
 refine ZG ?_ J (fun w0=>?_)
 exact AgainG.nil
 refine Z6 (Zza ?_)
 exact ⟨(),trivial,rfl,Lh⟩
 refine Zr J J J J (Zr J J J J (Zr J J J J (Zu J J ?_)))
 refine ZS0 (t:=82) (v':=.bool (x.fLocal && decide (x.fDef = -1))) rfl (by rw [show x.fLocal=false from h78];rfl) ?_
 refine Z4 (Z5 J ?_)
 (refine ZC0 rfl ZK (fun w hS=>frame hS ZQ (fun B' hB hS'=>obj_when hS' (x.fLocal && decide (x.fDef = -1)) 13)) ?_;rintro ⟨⟩ -)
 refine ZG ?_ J (fun w0=>?_)
 exact AgainG.nil
 refine Z4 (Z5 J ?_)
 refine oBuildSliceF (Parts.cons J (Parts.cons J (Parts.cons J (Parts.cons J (Parts.cons J Parts.nil))))) J J J J J (Fulls.cons ZP J (Fulls.cons ZP J (Fulls.cons ZP J (Fulls.cons ZP J (Fulls.cons ZP J Fulls.nil ap) ap) ap) ap) ap) (fun b84=>?_)
 refine oConv (blk_row (enc:=Value.int .i64) (h1:=fun _=>J) (W:=B.e) (xs:=[nameF4 x.fName,whenF (kindB x) 8,whenF ((o.fSymbols.take k).any (nameP x)) 12,whenF (decide (x.fDef≠-1) && (decide (x.fDef≠(aheadN x (o.fSymbols.take k):Int)) || decide ((mostN o x:Int)≤(aheadN x (o.fSymbols.take k):Int)))) 9,whenF (x.fLocal && decide (x.fDef = -1)) 13]) (n:=5) ZP J J (by decide)) ?_
 refine ZG ?_ J (fun w0=>?_)
 exact AgainG.nil
 refine Z4 (Z5 J ?_)
 (refine ZD J (fun w B' hB hR hS'=>obj_first hS' [nameF4 x.fName,whenF (kindB x) 8,whenF ((o.fSymbols.take k).any (nameP x)) 12,whenF (decide (x.fDef≠-1) && (decide (x.fDef≠(aheadN x (o.fSymbols.take k):Int)) || decide ((mostN o x:Int)≤(aheadN x (o.fSymbols.take k):Int)))) 9,whenF (x.fLocal && decide (x.fDef = -1)) 13] (some ⟨b84,0,none⟩) 5 5 rfl (row_Cs (W:=B.e) (e:=29) (A:=some ⟨b84,0,none⟩) (n:=5) (cp:=5) (hR _ _ ZP))) ?_;rintro ⟨⟩ -)
 refine ZG ?_ J (fun w0=>?_)
 exact AgainG.nil
 refine Z6 (Zza ?_)
 exact ⟨(),trivial,rfl,Lh⟩
 refine Zq J J (Zo J (Zq J J (Zo J (Zq J J (Z2 J J (Zq J J (Zu J J (Zt J J ?_))))))))
 refine ZS0 (t:=74) (v':=.bool (decide (x.fDef≠-1) && (decide (x.fDef≠(aheadN x (o.fSymbols.take k):Int)) || decide ((mostN o x:Int)≤(aheadN x (o.fSymbols.take k):Int))))) J (by congr 1;rw [decide_eq_true (show x.fDef≠-1 from h64),decide_eq_false (show ¬ x.fDef≠(aheadN x (o.fSymbols.take k):Int) from h69)];rfl) ?_
 refine Z4 (Z5 J ?_)
 (refine ZC0 rfl ZK (fun w hS=>frame hS ZQ (fun B' hB hS'=>obj_when hS' (decide (x.fDef≠-1) && (decide (x.fDef≠(aheadN x (o.fSymbols.take k):Int)) || decide ((mostN o x:Int)≤(aheadN x (o.fSymbols.take k):Int)))) 9)) ?_;rintro ⟨⟩ -)
 refine ZG ?_ J (fun w0=>?_)
 refine Z8 J J J J (fun w0=>?_) ?_
 refine Zz (n:=1) (m:=1) J J J ?_
 exact Z9 rfl
 refine Z8 J J J J (fun w0=>?_) ?_
 refine Zld ?_
 exact Z9 rfl
 exact AgainG.nil
 refine Zo J (ZS (ZT 78) (fun h78=>?_) (fun h78=>?_))
 refine Zq J J (Zz (n:=4) (m:=4) J J J (Zzh ?_))
 refine Zq J J (Zy J J (Zt J J ?_))
 refine ZS0 (t:=82) (v':=.bool (x.fLocal && decide (x.fDef = -1))) rfl (by rw [show x.fLocal=true from h78];rfl) ?_
 refine Z4 (Z5 J ?_)
 (refine ZC0 rfl ZK (fun w hS=>frame hS ZQ (fun B' hB hS'=>obj_when hS' (x.fLocal && decide (x.fDef = -1)) 13)) ?_;rintro ⟨⟩ -)
 refine ZG ?_ J (fun w0=>?_)
 exact AgainG.nil
 refine Z4 (Z5 J ?_)
 refine oBuildSliceF (Parts.cons J (Parts.cons J (Parts.cons J (Parts.cons J (Parts.cons J Parts.nil))))) J J J J J (Fulls.cons ZP J (Fulls.cons ZP J (Fulls.cons ZP J (Fulls.cons ZP J (Fulls.cons ZP J Fulls.nil ap) ap) ap) ap) ap) (fun b84=>?_)
 refine oConv (blk_row (enc:=Value.int .i64) (h1:=fun _=>J) (W:=B.e) (xs:=[nameF4 x.fName,whenF (kindB x) 8,whenF ((o.fSymbols.take k).any (nameP x)) 12,whenF (decide (x.fDef≠-1) && (decide (x.fDef≠(aheadN x (o.fSymbols.take k):Int)) || decide ((mostN o x:Int)≤(aheadN x (o.fSymbols.take k):Int)))) 9,whenF (x.fLocal && decide (x.fDef = -1)) 13]) (n:=5) ZP J J (by decide)) ?_
 refine ZG ?_ J (fun w0=>?_)
 exact AgainG.nil
 refine Z4 (Z5 J ?_)
 (refine ZD J (fun w B' hB hR hS'=>obj_first hS' [nameF4 x.fName,whenF (kindB x) 8,whenF ((o.fSymbols.take k).any (nameP x)) 12,whenF (decide (x.fDef≠-1) && (decide (x.fDef≠(aheadN x (o.fSymbols.take k):Int)) || decide ((mostN o x:Int)≤(aheadN x (o.fSymbols.take k):Int)))) 9,whenF (x.fLocal && decide (x.fDef = -1)) 13] (some ⟨b84,0,none⟩) 5 5 rfl (row_Cs (W:=B.e) (e:=29) (A:=some ⟨b84,0,none⟩) (n:=5) (cp:=5) (hR _ _ ZP))) ?_;rintro ⟨⟩ -)
 refine ZG ?_ J (fun w0=>?_)
 exact AgainG.nil
 refine Z6 (Zza ?_)
 exact ⟨(),trivial,rfl,Lh⟩
 refine Zr J J J J (Zr J J J J (Zr J J J J (Zu J J ?_)))
 refine ZS0 (t:=82) (v':=.bool (x.fLocal && decide (x.fDef = -1))) rfl (by rw [show x.fLocal=false from h78];rfl) ?_
 refine Z4 (Z5 J ?_)
 (refine ZC0 rfl ZK (fun w hS=>frame hS ZQ (fun B' hB hS'=>obj_when hS' (x.fLocal && decide (x.fDef = -1)) 13)) ?_;rintro ⟨⟩ -)
 refine ZG ?_ J (fun w0=>?_)
 exact AgainG.nil
 refine Z4 (Z5 J ?_)
 refine oBuildSliceF (Parts.cons J (Parts.cons J (Parts.cons J (Parts.cons J (Parts.cons J Parts.nil))))) J J J J J (Fulls.cons ZP J (Fulls.cons ZP J (Fulls.cons ZP J (Fulls.cons ZP J (Fulls.cons ZP J Fulls.nil ap) ap) ap) ap) ap) (fun b84=>?_)
 refine oConv (blk_row (enc:=Value.int .i64) (h1:=fun _=>J) (W:=B.e) (xs:=[nameF4 x.fName,whenF (kindB x) 8,whenF ((o.fSymbols.take k).any (nameP x)) 12,whenF (decide (x.fDef≠-1) && (decide (x.fDef≠(aheadN x (o.fSymbols.take k):Int)) || decide ((mostN o x:Int)≤(aheadN x (o.fSymbols.take k):Int)))) 9,whenF (x.fLocal && decide (x.fDef = -1)) 13]) (n:=5) ZP J J (by decide)) ?_
 refine ZG ?_ J (fun w0=>?_)
 exact AgainG.nil
 refine Z4 (Z5 J ?_)
 (refine ZD J (fun w B' hB hR hS'=>obj_first hS' [nameF4 x.fName,whenF (kindB x) 8,whenF ((o.fSymbols.take k).any (nameP x)) 12,whenF (decide (x.fDef≠-1) && (decide (x.fDef≠(aheadN x (o.fSymbols.take k):Int)) || decide ((mostN o x:Int)≤(aheadN x (o.fSymbols.take k):Int)))) 9,whenF (x.fLocal && decide (x.fDef = -1)) 13] (some ⟨b84,0,none⟩) 5 5 rfl (row_Cs (W:=B.e) (e:=29) (A:=some ⟨b84,0,none⟩) (n:=5) (cp:=5) (hR _ _ ZP))) ?_;rintro ⟨⟩ -)
 refine ZG ?_ J (fun w0=>?_)
 exact AgainG.nil
 refine Z6 (Zza ?_)
 exact ⟨(),trivial,rfl,Lh⟩
 refine Zr J J J J (Zr J J J J (Zr J J J J (Zr J J J J (Zr J J J J (Zs J J J (Zs J J J (Zs J J J (Zr J J J J (Zu J J ?_)))))))))
 refine ZS0 (t:=74) (v':=.bool (decide (x.fDef≠-1) && (decide (x.fDef≠(aheadN x (o.fSymbols.take k):Int)) || decide ((mostN o x:Int)≤(aheadN x (o.fSymbols.take k):Int))))) J (by congr 1;rw [decide_eq_false (show ¬ x.fDef≠-1 from h64)];rfl) ?_
 refine Z4 (Z5 J ?_)
 (refine ZC0 rfl ZK (fun w hS=>frame hS ZQ (fun B' hB hS'=>obj_when hS' (decide (x.fDef≠-1) && (decide (x.fDef≠(aheadN x (o.fSymbols.take k):Int)) || decide ((mostN o x:Int)≤(aheadN x (o.fSymbols.take k):Int)))) 9)) ?_;rintro ⟨⟩ -)
 refine ZG ?_ J (fun w0=>?_)
 refine Z8 J J J J (fun w0=>?_) ?_
 refine Zz (n:=1) (m:=1) J J J ?_
 exact Z9 rfl
 refine Z8 J J J J (fun w0=>?_) ?_
 refine Zld ?_
 exact Z9 rfl
 exact AgainG.nil
 refine Zo J (ZS (ZT 78) (fun h78=>?_) (fun h78=>?_))
 refine Zq J J (Zz (n:=4) (m:=4) J J J (Zzh ?_))
 refine Zq J J (Zy J J (Zt J J ?_))
 refine ZS0 (t:=82) (v':=.bool (x.fLocal && decide (x.fDef = -1))) rfl (by rw [show x.fLocal=true from h78];rfl) ?_
 refine Z4 (Z5 J ?_)
 (refine ZC0 rfl ZK (fun w hS=>frame hS ZQ (fun B' hB hS'=>obj_when hS' (x.fLocal && decide (x.fDef = -1)) 13)) ?_;rintro ⟨⟩ -)
 refine ZG ?_ J (fun w0=>?_)
 exact AgainG.nil
 refine Z4 (Z5 J ?_)
 refine oBuildSliceF (Parts.cons J (Parts.cons J (Parts.cons J (Parts.cons J (Parts.cons J Parts.nil))))) J J J J J (Fulls.cons ZP J (Fulls.cons ZP J (Fulls.cons ZP J (Fulls.cons ZP J (Fulls.cons ZP J Fulls.nil ap) ap) ap) ap) ap) (fun b84=>?_)
 refine oConv (blk_row (enc:=Value.int .i64) (h1:=fun _=>J) (W:=B.e) (xs:=[nameF4 x.fName,whenF (kindB x) 8,whenF ((o.fSymbols.take k).any (nameP x)) 12,whenF (decide (x.fDef≠-1) && (decide (x.fDef≠(aheadN x (o.fSymbols.take k):Int)) || decide ((mostN o x:Int)≤(aheadN x (o.fSymbols.take k):Int)))) 9,whenF (x.fLocal && decide (x.fDef = -1)) 13]) (n:=5) ZP J J (by decide)) ?_
 refine ZG ?_ J (fun w0=>?_)
 exact AgainG.nil
 refine Z4 (Z5 J ?_)
 (refine ZD J (fun w B' hB hR hS'=>obj_first hS' [nameF4 x.fName,whenF (kindB x) 8,whenF ((o.fSymbols.take k).any (nameP x)) 12,whenF (decide (x.fDef≠-1) && (decide (x.fDef≠(aheadN x (o.fSymbols.take k):Int)) || decide ((mostN o x:Int)≤(aheadN x (o.fSymbols.take k):Int)))) 9,whenF (x.fLocal && decide (x.fDef = -1)) 13] (some ⟨b84,0,none⟩) 5 5 rfl (row_Cs (W:=B.e) (e:=29) (A:=some ⟨b84,0,none⟩) (n:=5) (cp:=5) (hR _ _ ZP))) ?_;rintro ⟨⟩ -)
 refine ZG ?_ J (fun w0=>?_)
 exact AgainG.nil
 refine Z6 (Zza ?_)
 exact ⟨(),trivial,rfl,Lh⟩
 refine Zr J J J J (Zr J J J J (Zr J J J J (Zu J J ?_)))
 refine ZS0 (t:=82) (v':=.bool (x.fLocal && decide (x.fDef = -1))) rfl (by rw [show x.fLocal=false from h78];rfl) ?_
 refine Z4 (Z5 J ?_)
 (refine ZC0 rfl ZK (fun w hS=>frame hS ZQ (fun B' hB hS'=>obj_when hS' (x.fLocal && decide (x.fDef = -1)) 13)) ?_;rintro ⟨⟩ -)
 refine ZG ?_ J (fun w0=>?_)
 exact AgainG.nil
 refine Z4 (Z5 J ?_)
 refine oBuildSliceF (Parts.cons J (Parts.cons J (Parts.cons J (Parts.cons J (Parts.cons J Parts.nil))))) J J J J J (Fulls.cons ZP J (Fulls.cons ZP J (Fulls.cons ZP J (Fulls.cons ZP J (Fulls.cons ZP J Fulls.nil ap) ap) ap) ap) ap) (fun b84=>?_)
 refine oConv (blk_row (enc:=Value.int .i64) (h1:=fun _=>J) (W:=B.e) (xs:=[nameF4 x.fName,whenF (kindB x) 8,whenF ((o.fSymbols.take k).any (nameP x)) 12,whenF (decide (x.fDef≠-1) && (decide (x.fDef≠(aheadN x (o.fSymbols.take k):Int)) || decide ((mostN o x:Int)≤(aheadN x (o.fSymbols.take k):Int)))) 9,whenF (x.fLocal && decide (x.fDef = -1)) 13]) (n:=5) ZP J J (by decide)) ?_
 refine ZG ?_ J (fun w0=>?_)
 exact AgainG.nil
 refine Z4 (Z5 J ?_)
 (refine ZD J (fun w B' hB hR hS'=>obj_first hS' [nameF4 x.fName,whenF (kindB x) 8,whenF ((o.fSymbols.take k).any (nameP x)) 12,whenF (decide (x.fDef≠-1) && (decide (x.fDef≠(aheadN x (o.fSymbols.take k):Int)) || decide ((mostN o x:Int)≤(aheadN x (o.fSymbols.take k):Int)))) 9,whenF (x.fLocal && decide (x.fDef = -1)) 13] (some ⟨b84,0,none⟩) 5 5 rfl (row_Cs (W:=B.e) (e:=29) (A:=some ⟨b84,0,none⟩) (n:=5) (cp:=5) (hR _ _ ZP))) ?_;rintro ⟨⟩ -)
 refine ZG ?_ J (fun w0=>?_)
 exact AgainG.nil
 refine Z6 (Zza ?_)
 exact ⟨(),trivial,rfl,Lh⟩
def ruleP (d:ApiData) (l:List ApiSymbol) (cls:Int) (i:Nat) (x:ApiReloc):Nat→Bool
  | 0=>decide (d.fKind=0)
  | 1=>decide (x.fAt<0) || decide ((d.fWords.length:Int)≤x.fAt)
  | 2=>decide (0<i) && decide (x.fAt≤(d.fRelocs.getD (i-1) default).fAt)
  | 3=>decide (x.fSym<0) || decide ((l.length:Int)≤x.fSym)
  | _=>decide ((l.getD x.fSym.toNat default).fSort≠1) || decide ((l.getD x.fSym.toNat default).fKind≠cls)
def ruleE (j:Nat):Int:=if j=4 then 8 else 11
abbrev Fn:=Nat×List Nat
def fnV (x:Fn):Value:=.func (.func x.1) #[] (x.2.map fun b=>Value.pointer (some ⟨b,0,none⟩)).toArray
def kFn:Kd Fn:=Kd.scalar fnV (fun _=>rfl)
def kRule:Kd (Fn×Int):=Kd.pair kFn (Kd.int .i64)
def rulesL (b2 b3 b5:Nat):List (Fn×Int):=[((130,[b2]),11),((131,[b2]),11),((132,[b2]),11),((133,[b3]),11),((134,[b3,b5]),8)]
theorem rule1 {B:Base}{w:World}(d:ApiData) (A0:Option Addr) (c0:Nat) (A1:Option Addr) (c1:Nat) (l:List ApiSymbol) (Al:Option Addr) (cl:Nat) (cls:Int) (b2 b3 b5:Nat) (hS:St B [blk b2 62 [.int .i64 d.fKind,.slice A0 d.fWords.length c0,.slice A1 d.fRelocs.length c1]] w) (g1:kApiReloc.C B.e A1 d.fRelocs) (hC:kApiSymbol.C B.e Al l) (hlw:d.fWords.length≤100000) (i:Nat) (x:ApiReloc) (hx:d.fRelocs[i]?=some x) :
 CW 130 #[.int .i64 (i:Int),.agg #[.int .i64 x.fAt,.int .i64 x.fSym,.bool x.fWide],.pointer (some ⟨b2,0,none⟩)] w (Ret B (fun _:Unit=>True) (fun _=>.bool (ruleP d l cls i x 0)) (fun _=>[blk b2 62 [.int .i64 d.fKind,.slice A0 d.fWords.length c0,.slice A1 d.fRelocs.length c1]])):=by
 have hll:=hC.1
 have hlr:=g1.1
 have hil:=(List.getElem?_eq_some_iff.1 hx).1
 refine ZX Tryz.func130 hS ?_
 refine Zh (Zi (oBox J ZP (fun b4=>?_)))
 refine Zp J (Zn (Za (Zh (Zi (Zz (n:=0) (m:=0) J J J (Zld ?_))))))
 refine Zy J J (Zza ?_)
 exact ⟨(),trivial,rfl,Lh⟩
theorem rule2 {B:Base}{w:World}(d:ApiData) (A0:Option Addr) (c0:Nat) (A1:Option Addr) (c1:Nat) (l:List ApiSymbol) (Al:Option Addr) (cl:Nat) (cls:Int) (b2 b3 b5:Nat) (hS:St B [blk b2 62 [.int .i64 d.fKind,.slice A0 d.fWords.length c0,.slice A1 d.fRelocs.length c1]] w) (g1:kApiReloc.C B.e A1 d.fRelocs) (hC:kApiSymbol.C B.e Al l) (hlw:d.fWords.length≤100000) (i:Nat) (x:ApiReloc) (hx:d.fRelocs[i]?=some x) :
 CW 131 #[.int .i64 (i:Int),.agg #[.int .i64 x.fAt,.int .i64 x.fSym,.bool x.fWide],.pointer (some ⟨b2,0,none⟩)] w (Ret B (fun _:Unit=>True) (fun _=>.bool (ruleP d l cls i x 1)) (fun _=>[blk b2 62 [.int .i64 d.fKind,.slice A0 d.fWords.length c0,.slice A1 d.fRelocs.length c1]])):=by
 have hll:=hC.1
 have hlr:=g1.1
 have hil:=(List.getElem?_eq_some_iff.1 hx).1
 refine ZX Tryz.func131 hS ?_
 refine Zh (Zi (oBox J ZP (fun b4=>?_)))
 refine Zp J (Zn (Za (Zh (Zi (Zz (n:=0) (m:=0) J J J (Zld ?_))))))
 refine Zx J J (Zo J (ZS (ZT 9) (fun h9=>?_) (fun h9=>?_)))
 refine Zr J J J J (Zr J J J J (Zr J J J J (Zr J J J J (Zr J J J J (Zr J J J J (Zt J J (Zza ?_)))))))
 exact ⟨(),trivial,by show Value.bool true=Value.bool (decide (x.fAt<0) || decide ((d.fWords.length:Int)≤x.fAt));rw [decide_eq_true (show x.fAt<0 from h9)];rfl,Lh⟩
 refine Zq J J (Zz (n:=0) (m:=0) J J J (Zzh ?_))
 refine Zq J J (Zz (n:=1) (m:=1) J J J (Zzh ?_))
 refine Zq J J (Zv J J (Zq J J (Z2 J J (Zu J J (Zza ?_)))))
 exact ⟨(),trivial,by show _=Value.bool (decide (x.fAt<0) || decide ((d.fWords.length:Int)≤x.fAt));rw [decide_eq_false (show ¬ x.fAt<0 from h9)];rfl,Lh⟩
theorem rule3 {B:Base}{w:World}(d:ApiData) (A0:Option Addr) (c0:Nat) (A1:Option Addr) (c1:Nat) (l:List ApiSymbol) (Al:Option Addr) (cl:Nat) (cls:Int) (b2 b3 b5:Nat) (hS:St B [blk b2 62 [.int .i64 d.fKind,.slice A0 d.fWords.length c0,.slice A1 d.fRelocs.length c1]] w) (g1:kApiReloc.C B.e A1 d.fRelocs) (hC:kApiSymbol.C B.e Al l) (hlw:d.fWords.length≤100000) (i:Nat) (x:ApiReloc) (hx:d.fRelocs[i]?=some x) :
 CW 132 #[.int .i64 (i:Int),.agg #[.int .i64 x.fAt,.int .i64 x.fSym,.bool x.fWide],.pointer (some ⟨b2,0,none⟩)] w (Ret B (fun _:Unit=>True) (fun _=>.bool (ruleP d l cls i x 2)) (fun _=>[blk b2 62 [.int .i64 d.fKind,.slice A0 d.fWords.length c0,.slice A1 d.fRelocs.length c1]])):=by
 have hll:=hC.1
 have hlr:=g1.1
 have hil:=(List.getElem?_eq_some_iff.1 hx).1
 refine ZX Tryz.func132 hS ?_
 refine Zh (Zi (oBox J ZP (fun b4=>?_)))
 refine Zp J (Zn (Za (Zh (wDrawG J [0,1,2,3,4,5,6,7,8,9,10,11,12,13] [] [14] 24 ZK J J (fun w0=>?_)))))
 refine Zo J (Z1 J J (Zo J (ZS (ZT 8) (fun h8=>?_) (fun h8=>?_))))
 obtain ⟨y,hy⟩:∃ y,d.fRelocs[i-1]?=some y:=⟨_,List.getElem?_eq_getElem ZO⟩
 obtain ⟨e3,cs3,hE3⟩:=g1.elm hy
 obtain rfl:=kApiReloc_open hE3.K
 have hi0:0<i:=by omega
 refine Zq J J (Zz (n:=0) (m:=0) J J J (Zzh ?_))
 refine Zq J J (Zz (n:=2) (m:=2) J J J (Zzh ?_))
 refine Zq J J (Zo J (Zq J J ?_))
 first | refine oSub rfl rfl ZO ?_ | refine oSubW rfl rfl ?_
 refine ZS0 (t:=14) (v':=.int .i64 ((i-1:Nat):Int)) J (by congr 1;omega) ?_
 refine Zq J J (oIdxE J J (hE3) ZO J J ?_)
 have hc15:=(hE3).cell
 refine Zq J J (ZF (ZT 0) (ZT 0) ?_)
 refine Zq J J (Zlx hc15 ?_)
 refine Zq J J (oLeq J J (Zt J J (Z6 (Zza ?_))))
 exact ⟨(),trivial,by show _=Value.bool (decide (0<i) && decide (x.fAt≤(d.fRelocs.getD (i-1) default).fAt));rw [decide_eq_true hi0,show d.fRelocs.getD (i-1) default=y by rw [List.getD_eq_getElem?_getD,hy];rfl];rfl,Lh⟩
 refine Zr J J J J (Zr J J J J (Zr J J J J (Zr J J J J (Zr J J J J (Zr J J J J (Zr J J J J (Zr J J J J (Zr J J J J (Zr J J J J (Zu J J (Z6 (Zza ?_))))))))))))
 exact ⟨(),trivial,by show _=Value.bool (decide (0<i) && decide (x.fAt≤(d.fRelocs.getD (i-1) default).fAt));rw [decide_eq_false (show ¬ 0<i by omega)];rfl,Lh⟩
theorem rule4 {B:Base}{w:World}(d:ApiData) (A0:Option Addr) (c0:Nat) (A1:Option Addr) (c1:Nat) (l:List ApiSymbol) (Al:Option Addr) (cl:Nat) (cls:Int) (b2 b3 b5:Nat) (hS:St B [blk b3 22 [.slice Al l.length cl]] w) (g1:kApiReloc.C B.e A1 d.fRelocs) (hC:kApiSymbol.C B.e Al l) (hlw:d.fWords.length≤100000) (i:Nat) (x:ApiReloc) (hx:d.fRelocs[i]?=some x) :
 CW 133 #[.int .i64 (i:Int),.agg #[.int .i64 x.fAt,.int .i64 x.fSym,.bool x.fWide],.pointer (some ⟨b3,0,none⟩)] w (Ret B (fun _:Unit=>True) (fun _=>.bool (ruleP d l cls i x 3)) (fun _=>[blk b3 22 [.slice Al l.length cl]])):=by
 have hll:=hC.1
 have hlr:=g1.1
 have hil:=(List.getElem?_eq_some_iff.1 hx).1
 refine ZX Tryz.func133 hS ?_
 refine Zh (Zi (oBox J ZP (fun b4=>?_)))
 refine Zp J (Zn (Za (Zh (Zi (Zz (n:=1) (m:=1) J J J (Zld ?_))))))
 refine Zx J J (Zo J (ZS (ZT 9) (fun h9=>?_) (fun h9=>?_)))
 refine Zr J J J J (Zr J J J J (Zr J J J J (Zr J J J J (Zr J J J J (Zt J J (Zza ?_))))))
 exact ⟨(),trivial,by show Value.bool true=Value.bool (decide (x.fSym<0) || decide ((l.length:Int)≤x.fSym));rw [decide_eq_true (show x.fSym<0 from h9)];rfl,Lh⟩
 refine Zq J J (Zz (n:=1) (m:=1) J J J (Zzh ?_))
 refine Zq J J (Zld ?_)
 refine Zq J J (Zv J J (Zq J J (Z2 J J (Zu J J (Zza ?_)))))
 exact ⟨(),trivial,by show _=Value.bool (decide (x.fSym<0) || decide ((l.length:Int)≤x.fSym));rw [decide_eq_false (show ¬ x.fSym<0 from h9)];rfl,Lh⟩
theorem rule5 {B:Base}{w:World}(d:ApiData) (A0:Option Addr) (c0:Nat) (A1:Option Addr) (c1:Nat) (l:List ApiSymbol) (Al:Option Addr) (cl:Nat) (cls:Int) (b2 b3 b5:Nat) (hS:St B [blk b3 22 [.slice Al l.length cl],blk b5 3 [.int .i64 cls]] w) (g1:kApiReloc.C B.e A1 d.fRelocs) (hC:kApiSymbol.C B.e Al l) (hlw:d.fWords.length≤100000) (i:Nat) (x:ApiReloc) (hx:d.fRelocs[i]?=some x) (h3:ruleP d l cls i x 3=false) :
 CW 134 #[.int .i64 (i:Int),.agg #[.int .i64 x.fAt,.int .i64 x.fSym,.bool x.fWide],.pointer (some ⟨b3,0,none⟩),.pointer (some ⟨b5,0,none⟩)] w (Ret B (fun _:Unit=>True) (fun _=>.bool (ruleP d l cls i x 4)) (fun _=>[blk b3 22 [.slice Al l.length cl],blk b5 3 [.int .i64 cls]])):=by
 have hll:=hC.1
 have hlr:=g1.1
 have hil:=(List.getElem?_eq_some_iff.1 hx).1
 refine ZX Tryz.func134 hS ?_
 refine Zh (Zi (oBox J ZP (fun b5=>?_)))
 refine Zp J (Zn (Za (Zh (wDrawG J [0,1,2,3,4,5,6,7,8,9,10,11,12,13,14,15,16] [] [17] 24 ZK J J (fun w0=>?_)))))
 refine Zld ?_
 refine Zz (n:=1) (m:=1) J J J (Zld ?_)
 have hs3:¬ x.fSym<0∧¬ (l.length:Int)≤x.fSym:=by
  have h:(decide (x.fSym<0) || decide ((l.length:Int)≤x.fSym))=false:=h3
  rw [Bool.or_eq_false_iff,decide_eq_false_iff_not,decide_eq_false_iff_not] at h
  exact h
 obtain ⟨k,hk⟩:=Int.eq_ofNat_of_zero_le (show 0≤x.fSym by omega)
 obtain ⟨y,hy⟩:∃ y,l[k]?=some y:=⟨_,List.getElem?_eq_getElem ZO⟩
 obtain ⟨e3,cs3,hE3⟩:=hC.elm hy
 obtain rfl:=kApiSymbol_open hE3.K
 have hly:l.getD x.fSym.toNat default=y:=by rw [hk,Int.toNat_natCast,List.getD_eq_getElem?_getD,hy];rfl
 refine ZS0 (t:=9) (v':=.int .i64 (k:Int)) rfl (by rw [hk]) ?_
 refine oIdxE J J (hE3) ZO J J ?_
 have hc10:=(hE3).cell
 refine ZF (ZT 2) (ZT 2) ?_
 refine Zlx hc10 ?_
 refine Z0 J J (Zo J (ZS (ZT 14) (fun h14=>?_) (fun h14=>?_)))
 refine Zr J J J J (Zr J J J J (Zr J J J J (Zr J J J J (Zr J J J J (Zr J J J J (Zr J J J J (Zr J J J J (Zt J J (Z6 (Zza ?_))))))))))
 exact ⟨(),trivial,by show Value.bool true=Value.bool (decide ((l.getD x.fSym.toNat default).fSort≠1) || decide ((l.getD x.fSym.toNat default).fKind≠cls));rw [hly,decide_eq_true (show y.fSort≠1 from h14)];rfl,Lh⟩
 refine Zq J J (Zld ?_)
 refine Zq J J (Zz (n:=1) (m:=1) J J J (Zzh ?_))
 refine ZS0 (t:=17) (v':=.int .i64 (k:Int)) rfl (by rw [hk]) ?_
 refine Zq J J (oIdxE J J (hE3) ZO J J ?_)
 have hc18:=(hE3).cell
 refine Zq J J (ZF (ZT 3) (ZT 3) ?_)
 refine Zq J J (Zlx hc18 ?_)
 refine Zq J J (Zld ?_)
 refine Zq J J (Z0 J J (Zu J J (Z6 (Zza ?_))))
 exact ⟨(),trivial,by show _=Value.bool (decide ((l.getD x.fSym.toNat default).fSort≠1) || decide ((l.getD x.fSym.toNat default).fKind≠cls));rw [hly,decide_eq_false (show ¬ y.fSort≠1 from h14)];rfl,Lh⟩

theorem rules_good {b2 b3 b5 j:Nat}{r:Fn×Int}(h:(rulesL b2 b3 b5)[j]?=some r):goodF Tryz.prog r.1.1=true:=by
  have hj:=(List.getElem?_eq_some_iff.1 h).1
  match j,hj,h with
  | 0,_,h=>obtain rfl:=Option.some.inj h;show goodF Tryz.prog 130=true;kernel_rfl
  | 1,_,h=>obtain rfl:=Option.some.inj h;show goodF Tryz.prog 131=true;kernel_rfl
  | 2,_,h=>obtain rfl:=Option.some.inj h;show goodF Tryz.prog 132=true;kernel_rfl
  | 3,_,h=>obtain rfl:=Option.some.inj h;show goodF Tryz.prog 133=true;kernel_rfl
  | 4,_,h=>obtain rfl:=Option.some.inj h;show goodF Tryz.prog 134=true;kernel_rfl
theorem rules_e {b2 b3 b5 j:Nat}{r:Fn×Int}(h:(rulesL b2 b3 b5)[j]?=some r):r.2=ruleE j∧j<5:=by
  have hj:=(List.getElem?_eq_some_iff.1 h).1
  match j,hj,h with
  | 0,_,h=>obtain rfl:=Option.some.inj h;exact ⟨rfl,by decide⟩
  | 1,_,h=>obtain rfl:=Option.some.inj h;exact ⟨rfl,by decide⟩
  | 2,_,h=>obtain rfl:=Option.some.inj h;exact ⟨rfl,by decide⟩
  | 3,_,h=>obtain rfl:=Option.some.inj h;exact ⟨rfl,by decide⟩
  | 4,_,h=>obtain rfl:=Option.some.inj h;exact ⟨rfl,by decide⟩
theorem rules_call {B:Base}{w:World}(d:ApiData) (A0:Option Addr) (c0:Nat) (A1:Option Addr) (c1:Nat) (l:List ApiSymbol) (Al:Option Addr) (cl:Nat) (cls:Int) (b2 b3 b5:Nat) (hS:St B [blk b2 62 [.int .i64 d.fKind,.slice A0 d.fWords.length c0,.slice A1 d.fRelocs.length c1],blk b3 22 [.slice Al l.length cl],blk b5 3 [.int .i64 cls]] w) (g1:kApiReloc.C B.e A1 d.fRelocs) (hC:kApiSymbol.C B.e Al l) (hlw:d.fWords.length≤100000) (i:Nat) (x:ApiReloc) (hx:d.fRelocs[i]?=some x) {j:Nat}{r:Fn×Int}(h:(rulesL b2 b3 b5)[j]?=some r) (hs:∀ k,k<j→ruleP d l cls i x k=false) :
    CW r.1.1 (#[]++[Value.int .i64 (i:Int),Value.agg #[.int .i64 x.fAt,.int .i64 x.fSym,.bool x.fWide]].toArray++(r.1.2.map fun b=>Value.pointer (some ⟨b,0,none⟩)).toArray) w (Ret B (fun _:Unit=>True) (fun _=>.bool (ruleP d l cls i x j)) (fun _=>[blk b2 62 [.int .i64 d.fKind,.slice A0 d.fWords.length c0,.slice A1 d.fRelocs.length c1],blk b3 22 [.slice Al l.length cl],blk b5 3 [.int .i64 cls]])):=by
  have hj:=(List.getElem?_eq_some_iff.1 h).1
  match j,hj,h,hs with
  | 0,_,h,_=>obtain rfl:=Option.some.inj h;refine (frame hS ZQ (fun B' hB hS'=>rule1 d A0 c0 A1 c1 l Al cl cls b2 b3 b5 hS' (Kd.C_grow hB g1) (Kd.C_grow hB hC) hlw i x hx)).mono ?_;rintro e w' ⟨u,a,b,c⟩;exact ⟨u,a,b,(Leads.has ZQ) _ c⟩
  | 1,_,h,_=>obtain rfl:=Option.some.inj h;refine (frame hS ZQ (fun B' hB hS'=>rule2 d A0 c0 A1 c1 l Al cl cls b2 b3 b5 hS' (Kd.C_grow hB g1) (Kd.C_grow hB hC) hlw i x hx)).mono ?_;rintro e w' ⟨u,a,b,c⟩;exact ⟨u,a,b,(Leads.has ZQ) _ c⟩
  | 2,_,h,_=>obtain rfl:=Option.some.inj h;refine (frame hS ZQ (fun B' hB hS'=>rule3 d A0 c0 A1 c1 l Al cl cls b2 b3 b5 hS' (Kd.C_grow hB g1) (Kd.C_grow hB hC) hlw i x hx)).mono ?_;rintro e w' ⟨u,a,b,c⟩;exact ⟨u,a,b,(Leads.has ZQ) _ c⟩
  | 3,_,h,_=>obtain rfl:=Option.some.inj h;refine (frame hS ZQ (fun B' hB hS'=>rule4 d A0 c0 A1 c1 l Al cl cls b2 b3 b5 hS' (Kd.C_grow hB g1) (Kd.C_grow hB hC) hlw i x hx)).mono ?_;rintro e w' ⟨u,a,b,c⟩;exact ⟨u,a,b,(Leads.has ZQ) _ c⟩
  | 4,_,h,hs=>obtain rfl:=Option.some.inj h;refine (frame hS ZQ (fun B' hB hS'=>rule5 d A0 c0 A1 c1 l Al cl cls b2 b3 b5 hS' (Kd.C_grow hB g1) (Kd.C_grow hB hC) hlw i x hx (hs 3 ZO))).mono ?_;rintro e w' ⟨u,a,b,c⟩;exact ⟨u,a,b,(Leads.has ZQ) _ c⟩
theorem data_nz {B:Base}{w:World}(hS:St B [] w) (x:Int) :
 CW 98 #[.int .i64 x] w (Ret B (fun _:Unit=>True) (fun _=>.bool (decide (x≠0))) (fun _=>[])):=by
 refine ZX Tryz.func98 hS ?_
 refine Zh (Zi (Zp J (Zn (Za (Zh (Zi (Zo J (Z0 J J (Zza ?_)))))))))
 exact ⟨(),trivial,rfl,Lh⟩
theorem indexFunc_w {B:Base}{w:World}(hS:St B [] w) (l:List Int) (A:Option Addr) (cp:Nat) (hC:(Kd.int .i64).C B.e A l) :
 CW 128 #[.slice A l.length cp,.func (.func 98) #[] #[]] w (Ret B (fun _:Unit=>True) (fun _=>.int .i64 (idxI (fun x=>decide (x≠0)) l)) (fun _=>[])):=by
 have hl:=hC.1
 refine ZX Tryz.func128 hS ?_
 refine Zh (Zi (Zp J (Zn (Za (Zh (Zh (Zi (Zo J (Zv J J (Zo J (Zn (Za (Zk (wLoop (ι:=Nat) (fun i=>[(0,.slice A l.length cp),(1,.func (.func 98) #[] #[]),(7,.int .i64 (l.length:Int)),(8,.int .i64 (i:Int))]) (fun i=>[]) (fun i=>i≤l.length∧∀ y ∈ l.take i,decide (y≠0)=false) (fun i=>l.length-i) 0 ?_ cv (Leads.has ZQ) ?_))))))))))))))
 exact ⟨Nat.zero_le _,by simp⟩
 rintro i ⟨hi,hs⟩
 try dsimp only
 refine Zh (Zi (Zx J J (Zn (Za (Zh (wC (fun h9=>?_) (fun h9=>?_)))))))
 obtain ⟨x,hx⟩:∃ x,l[i]?=some x:=⟨_,List.getElem?_eq_getElem ZO⟩
 obtain ⟨e1,cs1,hE⟩:=hC.elm hx
 obtain rfl:=(show cs1=[Value.int .i64 x] from hE.K)
 refine Zj (Za (Zh (Zk (Zh (Zi (Zo J (Zp J (Zn (Za (Zh (Zi (Zo J (Zo J (Zo J (oIdxE J J (hE) ZO J J ?_)))))))))))))))
 have hc14:=(hE).cell
 refine Zlx hc14 ?_
 (refine oCallV rfl rfl rfl ZK (fun w hS=>frame hS ZQ (fun B' hB hS'=>data_nz hS' x)) ?_;rintro ⟨⟩ -)
 refine Zn (Za (wC (fun h16=>?_) (fun h16=>?_)))
 refine Zh (Zi (Zo J (Zzb ?_)))
 exact ⟨(),trivial,by rw [idxI_stop (p:=fun y=>decide (y≠0)) hs hx (by simpa using h16)];rfl,Lh⟩
 refine Zj (Zzl ?_)
 refine Zo J (Zn (Za ?_))
 exact ⟨rfl,i+1,⟨by omega,take_not (p:=fun y=>decide (y≠0)) hs hx (by simpa using h16)⟩,by omega,cv,Lh⟩
 refine Zm (Zzg ?_)
 obtain rfl:i=l.length:=by omega
 rw [List.take_length] at hs
 exact ⟨(),trivial,by rw [idxI_none (p:=fun y=>decide (y≠0)) hs];rfl,Lh⟩
theorem containsFunc_w {B:Base}{w:World}(hS:St B [] w) (l:List Int) (A:Option Addr) (cp:Nat) (hC:(Kd.int .i64).C B.e A l) :
 CW 97 #[.slice A l.length cp,.func (.func 98) #[] #[]] w (Ret B (fun _:Unit=>True) (fun _=>.bool (l.any fun x=>decide (x≠0))) (fun _=>[])):=by
 refine ZX Tryz.func97 hS ?_
 refine Zh (Zi (Zp J (Zn (Za (Zh (Zi (Zo J (Zo J ?_))))))))
 (refine ZC0 rfl ZK (fun w hS=>frame hS ZQ (fun B' hB hS'=>indexFunc_w hS' l A cp (Kd.C_grow hB hC))) ?_;rintro ⟨⟩ -)
 refine Z2 J J (Zza ?_)
 exact ⟨(),trivial,by show Value.bool (decide (0≤idxI (fun x=>decide (x≠0)) l))=_;congr 1;rw [Bool.eq_iff_iff,decide_eq_true_eq];exact idxI_iff,Lh⟩
theorem data_rules {B:Base}{w:World}(hS:St B [] w) (d:ApiData) (A0:Option Addr) (c0:Nat) (A1:Option Addr) (c1:Nat) (l:List ApiSymbol) (Al:Option Addr) (cl:Nat) :
 CW 99 #[.agg #[.int .i64 d.fKind,.slice A0 d.fWords.length c0,.slice A1 d.fRelocs.length c1],.slice Al l.length cl] w (Ret B (fun _:Nat×Nat×Nat×Nat=>True) (fun z=>.slice (some ⟨z.2.2.2,0,none⟩) 5 5) (fun z=>[blk z.2.2.2 143 [.func (.func 130) #[] #[.pointer (some ⟨z.1,0,none⟩)],.int .i64 11,.func (.func 131) #[] #[.pointer (some ⟨z.1,0,none⟩)],.int .i64 11,.func (.func 132) #[] #[.pointer (some ⟨z.1,0,none⟩)],.int .i64 11,.func (.func 133) #[] #[.pointer (some ⟨z.2.1,0,none⟩)],.int .i64 11,.func (.func 134) #[] #[.pointer (some ⟨z.2.1,0,none⟩),.pointer (some ⟨z.2.2.1,0,none⟩)],.int .i64 8],blk z.1 62 [.int .i64 d.fKind,.slice A0 d.fWords.length c0,.slice A1 d.fRelocs.length c1],blk z.2.1 22 [.slice Al l.length cl],blk z.2.2.1 3 [.int .i64 (if isC (IntKind.i64.wrap (d.fKind-1)) then IntKind.i64.wrap (d.fKind-1) else 0)]])):=by
 refine ZX Tryz.func99 hS ?_
 refine Zh (Zi (oBox J ZP (fun b2=>?_)))
 refine oBox J ZP (fun b3=>?_)
 refine Zp J (Zn (Za (Zh (Zi (Zz (n:=0) (m:=0) J J J (Zld ?_))))))
 (refine ZC0 rfl ZK (fun w hS=>frame hS ZQ (fun B' hB hS'=>sig_Class hS' d.fKind)) ?_;rintro ⟨⟩ -)
 refine Zo J (oExt J ZP ?_)
 refine oExt J ZP ?_
 refine oAlloc J ZP (fun b5=>?_)
 refine Zst ?_
 refine Zp J (Zn (Za (Zh (Zi (oMakeFunc J (oBuild (Parts.cons J (Parts.cons J Parts.nil)) J J (Built.cons (off:=0) (s:=1) J ZP J ZP (Built.cons (off:=1) (s:=1) J ZP J ZP Built.nil)) ?_))))))
 refine oMakeFunc J (oBuild (Parts.cons J (Parts.cons J Parts.nil)) J J (Built.cons (off:=0) (s:=1) J ZP J ZP (Built.cons (off:=1) (s:=1) J ZP J ZP Built.nil)) ?_)
 refine oMakeFunc J (oBuild (Parts.cons J (Parts.cons J Parts.nil)) J J (Built.cons (off:=0) (s:=1) J ZP J ZP (Built.cons (off:=1) (s:=1) J ZP J ZP Built.nil)) ?_)
 refine oMakeFunc J (oBuild (Parts.cons J (Parts.cons J Parts.nil)) J J (Built.cons (off:=0) (s:=1) J ZP J ZP (Built.cons (off:=1) (s:=1) J ZP J ZP Built.nil)) ?_)
 refine oMakeFunc J (oBuild (Parts.cons J (Parts.cons J Parts.nil)) J J (Built.cons (off:=0) (s:=1) J ZP J ZP (Built.cons (off:=1) (s:=1) J ZP J ZP Built.nil)) ?_)
 refine oBuildSliceF (Parts.cons J (Parts.cons J (Parts.cons J (Parts.cons J (Parts.cons J Parts.nil))))) J J J J J (Fulls.cons ZP J (Fulls.cons ZP J (Fulls.cons ZP J (Fulls.cons ZP J (Fulls.cons ZP J Fulls.nil ap) ap) ap) ap) ap) (fun b23=>?_)
 refine Zp J (Zzj ?_)
 exact ⟨(b2,b3,b5,b23),trivial,rfl,Lh⟩
theorem rule_all {d:ApiData}{l:List ApiSymbol}{i:Nat}{x:ApiReloc}{cls:Int}(hc:d.fKind≠0→cls=d.fKind-1) (h:∀ k,k<5→ruleP d l cls i x k=false):dRelE d l i x=0:=by
 have h0:d.fKind≠0:=by simpa [ruleP] using h 0 ZO
 have h1:=h 1 ZO
 have h2:=h 2 ZO
 have h3:=h 3 ZO
 have h4:=h 4 ZO
 have e:=hc h0
 unfold dRelE
 simp only [ruleP,Bool.or_eq_false_iff,Bool.and_eq_false_iff,decide_eq_false_iff_not] at h1 h2 h3 h4
 rw [if_neg (by rintro (a | a | a | ⟨a,b⟩ | a | a);exact h0 a;exact h1.1 a;exact h1.2 a;exact h2.elim (fun f=>f a) (fun f=>f b);exact h3.1 a;exact h3.2 a),if_neg (by rintro (a | a);exact h4.1 a;exact h4.2 (by rw [e];exact a))]
theorem rule_hit {d:ApiData}{l:List ApiSymbol}{i:Nat}{x:ApiReloc}{cls:Int}{j:Nat}(hj:j<5) (hc:d.fKind≠0→cls=d.fKind-1) (h:∀ k,k<j→ruleP d l cls i x k=false) (hh:ruleP d l cls i x j=true):dRelE d l i x=ruleE j:=by
  unfold dRelE
  match j,hj,hh,h with
  | 0,_,hh,_=>rw [if_pos (Or.inl (by simpa [ruleP] using hh))];rfl
  | 1,_,hh,_=>rw [if_pos (by simp only [ruleP,Bool.or_eq_true,decide_eq_true_eq] at hh;exact hh.elim (fun a=>.inr (.inl a)) (fun a=>.inr (.inr (.inl a))))];rfl
  | 2,_,hh,_=>rw [if_pos (by simp only [ruleP,Bool.and_eq_true,decide_eq_true_eq] at hh;exact .inr (.inr (.inr (.inl hh))))];rfl
  | 3,_,hh,_=>rw [if_pos (by simp only [ruleP,Bool.or_eq_true,decide_eq_true_eq] at hh;exact hh.elim (fun a=>.inr (.inr (.inr (.inr (.inl a))))) (fun a=>.inr (.inr (.inr (.inr (.inr a))))))];rfl
  | 4,_,hh,h=>
    have h0:d.fKind≠0:=by simpa [ruleP] using h 0 ZO
    have h1:=h 1 ZO
    have h2:=h 2 ZO
    have h3:=h 3 ZO
    have e:=hc h0
    simp only [ruleP,Bool.or_eq_false_iff,Bool.and_eq_false_iff,decide_eq_false_iff_not] at h1 h2 h3
    simp only [ruleP,Bool.or_eq_true,decide_eq_true_eq] at hh
    rw [if_neg (by rintro (a | a | a | ⟨a,b⟩ | a | a);exact h0 a;exact h1.1 a;exact h1.2 a;exact h2.elim (fun f=>f a) (fun f=>f b);exact h3.1 a;exact h3.2 a),if_pos (by rw [← e];exact hh)];rfl
theorem cat_rules (w:World) (b2 b3 b5:Nat):Cat kRule w (rulesL b2 b3 b5) [.func (.func 130) #[] #[.pointer (some ⟨b2,0,none⟩)],.int .i64 11,.func (.func 131) #[] #[.pointer (some ⟨b2,0,none⟩)],.int .i64 11,.func (.func 132) #[] #[.pointer (some ⟨b2,0,none⟩)],.int .i64 11,.func (.func 133) #[] #[.pointer (some ⟨b3,0,none⟩)],.int .i64 11,.func (.func 134) #[] #[.pointer (some ⟨b3,0,none⟩),.pointer (some ⟨b5,0,none⟩)],.int .i64 8]:=
 ⟨[_,_],_,rfl,⟨_,_,rfl,rfl,rfl⟩,[_,_],_,rfl,⟨_,_,rfl,rfl,rfl⟩,[_,_],_,rfl,⟨_,_,rfl,rfl,rfl⟩,[_,_],_,rfl,⟨_,_,rfl,rfl,rfl⟩,[_,_],_,rfl,⟨_,_,rfl,rfl,rfl⟩,rfl⟩
theorem cls_eq {k:Int}(h:textF k≠ByteArray.empty) (h0:k≠0):(if isC (IntKind.i64.wrap (k-1)) then IntKind.i64.wrap (k-1) else 0)=k-1:=by
 have hk:0≤k∧k<9:=Classical.not_not.1 (fun hn=>h (textF_no.2 hn))
 have hw:IntKind.i64.wrap (k-1)=k-1:=wrap_in (by unfold in64;omega)
 rw [hw,if_pos (by unfold isC;rw [decide_eq_true (show 0≤k-1 by omega),decide_eq_true (show k-1<8 by omega)];rfl)]
theorem data_Check {B:Base}{w:World}(hS:St B [] w) (d:ApiData) (dc:List Value) (hd:kApiData.K B.e d dc) (hk:in64 d.fKind) (hl2:d.fRelocs.length≤100000) (Al:Option Addr) (cl:Nat) (l:List ApiSymbol) (hC:kApiSymbol.C B.e Al l) :
 CW 67 #[.agg dc.toArray,.slice Al l.length cl] w (Ret B (fun _:Unit=>True) (fun _=>.int .i64 (dataF d l)) (fun _=>[])):=by
 obtain ⟨A0,c0,A1,c1,rfl,l0,g0,l1,g1⟩:=kApiData_open hd
 have hw1:=g0.1
 refine ZX Tryz.func67 hS ?_
 refine Zh (Zi (oBox J ZP (fun b2=>?_)))
 refine Zp J (Zn (Za (Zh (Zk (Zh (Zi (Zz (n:=0) (m:=0) J J J (Zld ?_))))))))
 (refine ZC0 rfl ZK (fun w hS=>frame hS ZQ (fun B' hB hS'=>sig_Text hS' d.fKind)) ?_;rintro ⟨⟩ -)
 refine oSEq J J (Zp J (Zn (Za (wC (fun h10=>?_) (fun h10=>?_)))))
 have h10:textF d.fKind=ByteArray.empty:=h10
 refine Zh (Zi (Zzf ?_))
 exact ⟨(),trivial,by unfold dataF;rw [if_pos h10];rfl,Lh⟩
 have h10:¬ textF d.fKind=ByteArray.empty:=h10
 have hcls:d.fKind≠0→(if isC (IntKind.i64.wrap (d.fKind-1)) then IntKind.i64.wrap (d.fKind-1) else 0)=d.fKind-1:=fun h0=>cls_eq h10 h0
 refine Zh (Zi (Zz (n:=1) (m:=1) J J J (Zld ?_)))
 refine Zv J J (Z1 J J (Zp J (Zn (Za (wC (fun h15=>?_) (fun h15=>?_))))))
 refine Zh (Zi (Zzf ?_))
 exact ⟨(),trivial,by unfold dataF;rw [if_neg h10,if_pos ZO];rfl,Lh⟩
 have hn32:¬ 32<d.fWords.length:=by omega
 refine Zh (Zi (Zz (n:=0) (m:=0) J J J (Zld ?_)))
 refine Z0 J J (Zo J (ZS (ZT 24) (fun h24=>?_) (fun h24=>?_)))
 have hfn:(fun w:Int=>decide (d.fKind≠0∧w≠0))=fun w=>decide (w≠0):=by funext w;simp [show d.fKind≠0 from h24]
 refine Zq J J (Zz (n:=1) (m:=1) J J J (Zzh ?_))
 refine Zq J J ?_
 (refine ZC0 rfl ZK (fun w hS=>frame hS ZQ (fun B' hB hS'=>containsFunc_w hS' d.fWords A0 c0 (Kd.C_grow hB g0))) ?_;rintro ⟨⟩ -)
 refine Zt J J (Zp J (Zn (Za (wC (fun h20=>?_) (fun h20=>?_)))))
 refine Zh (Zi (Zzf ?_))
 exact ⟨(),trivial,by unfold dataF;rw [if_neg h10,if_neg hn32,if_pos (by rw [hfn];simpa using h20)];rfl,Lh⟩
 have hdF:dataF d l=fstE ((List.range d.fRelocs.length).map (relE d l)):=by unfold dataF;rw [if_neg h10,if_neg hn32,if_neg (by rw [hfn];simpa using h20)]
 refine Zj (Zd (Za (Zzq ?_)))
 refine Zo J ?_
 (refine ZC0 rfl ZK (fun w hS=>frame hS ZQ (fun B' hB hS'=>data_rules hS' d A0 c0 A1 c1 l Al cl)) ?_;rintro z -)
 refine Zp J (Zn (Za (wFreeze [blk z.2.2.2 143 [.func (.func 130) #[] #[.pointer (some ⟨z.1,0,none⟩)],.int .i64 11,.func (.func 131) #[] #[.pointer (some ⟨z.1,0,none⟩)],.int .i64 11,.func (.func 132) #[] #[.pointer (some ⟨z.1,0,none⟩)],.int .i64 11,.func (.func 133) #[] #[.pointer (some ⟨z.2.1,0,none⟩)],.int .i64 11,.func (.func 134) #[] #[.pointer (some ⟨z.2.1,0,none⟩),.pointer (some ⟨z.2.2.1,0,none⟩)],.int .i64 8]] ZQ (fun B1 hB1 hq1=>?_))))
 have hR:kRule.C B1.e (some ⟨z.2.2.2,0,none⟩) (rulesL z.1 z.2.1 z.2.2.1):=C_blk (hq1 _ _ ZP) (by show 5≤9223372036854775807;omega) (cat_rules _ _ _ _)
 have g0:=Kd.C_grow hB1 g0
 have g1:=Kd.C_grow hB1 g1
 have hC:=Kd.C_grow hB1 hC
 refine Zh (Zh (Zi (Zz (n:=2) (m:=2) J J J (Zld ?_))))
 refine Zv J J (Zo J (Zn (Za (Zk (wLoop (ι:=Nat) (fun i=>[(2,.pointer (some ⟨b2,0,none⟩)),(5,.slice (some ⟨z.2.2.2,0,none⟩) 5 5),(33,.slice A1 d.fRelocs.length c1),(34,.int .i64 (d.fRelocs.length:Int)),(35,.int .i64 (i:Int))]) (fun i=>[blk b2 62 [.int .i64 d.fKind,.slice A0 d.fWords.length c0,.slice A1 d.fRelocs.length c1],blk z.1 62 [.int .i64 d.fKind,.slice A0 d.fWords.length c0,.slice A1 d.fRelocs.length c1],blk z.2.1 22 [.slice Al l.length cl],blk z.2.2.1 3 [.int .i64 (if isC (IntKind.i64.wrap (d.fKind-1)) then IntKind.i64.wrap (d.fKind-1) else 0)]]) (fun i=>i≤d.fRelocs.length∧fstE (((List.range d.fRelocs.length).map (relE d l)).take i)=0) (fun i=>d.fRelocs.length-i) 0 ?_ cv (Leads.has ZQ) ?_)))))
 exact ⟨Nat.zero_le _,rfl⟩
 rintro i ⟨hi,hs⟩
 try dsimp only
 refine Zh (Zi (Zx J J (Zn (Za (Zh (wC (fun h36=>?_) (fun h36=>?_)))))))
 obtain ⟨x,hx⟩:∃ x,d.fRelocs[i]?=some x:=⟨_,List.getElem?_eq_getElem ZO⟩
 obtain ⟨e1,cs1,hE⟩:=g1.elm hx
 obtain rfl:=kApiReloc_open hE.K
 have hre:((List.range d.fRelocs.length).map (relE d l))[i]?=some (relE d l i):=rmap_at ZO
 have hrx:=relE_at (l:=l) hx
 refine Zj (Za (Zh (Zk (Zh (Zi (Zo J (oIdxE J J (hE) ZO J J ?_)))))))
 have hc38:=(hE).cell
 refine Zlx hc38 ?_
 refine oAlloc J ZP (fun b7=>?_)
 refine Zp J (Zsa ?_)
 refine Zn (Za (Zh (Zi (Zo J (Zv J J (Zo J (Zn (Za (Zk (wLoop (ι:=Nat) (fun j=>[(2,.pointer (some ⟨b2,0,none⟩)),(5,.slice (some ⟨z.2.2.2,0,none⟩) 5 5),(33,.slice A1 d.fRelocs.length c1),(34,.int .i64 (d.fRelocs.length:Int)),(35,.int .i64 (i:Int)),(6,.int .i64 (i:Int)),(7,.pointer (some ⟨b7,0,none⟩)),(40,.slice (some ⟨z.2.2.2,0,none⟩) 5 5),(41,.int .i64 5),(42,.int .i64 (j:Int))]) (fun j=>[blk b7 103 [.int .i64 x.fAt,.int .i64 x.fSym,.bool x.fWide],blk b2 62 [.int .i64 d.fKind,.slice A0 d.fWords.length c0,.slice A1 d.fRelocs.length c1],blk z.1 62 [.int .i64 d.fKind,.slice A0 d.fWords.length c0,.slice A1 d.fRelocs.length c1],blk z.2.1 22 [.slice Al l.length cl],blk z.2.2.1 3 [.int .i64 (if isC (IntKind.i64.wrap (d.fKind-1)) then IntKind.i64.wrap (d.fKind-1) else 0)]]) (fun j=>j≤5∧∀ k,k<j→ruleP d l (if isC (IntKind.i64.wrap (d.fKind-1)) then IntKind.i64.wrap (d.fKind-1) else 0) i x k=false) (fun j=>5-j) 0 ?_ cv (Leads.has ZQ) ?_))))))))))
 exact ⟨Nat.zero_le _,fun k hk=>by omega⟩
 rintro j ⟨hj,hsj⟩
 try dsimp only
 refine Zh (Zi (Zx J J (Zn (Za (Zh (wC (fun h43=>?_) (fun h43=>?_)))))))
 obtain ⟨r,hr⟩:∃ r,(rulesL z.1 z.2.1 z.2.2.1)[j]?=some r:=⟨_,List.getElem?_eq_getElem (by show j<5;omega)⟩
 obtain ⟨e2,cs2,hE2⟩:=hR.elm hr
 obtain ⟨_,_,rfl,rfl,rfl⟩:=(hE2.K:kRule.K _ _ _)
 refine Zj (Za (Zh (Zk (Zh (Zi (oIdxE J J (hE2) ZO J J ?_))))))
 have hc44:=(hE2).cell
 refine Zlx hc44 ?_
 refine oAlloc J ZP (fun b9=>?_)
 refine Zsa ?_
 refine Zn (Za (Zh (Zi (Zz (n:=0) (m:=0) J J J (Zld ?_)))))
 refine Zo J (Zla ?_)
 (refine oCallV rfl rfl rfl (rules_good hr) (fun w hS=>frame hS ZQ (fun B' hB hS'=>rules_call d A0 c0 A1 c1 l Al cl _ z.1 z.2.1 z.2.2.1 hS' (Kd.C_grow hB g1) (Kd.C_grow hB hC) ZO i x hx hr hsj)) ?_;rintro ⟨⟩ -)
 refine Zn (Za (wC (fun h50=>?_) (fun h50=>?_)))
 refine Zh (Zi (Zz (n:=1) (m:=1) J J J (Zld ?_)))
 refine Zp J (Zn (Za (Zl (Zf (Zc (Zc (Zf (Zf (Zc (Zc (Zf (Zc (Zw (fi1 J ?_))))))))))))))
 exact ⟨(),trivial,by rw [hdF,fstE_stop hs hre (by rw [hrx,rule_hit (rules_e hr).2 hcls hsj (by simpa using h50)];unfold ruleE;split <;> decide),hrx,rule_hit (rules_e hr).2 hcls hsj (by simpa using h50),(rules_e hr).1];rfl,Lh⟩
 refine Zj (Zzl ?_)
 refine Zo J (Zn (Za ?_))
 exact ⟨rfl,j+1,⟨by omega,fun k hk=>if e:k=j then (by rw [e];simpa using h50) else hsj k ZO⟩,by omega,cv,Lh⟩
 obtain rfl:j=5:=by omega
 refine Zm (Zb (Zb (Ze (Zzl ?_))))
 refine Zo J (Zn (Za ?_))
 exact ⟨rfl,i+1,⟨by omega,fstE_next hs hre (by rw [hrx];exact rule_all hcls (fun k hk=>hsj k hk))⟩,by omega,cv,Lh⟩
 obtain rfl:i=d.fRelocs.length:=by omega
 rw [List.take_of_length_le (by simp)] at hs
 refine Zm (Zzg ?_)
 exact ⟨(),trivial,by rw [hdF,hs];rfl,Lh⟩
 have hdF:dataF d l=fstE ((List.range d.fRelocs.length).map (relE d l)):=by unfold dataF;rw [if_neg h10,if_neg hn32,if_neg (by simp [show d.fKind=0 from Classical.not_not.1 h24])]
 refine Zr J J J J (Zr J J J J (Zr J J J J (Zu J J (Zp J (Zn (Za (wCondF J (Zj (Zd (Za (Zzq ?_)))))))))))
 refine Zo J ?_
 (refine ZC0 rfl ZK (fun w hS=>frame hS ZQ (fun B' hB hS'=>data_rules hS' d A0 c0 A1 c1 l Al cl)) ?_;rintro z -)
 refine Zp J (Zn (Za (wFreeze [blk z.2.2.2 143 [.func (.func 130) #[] #[.pointer (some ⟨z.1,0,none⟩)],.int .i64 11,.func (.func 131) #[] #[.pointer (some ⟨z.1,0,none⟩)],.int .i64 11,.func (.func 132) #[] #[.pointer (some ⟨z.1,0,none⟩)],.int .i64 11,.func (.func 133) #[] #[.pointer (some ⟨z.2.1,0,none⟩)],.int .i64 11,.func (.func 134) #[] #[.pointer (some ⟨z.2.1,0,none⟩),.pointer (some ⟨z.2.2.1,0,none⟩)],.int .i64 8]] ZQ (fun B1 hB1 hq1=>?_))))
 have hR:kRule.C B1.e (some ⟨z.2.2.2,0,none⟩) (rulesL z.1 z.2.1 z.2.2.1):=C_blk (hq1 _ _ ZP) (by show 5≤9223372036854775807;omega) (cat_rules _ _ _ _)
 have g0:=Kd.C_grow hB1 g0
 have g1:=Kd.C_grow hB1 g1
 have hC:=Kd.C_grow hB1 hC
 refine Zh (Zh (Zi (Zz (n:=2) (m:=2) J J J (Zld ?_))))
 refine Zv J J (Zo J (Zn (Za (Zk (wLoop (ι:=Nat) (fun i=>[(2,.pointer (some ⟨b2,0,none⟩)),(5,.slice (some ⟨z.2.2.2,0,none⟩) 5 5),(33,.slice A1 d.fRelocs.length c1),(34,.int .i64 (d.fRelocs.length:Int)),(35,.int .i64 (i:Int))]) (fun i=>[blk b2 62 [.int .i64 d.fKind,.slice A0 d.fWords.length c0,.slice A1 d.fRelocs.length c1],blk z.1 62 [.int .i64 d.fKind,.slice A0 d.fWords.length c0,.slice A1 d.fRelocs.length c1],blk z.2.1 22 [.slice Al l.length cl],blk z.2.2.1 3 [.int .i64 (if isC (IntKind.i64.wrap (d.fKind-1)) then IntKind.i64.wrap (d.fKind-1) else 0)]]) (fun i=>i≤d.fRelocs.length∧fstE (((List.range d.fRelocs.length).map (relE d l)).take i)=0) (fun i=>d.fRelocs.length-i) 0 ?_ cv (Leads.has ZQ) ?_)))))
 exact ⟨Nat.zero_le _,rfl⟩
 rintro i ⟨hi,hs⟩
 try dsimp only
 refine Zh (Zi (Zx J J (Zn (Za (Zh (wC (fun h36=>?_) (fun h36=>?_)))))))
 obtain ⟨x,hx⟩:∃ x,d.fRelocs[i]?=some x:=⟨_,List.getElem?_eq_getElem ZO⟩
 obtain ⟨e1,cs1,hE⟩:=g1.elm hx
 obtain rfl:=kApiReloc_open hE.K
 have hre:((List.range d.fRelocs.length).map (relE d l))[i]?=some (relE d l i):=rmap_at ZO
 have hrx:=relE_at (l:=l) hx
 refine Zj (Za (Zh (Zk (Zh (Zi (Zo J (oIdxE J J (hE) ZO J J ?_)))))))
 have hc38:=(hE).cell
 refine Zlx hc38 ?_
 refine oAlloc J ZP (fun b7=>?_)
 refine Zp J (Zsa ?_)
 refine Zn (Za (Zh (Zi (Zo J (Zv J J (Zo J (Zn (Za (Zk (wLoop (ι:=Nat) (fun j=>[(2,.pointer (some ⟨b2,0,none⟩)),(5,.slice (some ⟨z.2.2.2,0,none⟩) 5 5),(33,.slice A1 d.fRelocs.length c1),(34,.int .i64 (d.fRelocs.length:Int)),(35,.int .i64 (i:Int)),(6,.int .i64 (i:Int)),(7,.pointer (some ⟨b7,0,none⟩)),(40,.slice (some ⟨z.2.2.2,0,none⟩) 5 5),(41,.int .i64 5),(42,.int .i64 (j:Int))]) (fun j=>[blk b7 103 [.int .i64 x.fAt,.int .i64 x.fSym,.bool x.fWide],blk b2 62 [.int .i64 d.fKind,.slice A0 d.fWords.length c0,.slice A1 d.fRelocs.length c1],blk z.1 62 [.int .i64 d.fKind,.slice A0 d.fWords.length c0,.slice A1 d.fRelocs.length c1],blk z.2.1 22 [.slice Al l.length cl],blk z.2.2.1 3 [.int .i64 (if isC (IntKind.i64.wrap (d.fKind-1)) then IntKind.i64.wrap (d.fKind-1) else 0)]]) (fun j=>j≤5∧∀ k,k<j→ruleP d l (if isC (IntKind.i64.wrap (d.fKind-1)) then IntKind.i64.wrap (d.fKind-1) else 0) i x k=false) (fun j=>5-j) 0 ?_ cv (Leads.has ZQ) ?_))))))))))
 exact ⟨Nat.zero_le _,fun k hk=>by omega⟩
 rintro j ⟨hj,hsj⟩
 try dsimp only
 refine Zh (Zi (Zx J J (Zn (Za (Zh (wC (fun h43=>?_) (fun h43=>?_)))))))
 obtain ⟨r,hr⟩:∃ r,(rulesL z.1 z.2.1 z.2.2.1)[j]?=some r:=⟨_,List.getElem?_eq_getElem (by show j<5;omega)⟩
 obtain ⟨e2,cs2,hE2⟩:=hR.elm hr
 obtain ⟨_,_,rfl,rfl,rfl⟩:=(hE2.K:kRule.K _ _ _)
 refine Zj (Za (Zh (Zk (Zh (Zi (oIdxE J J (hE2) ZO J J ?_))))))
 have hc44:=(hE2).cell
 refine Zlx hc44 ?_
 refine oAlloc J ZP (fun b9=>?_)
 refine Zsa ?_
 refine Zn (Za (Zh (Zi (Zz (n:=0) (m:=0) J J J (Zld ?_)))))
 refine Zo J (Zla ?_)
 (refine oCallV rfl rfl rfl (rules_good hr) (fun w hS=>frame hS ZQ (fun B' hB hS'=>rules_call d A0 c0 A1 c1 l Al cl _ z.1 z.2.1 z.2.2.1 hS' (Kd.C_grow hB g1) (Kd.C_grow hB hC) ZO i x hx hr hsj)) ?_;rintro ⟨⟩ -)
 refine Zn (Za (wC (fun h50=>?_) (fun h50=>?_)))
 refine Zh (Zi (Zz (n:=1) (m:=1) J J J (Zld ?_)))
 refine Zp J (Zn (Za (Zl (Zf (Zc (Zc (Zf (Zf (Zc (Zc (Zf (Zc (Zw (fi1 J ?_))))))))))))))
 exact ⟨(),trivial,by rw [hdF,fstE_stop hs hre (by rw [hrx,rule_hit (rules_e hr).2 hcls hsj (by simpa using h50)];unfold ruleE;split <;> decide),hrx,rule_hit (rules_e hr).2 hcls hsj (by simpa using h50),(rules_e hr).1];rfl,Lh⟩
 refine Zj (Zzl ?_)
 refine Zo J (Zn (Za ?_))
 exact ⟨rfl,j+1,⟨by omega,fun k hk=>if e:k=j then (by rw [e];simpa using h50) else hsj k ZO⟩,by omega,cv,Lh⟩
 obtain rfl:j=5:=by omega
 refine Zm (Zb (Zb (Ze (Zzl ?_))))
 refine Zo J (Zn (Za ?_))
 exact ⟨rfl,i+1,⟨by omega,fstE_next hs hre (by rw [hrx];exact rule_all hcls (fun k hk=>hsj k hk))⟩,by omega,cv,Lh⟩
 obtain rfl:i=d.fRelocs.length:=by omega
 rw [List.take_of_length_le (by simp)] at hs
 refine Zm (Zzg ?_)
 exact ⟨(),trivial,by rw [hdF,hs];rfl,Lh⟩
end Go.Proofs.YtafiabekcekdbaaGreatO
/-
  Heaps in arrays, plainly: exchanges, and what sifting up and down keeps.
-/
namespace Go.Proofs.YtafiabekcekdbaaGreatQ
set_option maxRecDepth 100000
set_option maxHeartbeats 4000000

section
variable (lt : Nat → Nat → Prop)
variable {lt} (asy : ∀ a b, lt a b → ¬ lt b a) (tr : ∀ a b c, ¬ lt b a → ¬ lt c b → ¬ lt c a)
include asy tr
omit asy tr in
omit tr in
omit asy tr in
end
def at_ (l:List Nat) (k:Nat):Nat:=l.getD k 0
end Go.Proofs.YtafiabekcekdbaaGreatQ


/-
  Package queue: what a pile is, and its methods Len and Less.
-/
namespace Go.Proofs.YtafiabekcekdbaaGreatQ
set_option maxRecDepth 100000
set_option maxHeartbeats 4000000
open Go.RowKit Go.Proofs.YtafiabekcekdbaaGreatK

structure It where
  id:Int
  key:Int
  pl:Int
def ltI (a b:It):Prop:=a.key<b.key∨a.key=b.key∧a.id<b.id
instance (a b:It):Decidable (ltI a b):=by unfold ltI;infer_instance

section
variable {c : Cx} {N : Md c} {M : Me c} {d : Nat} {ty : TypeId} {pos : String} {af : Array Edge} {rest : List Oper} {E : Env} {D : List Deferred} {H H' : List Res} {v : Value} {x y : Operand} {t : TypeId} {S : Nat → Prop} {f : Nat → It}
end

end Go.Proofs.YtafiabekcekdbaaGreatQ


/-
  Package queue: a pile's exchange.
-/
namespace Go.Proofs.YtafiabekcekdbaaGreatQ
set_option maxRecDepth 100000
set_option maxHeartbeats 4000000
open Go.RowKit Go.Proofs.YtafiabekcekdbaaGreatK

def Same (f f':Nat→It):Prop:=∀ b,(f' b).id=(f b).id∧(f' b).key=(f b).key
section
variable {c : Cx} {N : Md c} {M : Me c} {d : Nat} {ty : TypeId} {pos : String} {af : Array Edge} {rest : List Oper} {E : Env} {D : List Deferred} {H H' : List Res} {v : Value} {x y : Operand} {t : TypeId} {S : Nat → Prop} {f : Nat → It}
end
end Go.Proofs.YtafiabekcekdbaaGreatQ


/-
  Package queue: a pile's Push and Pop.
-/
namespace Go.Proofs.YtafiabekcekdbaaGreatQ
set_option maxRecDepth 100000
set_option maxHeartbeats 4000000
open Go.RowKit Go.Proofs.YtafiabekcekdbaaGreatK

section
variable {B : Base} {w : World} {Φ Φ' Φ'' : List Res} {S S' : Nat → Prop} {f f' : Nat → It} {b : Nat}
theorem St.apart {r s:Res}(h:St B Φ w) (hp:Pick Φ r Φ') (hq:Pick Φ' s Φ'') {k:Nat}(hr:r.fp k):¬ s.fp k:=by
 have:=(h.perm (hp.perm.trans (hq.perm.cons _))).sep
 exact this.2.2.1 s List.mem_cons_self k hr
end

end Go.Proofs.YtafiabekcekdbaaGreatQ


/-
  Package queue: a pile's Pop; container/heap's up and down.
-/


/-
  container/heap over a pile: up and down.
-/
namespace Go.Proofs.YtafiabekcekdbaaGreatQ
set_option maxRecDepth 100000
set_option maxHeartbeats 4000000
open Go.RowKit Go.Proofs.YtafiabekcekdbaaGreatK

def ltB (f:Nat→It) (a b:Nat):Prop:=ltI (f a) (f b)
theorem Same.refl (f:Nat→It):Same f f:=fun _=>⟨rfl,rfl⟩
theorem Same.trans {f g h:Nat→It}(a:Same f g) (b:Same g h):Same f h:=fun k=>⟨(b k).1.trans (a k).1,(b k).2.trans (a k).2⟩
theorem Same.lt {f g:Nat→It}(h:Same f g):ltB g=ltB f:=by
 funext a b;unfold ltB ltI;rw [(h a).1,(h a).2,(h b).1,(h b).2]
end Go.Proofs.YtafiabekcekdbaaGreatQ


/-
  container/heap over a pile: Push, Pop, Remove.
-/


/-
  Package queue: queues, as sorted lists of ids and keys.
-/
namespace Go.Proofs.YtafiabekcekdbaaGreatQ
set_option maxRecDepth 100000
set_option maxHeartbeats 4000000
open Go.RowKit Go.Proofs.YtafiabekcekdbaaGreatK

def lt2 (a b:Int×Int):Prop:=a.2<b.2∨a.2=b.2∧a.1<b.1
instance (a b:Int×Int):Decidable (lt2 a b):=by unfold lt2;infer_instance
def Sorted (W:List (Int×Int)):Prop:=W.Pairwise lt2
theorem Sorted.filter {W:List (Int×Int)}(h:Sorted W) (p:Int×Int→Bool):Sorted (W.filter p):=List.Pairwise.sublist List.filter_sublist h
end Go.Proofs.YtafiabekcekdbaaGreatQ


/-
  Package queue: New and the methods, over sorted lists.
-/
/-
  Package cycle: members, On; the reference's On.
-/
namespace Go.Proofs.YtafiabekcekdbaaGreatG
set_option maxRecDepth 100000
set_option maxHeartbeats 4000000
open Go.RowKit Go.Proofs.YtafiabekcekdbaaGreatK Go.Proofs.YtafiabekcekdbaaGreatT Go.Proofs.YtafiabekcekdbaaGreatL

theorem RP_congr {g g':Graph}{f f':List Int}(hl:g.length=g'.length) (he:∀ a b,b ∈ endsOf g a→b ∈ endsOf g' a) (hf:∀ x,inG g x=true→x ∈ f→x ∈ f') {x:Int}(h:RP g f x):RP g' f' x:=by
 induction h with
 | start h1 h2=>exact .start (hf _ h2 h1) (by unfold inG at *;rw [← hl];exact h2)
 | step h1 h2 ih=>exact .step ih (he _ _ h2)
end Go.Proofs.YtafiabekcekdbaaGreatG


/-
  The reference's On; graphs turned: Turn, and the reference's Clean.
-/


/-
  Package digraph: Turn.
-/


/-
  Orders, plainly: the least that is free, time and again.
-/
namespace Go.Proofs.YtafiabekcekdbaaGreatG
set_option maxRecDepth 100000
set_option maxHeartbeats 4000000
open Go.RowKit Go.Proofs.YtafiabekcekdbaaGreatK Go.Proofs.YtafiabekcekdbaaGreatT Go.Proofs.YtafiabekcekdbaaGreatL

def fre (ed:Nat→Nat→Bool) (left:List Bool) (a:Nat):Bool:=left.getD a false && (List.range left.length).all fun b=>!(left.getD b false) || !(ed b a)
def nxt (ed:Nat→Nat→Bool) (left:List Bool):Option Nat:=(List.range left.length).find? (fre ed left)
def trues (left:List Bool):Nat:=(left.filter id).length
def gr (ed:Nat→Nat→Bool):Nat→List Bool→List Nat
  | 0,_=>[]
  | f+1,left=>match nxt ed left with
    | none=>[]
    | some a=>a :: gr ed f (left.set a false)
theorem trues_set {left:List Bool}{a:Nat}(h:left[a]?=some true):trues (left.set a false)+1=trues left:=by
 unfold trues
 induction left generalizing a with
 | nil=>simp at h
 | cons b left ih=>
  cases a with
  | zero=>simp at h;subst h;simp
  | succ a=>
   have:=ih (a:=a) (by simpa using h)
   cases b <;> simp_all
theorem getD_true {left:List Bool}{a:Nat}(h:left.getD a false=true):left[a]?=some true:=by
 rw [List.getD_eq_getElem?_getD] at h
 cases hv:left[a]? with
 | none=>rw [hv] at h;cases h
 | some v=>rw [hv] at h;simp at h;rw [h]
theorem fre_left {ed:Nat→Nat→Bool}{left:List Bool}{a:Nat}(h:fre ed left a=true):left[a]?=some true:=by
 unfold fre at h
 simp only [Bool.and_eq_true] at h
 exact getD_true h.1
theorem fre_iff {ed:Nat→Nat→Bool}{left:List Bool}{a:Nat} : fre ed left a=true↔left[a]?=some true∧∀ b,left[b]?=some true→ed b a=false:=by
 unfold fre
 simp only [Bool.and_eq_true,List.all_eq_true,List.mem_range,Bool.or_eq_true,Bool.not_eq_true']
 constructor
 · rintro ⟨h1,h2⟩
   refine ⟨getD_true h1,fun b hb=>?_⟩
   rcases h2 b (List.getElem?_eq_some_iff.1 hb).1 with h | h
   · rw [getD_at hb] at h;cases h
   · exact h
 · rintro ⟨h1,h2⟩
   refine ⟨by rw [getD_at h1],fun b hb=>?_⟩
   cases hv:left[b]? with
   | none=>rw [List.getElem?_eq_none_iff] at hv;omega
   | some v=>
    rw [getD_at hv]
    cases v with
    | false=>exact .inl rfl
    | true=>exact .inr (h2 b hv)
inductive Run (ed:Nat→Nat→Bool) (left0:List Bool):List Nat→List Bool→Prop
  | nil:Run ed left0 [] left0
  | snoc {out:List Nat}{left:List Bool}{a:Nat} : Run ed left0 out left→nxt ed left=some a→Run ed left0 (out++[a]) (left.set a false)
theorem nxt_left {ed:Nat→Nat→Bool}{left:List Bool}{a:Nat}(h:nxt ed left=some a):left[a]?=some true:=fre_left (List.find?_some h)
theorem gr_none {ed:Nat→Nat→Bool}{left:List Bool}(h:nxt ed left=none):∀ f,gr ed f left=[]
 | 0=>rfl
 | f+1=>by unfold gr;rw [h]
theorem Run.len {ed:Nat→Nat→Bool}{left0 left:List Bool}{out:List Nat}(h:Run ed left0 out left):left.length=left0.length∧out.length+trues left=trues left0:=by
 induction h with
 | nil=>simp
 | snoc h hn ih=>rw [List.length_set,List.length_append];have:=trues_set (nxt_left hn);simp;omega
theorem Run.gr {ed:Nat→Nat→Bool}{left0 left:List Bool}{out:List Nat}(h:Run ed left0 out left):gr ed (trues left0) left0=out++gr ed (trues left) left:=by
 induction h with
 | nil=>rfl
 | @snoc out left a h hn ih=>
  have h1:=trues_set (nxt_left hn)
  rw [ih,List.append_assoc,← h1]
  congr 1
  simp only [Go.Proofs.YtafiabekcekdbaaGreatG.gr,hn]
  rfl
theorem Run.done {ed:Nat→Nat→Bool}{left0 left:List Bool}{out:List Nat}(h:Run ed left0 out left) (hn:nxt ed left=none):out=Go.Proofs.YtafiabekcekdbaaGreatG.gr ed (trues left0) left0:=by
 rw [h.gr,gr_none hn,List.append_nil]
end Go.Proofs.YtafiabekcekdbaaGreatG


/-
  The reference's Order and Back.
-/


/-
  Kahn's order, plainly: how many are ahead of each; who waits.
-/
namespace Go.Proofs.YtafiabekcekdbaaGreatG
set_option maxRecDepth 100000
set_option maxHeartbeats 4000000
open Go.RowKit Go.Proofs.YtafiabekcekdbaaGreatK Go.Proofs.YtafiabekcekdbaaGreatT Go.Proofs.YtafiabekcekdbaaGreatL
open Go.Proofs.YtafiabekcekdbaaGreatQ (lt2)

def edW (w:Graph) (b a:Nat):Bool:=decide ((a:Int) ∈ w.getD b [])
def cnt (w:Graph) (left:List Bool) (c:Nat):Nat:=((List.range w.length).filter fun b=>left.getD b false && edW w b c).length
theorem filt_upd {p:Nat→Bool}{a:Nat} : ∀ {n:Nat},a<n→((List.range n).filter p).length=((List.range n).filter fun b=>p b && b != a).length+if p a then 1 else 0
 | 0,h=>by omega
 | n+1,h=>by
  rw [List.range_succ,List.filter_append,List.filter_append,List.length_append,List.length_append]
  by_cases e:a=n
  · subst e
    have:(List.range a).filter (fun b=>p b && b != a)=(List.range a).filter p:=List.filter_congr (fun b hb=>by have:=List.mem_range.1 hb;simp;intro _;omega)
    rw [this]
    cases hp:p a <;> simp [hp]
  · rw [filt_upd (p:=p) (a:=a) (n:=n) ZO]
    have:(fun b=>p b && b != a) n=p n:=by
     show (p n && n != a)=p n
     rw [show (n != a)=true by simp;omega,Bool.and_true]
    have e2 : [n].filter (fun b=>p b && b != a)=[n].filter p:=by
     rw [List.filter_cons,List.filter_cons]
     rw [show (p n && n != a)=p n from this];rfl
    rw [e2];omega
theorem set_getD {left:List Bool}{a b:Nat} : (left.set a false).getD b false=(left.getD b false && b != a):=by
 rw [List.getD_eq_getElem?_getD,List.getD_eq_getElem?_getD,List.getElem?_set]
 by_cases e:a=b
 · subst e;rw [if_pos rfl];split <;> simp
 · rw [if_neg e,show (b != a)=true by simp;omega,Bool.and_true]
theorem cnt_set {w:Graph}{left:List Bool}(hl:left.length=w.length) {a:Nat}(h:left[a]?=some true) (c:Nat):cnt w left c=cnt w (left.set a false) c+if edW w a c then 1 else 0:=by
 have ha:=(List.getElem?_eq_some_iff.1 h).1
 unfold cnt
 rw [filt_upd (a:=a) ZO]
 rw [getD_at h,Bool.true_and]
 congr 2
 exact List.filter_congr (fun b hb=>by rw [set_getD];cases left.getD b false <;> cases edW w b c <;> simp)
theorem Run.clear {ed:Nat→Nat→Bool}{left0 left:List Bool}{out:List Nat}(h:Run ed left0 out left):∀ c:Nat,left0[c]?=some true→left[c]?=some true∨∀ b:Nat,left[b]?=some true→ed b c=false:=by
 induction h with
 | nil=>exact fun c hc=>.inl hc
 | @snoc out left a h hn ih=>
  have hfa:=fre_iff.1 (List.find?_some hn)
  have hsub:∀ b:Nat,(left.set a false)[b]?=some true→left[b]?=some true:=by
   intro b hb
   rw [List.getElem?_set] at hb
   split at hb
   · split at hb <;> cases hb
   · exact hb
  intro c hc
  by_cases e:c=a
  · subst e;exact .inr (fun b hb=>hfa.2 b (hsub b hb))
  · rcases ih c hc with h1 | h1
    · left;rw [List.getElem?_set,if_neg (fun x=>e x.symm)];exact h1
    · exact .inr (fun b hb=>h1 b (hsub b hb))
end Go.Proofs.YtafiabekcekdbaaGreatG


/-
  Package cycle: order's closures, drain.
-/


/-
  Package cycle: drain, order.
-/


/-
  Package cycle: order.
-/


/-
  Package cycle: Order, Back; the reference's Back.
-/
namespace Go.Proofs.YtafiabekcekdbaaGreatO
set_option maxRecDepth 100000
set_option maxHeartbeats 4000000
open Go.RowKit Go.Proofs.YtafiabekcekdbaaGreatK Go.Proofs.YtafiabekcekdbaaGreatT Go.Proofs.YtafiabekcekdbaaGreatL Go.Proofs.YtafiabekcekdbaaGreatV Go.Proofs.YtafiabekcekdbaaGreatG Go.Proofs.YtafiabekcekdbaaGreatW

theorem rng_In {B:Base}{w:World}(hS:St B [] w) (f:ApiFunc) (fc:List Value) (hf:kApiFunc.K B.e f fc) (i:Int) :
 CW 103 #[.agg fc.toArray,.int .i64 i] w (Ret B (fun _:Unit=>True) (fun _=>.bool (inR f i)) (fun _=>[])):=by
 obtain ⟨A0,c0,A1,c1,A2,c2,A3,c3,rfl,l0,g0,l1,g1,l2,g2,l3,g3⟩:=kApiFunc_open hf
 refine ZX Tryz.func103 hS ?_
 refine Zh (Zi (oBox J ZP (fun b2=>?_)))
 refine Zp J (Zn (Za (Zh (Zi (Zz (n:=4) (m:=4) J J J (Zld ?_))))))
 refine Zo J (oLeq J J (Zo J (ZS (ZT 9) (fun h9=>?_) (fun h9=>?_))))
 refine Zq J J (Zo J (Zq J J (Zz (n:=5) (m:=5) J J J (Zzh ?_))))
 refine Zq J J (Zx J J (Zt J J (Zza ?_)))
 exact ⟨(),trivial,by simp_all [resVal,inR] <;> omega,Lh⟩
 refine Zr J J J J (Zzp ?_)
 exact ⟨(),trivial,by simp_all [resVal,inR] <;> omega,Lh⟩
theorem rng_Marks {B:Base}{w:World}(hS:St B [] w) (A:Option Addr) (cp:Nat) (code:List ApiInstr) (hC:kApiInstr.C B.e A code) (hl:code.length≤100000) (W0:World) :
 CW 144 #[.slice A code.length cp] w (Ret B (fun _:Option Addr×Nat=>True) (fun z=>.slice z.1 (dfr code code.length).length z.2) (fun z=>[row (Kd.int .i64) W0 3 (.slice z.1 (dfr code code.length).length z.2) (dfr code code.length)])):=by
 refine ZX Tryz.func144 hS ?_
 refine Zh (Zi (Zp J (Zn (Za (Zh (Zi (Zp J (Zn (Za (Zh (Zh (Zi (Zo J (Zv J J (Zo J (Zn (Za (Zk (wLoop (ι:=Nat×Option Addr×Nat) (fun z=>[(3,.slice z.2.1 (dfr code z.1).length z.2.2),(6,.slice A code.length cp),(7,.int .i64 (code.length:Int)),(8,.int .i64 (z.1:Int))]) (fun z=>[row (Kd.int .i64) W0 3 (.slice z.2.1 (dfr code z.1).length z.2.2) (dfr code z.1)]) (fun z=>z.1≤code.length) (fun z=>code.length-z.1) (0,none,0) ?_ cv (Leads.nilrow.trans Lh) ?_)))))))))))))))))))
 exact Nat.zero_le _
 rintro ⟨i,A2,c2⟩ hi
 dsimp only at hi
 have hle:=dfr_len code i
 try dsimp only
 refine Zh (Zi (Zx J J (Zn (Za (Zh (wC (fun h9=>?_) (fun h9=>?_)))))))
 obtain ⟨x,hx⟩:∃ x,code[i]?=some x:=⟨_,List.getElem?_eq_getElem ZO⟩
 obtain ⟨e1,cs1,hE⟩:=hC.elm hx
 obtain rfl:=kApiInstr_open hE.K
 have hdp:=dP_at hx
 refine Zj (Za (Zh (Zk (Zh (Zi (Zo J (oIdxE J J (hE) ZO J J ?_)))))))
 have hc11:=(hE).cell
 refine Zlx hc11 ?_
 refine oAlloc J ZP (fun b5=>?_)
 refine Zp J (Zsa ?_)
 refine Zn (Za (Zh (Zi (Zz (n:=0) (m:=0) J J J (Zld ?_)))))
 refine Zy J J (Zn (Za (wC (fun h15=>?_) (fun h15=>?_))))
 refine Zi (Zo J (Zo J (oBuildSlice1 J J J J J ZP J (fun b18=>?_))))
 refine oApp1 (i:Int) J J J J ZP ZP J ZO J (fun g19 cp19=>?_)
 have hft:dfr code (i+1)=dfr code i++[(i:Int)]:=by rw [dfr_succ,hdp,if_pos (by simpa using h15)]
 rw [show (dfr code i).length+1=(dfr code (i+1)).length by rw [hft,List.length_append];rfl,← hft]
 refine Zp J (Zn (Zzl ?_))
 refine Zo J (Zn (Za ?_))
 exact ⟨rfl,(i+1,some ⟨g19,0,none⟩,cp19),by show i+1≤_;omega,by show code.length-(i+1)<code.length-i;omega,cv,Lh⟩
 refine Zj (Zzl ?_)
 refine Zo J (Zn (Za ?_))
 have hft:dfr code (i+1)=dfr code i:=by rw [dfr_succ,hdp,if_neg (by simpa using h15),List.append_nil]
 exact ⟨rfl,(i+1,A2,c2),by show i+1≤_;omega,by show code.length-(i+1)<code.length-i;omega,by dsimp only;rw [hft];exact cv,by dsimp only;rw [hft];exact Lh⟩
 obtain rfl:i=code.length:=by omega
 refine Zm (Zb (Zb (Ze (Za (Zh (Zi (Zo J (Zza ?_))))))))
 exact ⟨(A2,c2),trivial,rfl,Lh⟩
theorem compact_le (zs:List Int):(Lib.compact zs).length≤zs.length:=by
 unfold Lib.compact Lib.compactUpTo
 rw [List.length_map]
 exact Nat.le_trans (List.length_filter_le _ _) (by simp)
theorem nextF_len (code:List ApiInstr) (i:Int):(nextF code i).length≤2:=by
 unfold nextF nextL
 split
 · simp
 · refine Nat.le_trans (compact_le _) ?_
   rw [List.length_mergeSort]
   exact nextR_len _ _
theorem mem_next {x:ApiInstr}{i y:Int} : y ∈ nextL x i↔y ∈ Go.Proofs.YtafiabekcekdbaaGreatV.rnext x i:=by
 have h:=rnext_any x i (fun z=>decide (z=y))
 have e:∀ l:List Int,y ∈ l↔l.any (fun z=>decide (z=y))=true:=fun l=>by simp
 rw [show (y ∈ nextL x i)=(y ∈ nextR x i) from propext ((sorted_spec _).2 y),e,e,h]
theorem nextF_at {code:List ApiInstr}{k:Nat}(hk:k<code.length):nextF code (k:Int)=nextL (code.getD k default) (k:Int):=by
 unfold nextF
 rw [if_neg ZO,Int.toNat_natCast]
def fromP (code:List ApiInstr) (ks:List Nat):List Int:=(ks.map fun k:Nat=>nextF code (k:Int)).flatten
theorem fromP_len (code:List ApiInstr):∀ marks:List Nat,(fromP code marks).length≤2 * marks.length
 | []=>by simp [fromP]
 | k :: marks=>by
  have h:=fromP_len code marks
  have h2:=nextF_len code (k:Int)
  unfold fromP at *
  rw [List.map_cons,List.flatten_cons,List.length_append,List.length_cons]
  omega
theorem fromP_snoc (code:List ApiInstr) (marks:List Nat) (k:Nat):fromP code (marks++[k])=fromP code marks++nextF code (k:Int):=by
 unfold fromP;simp
theorem mem_fromP {code:List ApiInstr}{ks:List Nat}(hk:∀ k ∈ ks,k<code.length) {y:Int} : y ∈ fromP code ks↔y ∈ fromL code ks:=by
 unfold fromP fromL
 simp only [List.mem_flatten,List.mem_map]
 constructor
 · rintro ⟨l,⟨k,h1,rfl⟩,h2⟩
   rw [nextF_at (hk k h1)] at h2
   exact ⟨_,⟨k,h1,rfl⟩,mem_next.1 h2⟩
 · rintro ⟨l,⟨k,h1,rfl⟩,h2⟩
   exact ⟨_,⟨k,h1,rfl⟩,by rw [nextF_at (hk k h1)];exact mem_next.2 h2⟩
theorem graph_ends {code:List ApiInstr}{a:Nat}{b:Int} : b ∈ endsOf (graphF code) a↔b ∈ endsOf (rg code) a:=by
 unfold endsOf
 rw [List.mem_filter,List.mem_filter,show inG (graphF code) b=inG (rg code) b by unfold inG;rw [graphF_len,rg_len]]
 by_cases ha:a<code.length
 · rw [show (graphF code).getD a [] = nextF code (a : Int) by unfold graphF; rw [List.getD_eq_getElem?_getD, List.getElem?_map, List.getElem?_range ha]; rfl,
    show (rg code).getD a []=Go.Proofs.YtafiabekcekdbaaGreatV.rnext (code.getD a default) (a:Int) by unfold rg;rw [List.getD_eq_getElem?_getD,List.getElem?_map,List.getElem?_range ha];rfl,nextF_at ha,mem_next]
 · rw [List.getD_eq_getElem?_getD,List.getD_eq_getElem?_getD,List.getElem?_eq_none (by rw [graphF_len];omega),List.getElem?_eq_none (by rw [rg_len];omega)]
theorem RP_same {code:List ApiInstr}{ks:List Nat}(hk:∀ k ∈ ks,k<code.length) {y:Int} : RP (graphF code) (fromP code ks) y↔RP (rg code) (fromL code ks) y:=
 ⟨RP_congr (by rw [graphF_len,rg_len]) (fun a b=>graph_ends.1) (fun x _=>(mem_fromP hk).1),RP_congr (by rw [graphF_len,rg_len]) (fun a b=>graph_ends.2) (fun x _=>(mem_fromP hk).2)⟩
theorem gf_small {code:List ApiInstr}(h:code.length≤1000):SmallG (graphF code):=by
 refine ⟨by rw [graphF_len];exact h,fun l hl=>?_⟩
 unfold graphF at hl
 obtain ⟨k,_,rfl⟩:=List.mem_map.1 hl
 exact Nat.le_trans (nextF_len _ _) (by decide)
theorem flow_After {B:Base}{w:World}(hS:St B [] w) (A:Option Addr) (cp:Nat) (code:List ApiInstr) (hC:kApiInstr.C B.e A code) (hl:code.length≤1000) (A1:Option Addr) (cp1:Nat) (ks:List Nat) (hC1:(Kd.int .i64).C B.e A1 (ks.map fun k=>((k:Nat):Int))) (hk:∀ k ∈ ks,k<code.length) (hn:ks.length≤500) (W0:World) :
 CW 143 #[.slice A code.length cp,.slice A1 ks.length cp1] w
  (Ret B (fun z:Option Addr×Nat×List Bool=>z.2.2.length=code.length∧∀ i:Nat,z.2.2[i]?=some true↔RP (rg code) (fromL code ks) (i:Int)) (fun z=>.slice z.1 code.length z.2.1) (fun z=>[row Kd.bool W0 4 (.slice z.1 code.length z.2.1) z.2.2])):=by
 refine ZX Tryz.func143 hS ?_
 refine Zh (Zi (Zp J (Zn (Za (Zh (Zi (Zp J (Zn (Za (Zh (Zh (Zi (Zo J (Zv J J (Zo J (Zn (Za (Zk (wLoop (ι:=Nat×Option Addr×Nat) (fun z=>[(0,.slice A code.length cp),(5,.slice z.2.1 (fromP code (ks.take z.1)).length z.2.2),(8,.slice A1 ks.length cp1),(9,.int .i64 (ks.length:Int)),(10,.int .i64 (z.1:Int))]) (fun z=>[row (Kd.int .i64) W0 3 (.slice z.2.1 (fromP code (ks.take z.1)).length z.2.2) (fromP code (ks.take z.1))]) (fun z=>z.1≤ks.length) (fun z=>ks.length-z.1) (0,none,0) ?_ cv (Leads.nilrow.trans Lh) ?_)))))))))))))))))))
 exact Nat.zero_le _
 rintro ⟨i,A2,c2⟩ hi
 dsimp only at hi
 have hle:=fromP_len code (ks.take i)
 rw [List.length_take] at hle
 try dsimp only
 refine Zh (Zi (Zx J J (Zn (Za (Zh (wC (fun h11=>?_) (fun h11=>?_)))))))
 obtain ⟨k,hki⟩:∃ k,ks[i]?=some k:=⟨_,List.getElem?_eq_getElem ZO⟩
 have hkl:=hk k (List.mem_of_getElem? hki)
 obtain ⟨e1,cs1,hE⟩:=hC1.elm (i:=i) (u:=(k:Int)) (by rw [List.getElem?_map,hki];rfl)
 obtain rfl:=(show cs1=[Value.int .i64 (k:Int)] from hE.K)
 have hft:fromP code (ks.take (i+1))=fromP code (ks.take i)++nextF code (k:Int):=by rw [List.take_add_one,hki];show fromP code (ks.take i++[k])=_;rw [fromP_snoc]
 have hrl:=nextF_len code (k:Int)
 refine Zj (Za (Zh (Zk (Zh (Zi (oIdxE J J (hE) ZO J J ?_))))))
 have hc12:=(hE).cell
 refine Zlx hc12 ?_
 refine Zp J (Zn (Za (Zi (Zo J (Zo J (Zo J ?_))))))
 (refine ZC0 rfl ZK (fun w hS=>frame hS ZQ (fun B' hB hS'=>flow_Next hS' A cp code (Kd.C_grow hB hC) (k:Int) W0)) ?_;rintro ⟨A17,c17⟩ -)
 refine oAppA (kd:=Kd.int .i64) (W:=W0) (xs:=fromP code (ks.take i)) (ys:=nextF code (k:Int)) J J J J ZP J (fun w hw=>src_row (e:=3) (n:=(nextF code (k:Int)).length) (cp:=c17) (hw.get ZP)) ZO J (fun A18 c18 hc18=>?_)
 rw [← hft,show (fromP code (ks.take i)).length+(nextF code (k:Int)).length=(fromP code (ks.take (i+1))).length by rw [hft,List.length_append]]
 refine Zp J (Zn (Zzl ?_))
 refine Zo J (Zn (Za ?_))
 exact ⟨rfl,(i+1,A18,c18),by show i+1≤_;omega,by show ks.length-(i+1)<ks.length-i;omega,cv,Lh⟩
 obtain rfl:i=ks.length:=by omega
 rw [List.take_length] at *
 refine Zm (Zb (Zb (Ze (Zzn ?_))))
 (refine ZC0 rfl ZK (fun w hS=>frame hS ZQ (fun B' hB hS'=>flow_graph hS' A cp code (Kd.C_grow hB hC) ZO B.e)) ?_;rintro ⟨A21,c21,hs21⟩ hl21)
 refine ZS0 (t:=21) (v':=.slice A21 (graphF code).length c21) rfl (by rw [graphF_len]) ?_
 refine Zo J ?_
 (refine ZD J (fun w B' hB hR hS'=>reach_any hS' (graphF code) A21 c21 (grid_C (hR _ _ ZP) (hR _ _ ZP) (by rw [graphF_len];exact hl21) hB) (gf_small hl) (fromP code ks) A2 c2 (row_Cs (W:=W0) (e:=3) (n:=(fromP code ks).length) (cp:=c2) (hR _ _ ZP)) ZO W0) ?_;rintro ⟨A23,c23,l23⟩ ⟨h23a,h23b⟩)
 dsimp only at h23a h23b ⊢
 rw [graphF_len] at h23a ⊢
 refine Zp J (Zzj ?_)
 exact ⟨(A23,c23,l23),⟨h23a,fun i=>(h23b i).trans (RP_same hk)⟩,rfl,Lh⟩
open Classical in
noncomputable def pP (code:List ApiInstr) (k:Nat):Bool:=decide (RP (rg code) (fromL code (dfrN code)) (k:Int))
open Classical in
theorem pP_iff {code:List ApiInstr}{k:Nat} : pP code k=true↔RP (rg code) (fromL code (dfrN code)) (k:Int):=by unfold pP;exact decide_eq_true_iff
theorem pP_no {code:List ApiInstr}{k:Nat}(h:¬ RP (rg code) (fromL code (dfrN code)) (k:Int)):pP code k=false:=Bool.eq_false_iff.2 (fun e=>h (pP_iff.1 e))
noncomputable def pFrom (code:List ApiInstr) (i:Nat):List Int:=(((List.range code.length).drop i).filter (pP code)).map fun k:Nat=>(k:Int)
theorem pn_T {code:List ApiInstr}{i:Nat}(hi:i<code.length) (h:pP code i=true):pFrom code i=(i:Int) :: pFrom code (i+1):=by
 unfold pFrom
 rw [List.drop_eq_getElem_cons (by simpa using hi),List.getElem_range,List.filter_cons,if_pos h,List.map_cons]
theorem pn_F {code:List ApiInstr}{i:Nat}(hi:i<code.length) (h:pP code i=false):pFrom code i=pFrom code (i+1):=by
 unfold pFrom
 rw [List.drop_eq_getElem_cons (by simpa using hi),List.getElem_range,List.filter_cons,if_neg (by rw [h];simp)]
theorem pn_end (code:List ApiInstr):pFrom code code.length=[]:=by unfold pFrom;rw [List.drop_of_length_le (by simp)];rfl
theorem mem_pn {code:List ApiInstr}{x:Int} : x ∈ pFrom code 0↔∃ k:Nat,x=(k:Int)∧k<code.length∧RP (rg code) (fromL code (dfrN code)) (k:Int):=by
 unfold pFrom
 rw [List.drop_zero]
 simp only [List.mem_map,List.mem_filter,List.mem_range]
 constructor
 · rintro ⟨k,⟨h1,h2⟩,rfl⟩;exact ⟨k,rfl,h1,pP_iff.1 h2⟩
 · rintro ⟨k,rfl,h1,h2⟩;exact ⟨k,⟨h1,pP_iff.2 h2⟩,rfl⟩
theorem pending_any {B:Base}{w:World}(hS:St B [] w) (A:Option Addr) (n cp:Nat) :
 CW 102 #[.slice A n cp] w (Ret B (fun _:Nat=>True) (fun b=>.func (.func 142) #[] #[.pointer (some ⟨b,0,none⟩)]) (fun b=>[blk b 54 [.slice A n cp]])):=by
 refine ZX Tryz.func102 hS ?_
 refine Zh (Zi (oBox J ZP (fun b1=>?_)))
 refine Zp J (Zn (Za (Zh (Zi (oMakeFunc J (Zza ?_))))))
 exact ⟨b1,trivial,rfl,Lh⟩
theorem pending1 {B:Base}(A:Option Addr) (cp:Nat) (code:List ApiInstr) (hC:kApiInstr.C B.e A code) (hl0:code.length≤500) (x1:Nat) :
 IterC Tryz.prog 142 #[.pointer (some ⟨x1,0,none⟩)] B ((pFrom code 0).map intV) [blk x1 54 [.slice A code.length cp]]:=by
 have hdl:(dfrN code).length≤500:=Nat.le_trans (List.length_filter_le _ _) (by simpa using hl0)
 intro lp AI Ax r0 w hbody hA hS
 show CW 142 #[.func (.yield lp) #[] #[],.pointer (some ⟨x1,0,none⟩)] w _
 refine ZX Tryz.func142 hS ?_
 refine Zh (wDrawG J [0,1,5] [(2,[0,5],[]),(3,[5],[4])] [] 24 ZK J J (fun w0=>?_))
 refine Zld ?_
 refine Zld ?_
 refine Zo J (Z4 (Z5 J ?_))
 (refine ZC0 rfl ZK (fun w hS=>frame hS ZQ (fun B' hB hS'=>rng_Marks hS' A cp code (Kd.C_grow hB hC) ZO B.e)) ?_;rintro ⟨A7,c7⟩ -)
 refine ZS0 (t:=7) (v':=.slice A7 (dfrN code).length c7) rfl (by rw [dfr_N,List.length_map]) ?_
 refine ZG ?_ J (fun w0=>?_)
 refine Z8 J J J J (fun w0=>?_) ?_
 refine Zld ?_
 exact Z9 rfl
 refine Z8 J J J J (fun w0=>?_) ?_
 refine Zo J ?_
 exact Z9 rfl
 exact AgainG.nil
 refine Z4 (Z5 J ?_)
 (refine ZD J (fun w B' hB hR hS'=>flow_After hS' A cp code (Kd.C_grow hB hC) ZO A7 c7 (dfrN code) (row_Cs (W:=B.e) (e:=3) (n:=(dfr code code.length).length) (cp:=c7) (hR _ _ ZP)) (fun k hk=>dfrN_lt hk) hdl B.e) ?_;rintro ⟨A8,c8,l8⟩ ⟨h8a,h8b⟩)
 dsimp only at h8a h8b
 refine ZG ?_ J (fun w0=>?_)
 refine Z8 J J J J (fun w0=>?_) ?_
 refine Zo J ?_
 exact Z9 rfl
 exact AgainG.nil
 refine Zv J J (Z6 (Zn (Za (Zk (wLoop (ι:=Nat×Nat×Res) (fun z=>[(0,.func (.yield lp) #[] #[]),(1,.pointer (some ⟨x1,0,none⟩)),(8,.slice A8 code.length c8),(9,.int .i64 (code.length:Int)),(10,.int .i64 (z.1:Int))]) (fun z=>[z.2.2,blk x1 54 [.slice A code.length cp],row Kd.bool B.e 4 (.slice A8 code.length c8) l8]) (fun z=>z.1≤code.length∧z.2.1≤(pFrom code 0).length∧AI z.2.1 z.2.2∧(pFrom code 0).drop z.2.1=pFrom code z.1) (fun z=>code.length-z.1) (0,0,r0) ?_ cv (Leads.has ZQ) ?_)))))
 exact ⟨Nat.zero_le _,Nat.zero_le _,hA,rfl⟩
 rintro ⟨i,j,r⟩ ⟨hi,hj,hA,hd⟩
 dsimp only at hi hj hA hd
 try dsimp only
 refine Zh (Zi (Zx J J (Zn (Za (Zh (wC (fun h11=>?_) (fun h11=>?_)))))))
 have hil:i<code.length:=by omega
 refine Zj (Za (Zh (Zk (Zh (Zi (Zo J (ZR J J ZP ZO J J (fun g13 hg13=>?_))))))))
 first | subst hg13 | (injection hg13 with hg13;injection hg13 with hg13;subst hg13)
 refine ZR1 J ZP ZO J (fun u14 hu14=>?_)
 refine Zp J (Zp J (Zn (Za (Zh (Zi (Zo J (Zo J (ZS (ZT 16) (fun h16=>?_) (fun h16=>?_)))))))))
 have hct:pP code i=true:=pP_iff.2 ((h8b i).1 (by rw [hu14];simp_all))
 rw [pn_T hil hct] at hd
 obtain ⟨hjlt,hjg,hjd⟩:=drop_cons hd
 have hY:∀ Fr W1,St B (r :: Fr) W1→YieldAt Fence.wide 0 Tryz.prog lp (intV (i:Int)).toArray W1 (YEnd B j AI Ax Fr):=by
  intro Fr W1 h1
  have:=hbody j (by simpa using hjlt) r Fr W1 hA h1
  rwa [List.getElem_map,hjg] at this
 refine Zq J J (Zo J (Zq J J (Zo J (Zq J J (oYield J J J (fun w hS=>hY _ w (hS.perm (Pick.perm ZP))) ?_)))))
 rintro ⟨bb,r'⟩ hr'
 dsimp only at hr' ⊢
 refine Zq J J (Zno ?_)
 refine Zt J J (Zn (Za (wC (fun h21=>?_) (fun h21=>?_))))
 refine Zl (Zf (Zc (Zc (Zf (Zw ?_)))))
 refine ⟨rfl,_,ResL.nil,?_⟩
 exact ⟨r',.inr ⟨j,by simpa using hjlt,by rw [if_neg (by simpa using h21)] at hr';exact hr'⟩,rfl,Lh⟩
 refine Zj (Zzl ?_)
 refine Zo J (Zn (Za ?_))
 exact ⟨rfl,(i+1,j+1,r'),⟨by show i+1≤_;omega,hjlt,by rw [if_pos (by simpa using h21)] at hr';exact hr',hjd⟩,by show code.length-(i+1)<code.length-i;omega,cv,Lh⟩
 refine Zr J J J J (Zr J J J J (Zr J J J J (Zr J J J J (Zu J J (Zn (Za (wCondF J (Zj (Zzl ?_)))))))))
 refine Zo J (Zn (Za ?_))
 exact ⟨rfl,(i+1,j,r),⟨by show i+1≤_;omega,hj,hA,by rw [hd,pn_F hil (pP_no (fun hr=>by have:=(h8b i).2 hr;rw [hu14] at this;simp_all))]⟩,by show code.length-(i+1)<code.length-i;omega,cv,Lh⟩
 refine Zm (Zb (Zb (Ze (fin_n ?_))))
 refine ⟨rfl,_,ResL.nil,?_⟩
 have hjj:j=((pFrom code 0).map intV).length:=by
  obtain rfl:i=code.length:=by omega
  rw [pn_end] at hd
  have:=List.drop_eq_nil_iff.1 hd
  rw [List.length_map];omega
 exact ⟨r,.inl (hjj ▸ hA),rfl,Lh⟩
theorem rng_Check {B:Base}{w:World}(hS:St B [] w) (f:ApiFunc) (fc:List Value) (hf:kApiFunc.K B.e f fc) (hl0:f.fCode.length≤500) :
 CW 69 #[.agg fc.toArray] w (Ret B (fun _:Unit=>True) (fun _=>.int .i64 (rangeF f)) (fun _=>[])):=by
 obtain ⟨A0,c0,A1,c1,A2,c2,A3,c3,rfl,l0,g0,l1,g1,l2,g2,l3,g3⟩:=kApiFunc_open hf
 (refine enterM Tryz.func69 J J hS ?_;simp only [List.zipIdx_cons,List.zipIdx_nil,List.map_cons,List.map_nil,Nat.reduceAdd,Nat.zero_add])
 refine Zh (Zi (oBox J ZP (fun b1=>?_)))
 refine oAlloc J ZP (fun b2=>?_)
 refine Zn (Za (Zh (Zh (Zi (Zz (n:=7) (m:=7) J J J (Zld ?_))))))
 (refine ZC0 rfl ZK (fun w hS=>frame hS ZQ (fun B' hB hS'=>pending_any hS' A2 f.fCode.length c2)) ?_;rintro x1 -)
 refine Zn (Za (Zk ?_))
 refine wRange rfl rfl ZK (pending1 A2 c2 f.fCode g2 hl0 x1) (by rintro _ h;obtain ⟨y,_,rfl⟩:=List.mem_map.1 h;rfl) rfl (ι:=Nat) (κ:=Unit) (fun j z=>z=j∧∀ y ∈ (pFrom f.fCode 0).take z,inR f y=true) (fun z=>[blk b1 57 [.int .i64 f.fClass,.slice A0 f.fKinds.length c0,.int .i64 f.fPad,.bool f.fNosplit,.int .i64 f.fFrom,.int .i64 f.fTo,.slice A1 f.fLines.length c1,.slice A2 f.fCode.length c2,.slice A3 f.fRelocs.length c3],blk b2 29 [.int .i64 0]]) (fun x z=>x=.ret∧outR f) (fun x z=>[blk b1 57 [.int .i64 f.fClass,.slice A0 f.fKinds.length c0,.int .i64 f.fPad,.bool f.fNosplit,.int .i64 f.fFrom,.int .i64 f.fTo,.slice A1 f.fLines.length c1,.slice A2 f.fCode.length c2,.slice A3 f.fRelocs.length c3],blk b2 29 [.int .i64 9]]) 0 ⟨rfl,by simp⟩ (Leads.has ZQ) ?_ ?_ ?_
 intro lp0 B' R1 R2 j hj
 rintro i hB ⟨rfl,hn⟩
 have hf:=kApiFunc.K_grow hB hf
 have hj':i<(pFrom f.fCode 0).length:=by simpa using hj
 have htk:(pFrom f.fCode 0).take (i+1)=(pFrom f.fCode 0).take i++[(pFrom f.fCode 0)[i]]:=List.take_succ_eq_append_getElem hj'
 have hym:(pFrom f.fCode 0)[i] ∈ pFrom f.fCode 0:=List.getElem_mem hj'
 rw [List.getElem_map]
 generalize (pFrom f.fCode 0)[i]=y at *
 dsimp only [hand,intV]
 refine Zi (Zp J (Zn (aq_n ZP ?_)))
 refine Zk (Zzq ?_)
 refine Zo J ?_
 (refine ZC0 rfl ZK (fun w hS=>frame hS ZQ (fun B' hB hS'=>rng_In hS' f _ (kApiFunc.K_grow hB hf) y)) ?_;rintro ⟨⟩ -)
 refine Zno ?_
 refine Zn (Za (wC (fun h11=>?_) (fun h11=>?_)))
 refine Zh (Zi (Zst ?_))
 refine Zn (Za (Zl (Zf (rq_r ?_))))
 exact ⟨(),⟨rfl,by obtain ⟨k,rfl,h1,h2⟩:=mem_pn.1 hym;exact ⟨k,h1,h2,by simp_all⟩⟩,Lh⟩
 refine Zj (Zd (rq_n ?_))
 exact ⟨i+1,⟨rfl,by rw [htk];intro u hu;rcases List.mem_append.1 hu with h | h;exact hn u h;rw [List.mem_singleton.1 h];simp_all⟩,Lh⟩
 rintro i Dm0 ⟨rfl,hn⟩
 rw [List.length_map,List.take_length] at hn
 have ho:¬ outR f:=fun ⟨k,hk,hr,hb⟩=>by rw [hn _ (mem_pn.2 ⟨k,rfl,hk,hr⟩)] at hb;cases hb
 try dsimp only
 refine Zd (Za (Zh (Zi (Zst ?_))))
 refine Zn (Za (Zl ?_))
 refine finM_r (Ds:=[Dm0]) rfl ZQ (ResL.cons (by first | exact ResR.cell rfl ZP rfl | exact ResR.agg rfl ZP rfl rfl) ResL.nil) ?_
 first | exact ⟨(),trivial,by unfold rangeF;rw [if_neg ho];rfl,Lh⟩ | exact ⟨(),trivial,by unfold rangeF;rw [if_pos ho];rfl,Lh⟩
 rintro x ⟨⟩ Dm0 ⟨rfl,ho⟩
 try dsimp only
 refine Zl (Zf (Zc ?_))
 refine finM_r (Ds:=[Dm0]) rfl ZQ (ResL.cons (by first | exact ResR.cell rfl ZP rfl | exact ResR.agg rfl ZP rfl rfl) ResL.nil) ?_
 first | exact ⟨(),trivial,by unfold rangeF;rw [if_neg ho];rfl,Lh⟩ | exact ⟨(),trivial,by unfold rangeF;rw [if_pos ho];rfl,Lh⟩
theorem fst2 (a y:Int):fstE [a,y]=if a≠0 then a else y:=by
 have h:=fst_drop (l:=[a,y]) (i:=0) rfl
 have h2:=fst_drop (l:=[a,y]) (i:=1) rfl
 rw [List.drop_zero] at h
 rw [h,h2]
 by_cases h3:y=0
 · subst h3;simp [fstE]
 · rw [if_pos h3]
theorem fstW (b:Bool) (y:Int):fstE [whenF b 14,y]=if b=true then 14 else y:=by
 rw [fst2]
 unfold whenF
 cases b <;> simp
theorem obj_item {B:Base}{w:World}(hS:St B [] w) (o:ApiObject) (oc:List Value) (ho:kApiObject.K B.e o oc) (hg:GoodO o) (i:Nat) (hi:i<o.fFuncs.length+o.fDatas.length) :
 CW 32 #[.agg oc.toArray,.int .i64 (i:Int)] w (Ret B (fun _:Unit=>True) (fun _=>.int .i64 (itemE o i)) (fun _=>[])):=by
 obtain ⟨A0,c0,A1,c1,A2,c2,rfl,m0,q0,m1,q1,m2,q2⟩:=kApiObject_open ho
 have hn0:=hg.syms
 have hn1:=hg.funcs
 have hn2:=hg.datas
 refine ZX Tryz.func32 hS ?_
 refine Zh (Zi (oBox J ZP (fun b2=>?_)))
 refine Zp J (Zn (Za (Zzq ?_)))
 refine Zo J ?_
 (refine ZC0 rfl ZK (fun w hS=>frame hS ZQ (fun B' hB hS'=>obj_Definer hS' o _ (kApiObject.K_grow hB ho) hg (i:Int))) ?_;rintro ⟨⟩ -)
 refine Zp J (Zn (Za (Zh (Zh (Zi (Zo J (Zx J J (Zn (Za (wC (fun h15=>?_) (fun h15=>?_)))))))))))
 refine Zh (Zi (Zzd ?_))
 exact ⟨(),trivial,by unfold itemE;rw [if_pos h15];rfl,Lh⟩
 have h15:¬ definerF o (i:Int)<0:=h15
 obtain ⟨k,x,hk,hx,-⟩:=definer_at (show 0≤definerF o (i:Int) by omega)
 have hkl:=(List.getElem?_eq_some_iff.1 hx).1
 obtain ⟨e1,cs1,hE⟩:=q0.elm hx
 obtain rfl:=kApiSymbol_open hE.K
 have hdk:dKind o i=x.fKind:=by unfold dKind;rw [hk,Int.toNat_natCast,List.getD_eq_getElem?_getD,hx];rfl
 refine Zj (Za (Zh (Zh (Zi (Zo J (Zz (n:=1) (m:=1) J J J (Zld ?_)))))))
 refine Zv J J ?_
 first | refine oSub rfl rfl ZO ?_ | refine oSubW rfl rfl ?_
 refine Zp J (Zn (Za (Zh (Zi (Zo J (Z2 J J (Zn (Za (wC (fun h22=>?_) (fun h22=>?_))))))))))
 have hif:o.fFuncs.length≤i:=by omega
 obtain ⟨d,hd⟩:∃ d,o.fDatas[i-o.fFuncs.length]?=some d:=⟨_,List.getElem?_eq_getElem ZO⟩
 obtain ⟨e2,cs2,hE2⟩:=q2.elm hd
 obtain ⟨D0,d0,D1,d1,rfl,n0,r0,n1,r1⟩:=kApiData_open hE2.K
 have hgd:=hg.data d (List.mem_of_getElem? hd)
 have hvd:=hg.v.2.2.2 d (List.mem_of_getElem? hd)
 have hdg:o.fDatas.getD (i-o.fFuncs.length) default=d:=by rw [List.getD_eq_getElem?_getD,hd];rfl
 refine Zh (Zi (Zz (n:=2) (m:=2) J J J (Zld ?_)))
 refine Zo J ?_
 refine ZS0 (t:=25) (v':=.int .i64 ((i-o.fFuncs.length:Nat):Int)) J (by congr 1;omega) ?_
 refine oIdxE J J (hE2) ZO J J ?_
 have hc26:=(hE2).cell
 refine Zlx hc26 ?_
 refine oAlloc J ZP (fun b7=>?_)
 refine Zsa ?_
 refine Zn (Za (Zh (wDrawG J [0,1,2,3,4,5,6,7,8,10,11,12] [(9,[10,11,12],[]),(13,[],[]),(14,[],[]),(15,[],[])] [16] 24 ZK J J (fun w0=>?_))))
 refine Zz (n:=0) (m:=0) J J J (Zld ?_)
 refine Zz (n:=0) (m:=0) J J J (Zld ?_)
 refine Zo rfl (ZS0 (t:=32) (v':=.int .i64 (k:Int)) rfl (by rw [hk]) ?_)
 refine oIdxE J J (hE) ZO J J ?_
 have hc33:=(hE).cell
 refine ZF (ZT 3) (ZT 3) ?_
 refine Zlx hc33 ?_
 refine Z0 J J (Zla ?_)
 refine Zz (n:=0) (m:=0) J J J (Zld ?_)
 refine Z4 (Z5 J ?_)
 (refine ZC0 rfl ZK (fun w hS=>frame hS ZQ (fun B' hB hS'=>obj_when hS' (decide (d.fKind≠x.fKind)) 14)) ?_;rintro ⟨⟩ -)
 refine ZG ?_ J (fun w0=>?_)
 refine Z8 J J J J (fun w0=>?_) ?_
 refine Zla ?_
 exact Z9 rfl
 refine Z8 J J J J (fun w0=>?_) ?_
 refine Zz (n:=0) (m:=0) J J J ?_
 exact Z9 rfl
 refine Z8 J J J J (fun w0=>?_) ?_
 refine Zld ?_
 exact Z9 rfl
 exact AgainG.nil
 refine Z4 (Z5 J ?_)
 (refine ZC0 rfl ZK (fun w hS=>frame hS ZQ (fun B' hB hS'=>data_Check hS' d _ (kApiData_mk _ d n0 (Kd.C_grow hB r0) n1 (Kd.C_grow hB r1)) hvd.1 ZO A0 c0 o.fSymbols (Kd.C_grow hB q0))) ?_;rintro ⟨⟩ -)
 refine ZG ?_ J (fun w0=>?_)
 exact AgainG.nil
 refine Z4 (Z5 J ?_)
 refine oBuildSliceF (Parts.cons J (Parts.cons J Parts.nil)) J J J J J (Fulls.cons ZP J (Fulls.cons ZP J Fulls.nil ap) ap) (fun b42=>?_)
 refine oConv (blk_row (enc:=Value.int .i64) (h1:=fun _=>J) (W:=B.e) (xs:=[whenF (decide (d.fKind≠x.fKind)) 14,dataF d o.fSymbols]) (n:=2) ZP J J (by decide)) ?_
 refine ZG ?_ J (fun w0=>?_)
 exact AgainG.nil
 refine Z4 (Z5 J ?_)
 (refine ZD J (fun w B' hB hR hS'=>obj_first hS' [whenF (decide (d.fKind≠x.fKind)) 14,dataF d o.fSymbols] (some ⟨b42,0,none⟩) 2 2 rfl (row_Cs (W:=B.e) (e:=29) (A:=some ⟨b42,0,none⟩) (n:=2) (cp:=2) (hR _ _ ZP))) ?_;rintro ⟨⟩ -)
 refine ZG ?_ J (fun w0=>?_)
 exact AgainG.nil
 refine Z6 (Zzd ?_)
 exact ⟨(),trivial,by unfold itemE;rw [if_neg h15,if_pos hif,hdg,hdk,fstW];simp only [decide_eq_true_eq];rfl,Lh⟩
 have hif:¬ o.fFuncs.length≤i:=by omega
 obtain ⟨f,hf⟩:∃ f,o.fFuncs[i]?=some f:=⟨_,List.getElem?_eq_getElem ZO⟩
 obtain ⟨e3,cs3,hE3⟩:=q1.elm hf
 obtain ⟨F0,f0,F1,f1,F2,f2,F3,f3,rfl,n0,r0,n1,r1,n2,r2,n3,r3⟩:=kApiFunc_open hE3.K
 have hgf:=hg.fun_ f (List.mem_of_getElem? hf)
 have hvf:=hg.v.2.1.2 f (List.mem_of_getElem? hf)
 have hfg:o.fFuncs.getD i default=f:=by rw [List.getD_eq_getElem?_getD,hf];rfl
 refine Zj (Za (Zh (Zi (Zz (n:=1) (m:=1) J J J (Zld ?_)))))
 refine Zo J (oIdxE J J (hE3) ZO J J ?_)
 have hc47:=(hE3).cell
 refine Zlx hc47 ?_
 refine oAlloc J ZP (fun b8=>?_)
 refine Zsa ?_
 refine Zn (Za (Zh (Zh (wDrawG J [0,1,2,3,4,5,6,7,8] [] [] 24 ZK J J (fun w0=>?_)))))
 refine Zz (n:=0) (m:=0) J J J (Zld ?_)
 refine Zz (n:=0) (m:=0) J J J (Zld ?_)
 refine Zo rfl (ZS0 (t:=53) (v':=.int .i64 (k:Int)) rfl (by rw [hk]) ?_)
 refine oIdxE J J (hE) ZO J J ?_
 have hc54:=(hE).cell
 refine ZF (ZT 3) (ZT 3) ?_
 refine Zlx hc54 ?_
 refine Z0 J J (Z6 (Zn (Za (wC (fun h57=>?_) (fun h57=>?_)))))
 refine Zh (Zi (Zzd ?_))
 exact ⟨(),trivial,by unfold itemE;rw [if_neg h15,if_neg hif,hfg,hdk,if_pos h57];rfl,Lh⟩
 refine Zj (Za (Zzq ?_))
 refine Zz (n:=0) (m:=0) J J J (Zld ?_)
 (refine ZC0 rfl ZK (fun w hS=>frame hS ZQ (fun B' hB hS'=>verify_Check hS' f _ (kApiFunc_mk _ f n0 (Kd.C_grow hB r0) n1 (Kd.C_grow hB r1) n2 (Kd.C_grow hB r2) n3 (Kd.C_grow hB r3)) ZO A0 c0 o.fSymbols (Kd.C_grow hB q0))) ?_;rintro ⟨⟩ -)
 refine Zo J (oExt J ZP ?_)
 refine oExt J ZP ?_
 refine Zp J (Zp J (Zn (Za (Zh (Zi (Zo J (Zla ?_)))))))
 (refine ZC0 rfl ZK (fun w hS=>frame hS ZQ (fun B' hB hS'=>rng_Check hS' f _ (kApiFunc_mk _ f n0 (Kd.C_grow hB r0) n1 (Kd.C_grow hB r1) n2 (Kd.C_grow hB r2) n3 (Kd.C_grow hB r3)) ZO)) ?_;rintro ⟨⟩ -)
 refine oBuildSliceF (Parts.cons J (Parts.cons J Parts.nil)) J J J J J (Fulls.cons ZP J (Fulls.cons ZP J Fulls.nil ap) ap) (fun b68=>?_)
 refine oConv (blk_row (enc:=Value.int .i64) (h1:=fun _=>J) (W:=B.e) (xs:=[chkE f o.fSymbols,rangeF f]) (n:=2) ZP J J (by decide)) ?_
 (refine ZD J (fun w B' hB hR hS'=>obj_first hS' [chkE f o.fSymbols,rangeF f] (some ⟨b68,0,none⟩) 2 2 rfl (row_Cs (W:=B.e) (e:=29) (A:=some ⟨b68,0,none⟩) (n:=2) (cp:=2) (hR _ _ ZP))) ?_;rintro ⟨⟩ -)
 refine Zp J (Zzj ?_)
 exact ⟨(),trivial,by unfold itemE funE;rw [if_neg h15,if_neg hif,hfg,hdk,if_neg h57,fst2];rfl,Lh⟩
def cntO (o:ApiObject) (r:Nat):Nat:=if r=0 then o.fSymbols.length else o.fFuncs.length+o.fDatas.length
noncomputable def entO (o:ApiObject) (r i:Nat):Int:=if r=0 then symE o i else itemE o i
noncomputable def lstO (o:ApiObject) (r:Nat):List Int:=(List.range (cntO o r)).map (entO o r)
theorem lst_0 (o:ApiObject):lstO o 0=symsL o:=rfl
theorem lst_1 (o:ApiObject):lstO o 1=itsL o:=rfl
def ruleO (b:Nat) (o:ApiObject):List (Fn×Int):=[((29,[b]),(o.fSymbols.length:Int)),((31,[b]),itemsF o)]
theorem cat_ruleO (w:World) (b:Nat) (o:ApiObject):Cat kRule w (ruleO b o) [.func (.func 29) #[] #[.pointer (some ⟨b,0,none⟩)],.int .i64 (o.fSymbols.length:Int),.func (.func 31) #[] #[.pointer (some ⟨b,0,none⟩)],.int .i64 (itemsF o)]:=
 ⟨[_,_],_,rfl,⟨_,_,rfl,rfl,rfl⟩,[_,_],_,rfl,⟨_,_,rfl,rfl,rfl⟩,rfl⟩
theorem ruleO_at {b j:Nat}{o:ApiObject}{r:Fn×Int}(h:(ruleO b o)[j]?=some r):r.2=(cntO o j:Int)∧j<2∧goodF Tryz.prog r.1.1=true:=by
  have hj:=(List.getElem?_eq_some_iff.1 h).1
  match j,hj,h with
  | 0,_,h=>obtain rfl:=Option.some.inj h;exact ⟨rfl,by decide,by show goodF Tryz.prog 29=true;kernel_rfl⟩
  | 1,_,h=>obtain rfl:=Option.some.inj h;exact ⟨by unfold itemsF cntO;simp,by decide,by show goodF Tryz.prog 31=true;kernel_rfl⟩
theorem obj_chk1 {B:Base}{w:World}(o:ApiObject) (A0:Option Addr) (c0:Nat) (A1:Option Addr) (c1:Nat) (A2:Option Addr) (c2 b1:Nat) (hS:St B [blk b1 26 [.slice A0 o.fSymbols.length c0,.slice A1 o.fFuncs.length c1,.slice A2 o.fDatas.length c2]] w) (ho:kApiObject.K B.e o [.slice A0 o.fSymbols.length c0,.slice A1 o.fFuncs.length c1,.slice A2 o.fDatas.length c2]) (hg:GoodO o) (i:Nat) (hi:i<o.fSymbols.length) :
 CW 29 #[.int .i64 (i:Int),.pointer (some ⟨b1,0,none⟩)] w (Ret B (fun _:Unit=>True) (fun _=>.int .i64 (symE o i)) (fun _=>[blk b1 26 [.slice A0 o.fSymbols.length c0,.slice A1 o.fFuncs.length c1,.slice A2 o.fDatas.length c2]])):=by
 refine ZX Tryz.func29 hS ?_
 refine Zh (Zi (Zp J (Zn (Za (Zzq ?_)))))
 refine Zo J ?_
 (refine ZC0 rfl ZK (fun w hS=>frame hS ZQ (fun B' hB hS'=>obj_symbol hS' o _ (kApiObject.K_grow hB ho) hg i hi)) ?_;rintro ⟨⟩ -)
 refine Zp J (Zzj ?_)
 exact ⟨(),trivial,rfl,Lh⟩
theorem obj_chk2 {B:Base}{w:World}(o:ApiObject) (A0:Option Addr) (c0:Nat) (A1:Option Addr) (c1:Nat) (A2:Option Addr) (c2 b1:Nat) (hS:St B [blk b1 26 [.slice A0 o.fSymbols.length c0,.slice A1 o.fFuncs.length c1,.slice A2 o.fDatas.length c2]] w) (ho:kApiObject.K B.e o [.slice A0 o.fSymbols.length c0,.slice A1 o.fFuncs.length c1,.slice A2 o.fDatas.length c2]) (hg:GoodO o) (i:Nat) (hi:i<o.fFuncs.length+o.fDatas.length) :
 CW 31 #[.int .i64 (i:Int),.pointer (some ⟨b1,0,none⟩)] w (Ret B (fun _:Unit=>True) (fun _=>.int .i64 (itemE o i)) (fun _=>[blk b1 26 [.slice A0 o.fSymbols.length c0,.slice A1 o.fFuncs.length c1,.slice A2 o.fDatas.length c2]])):=by
 refine ZX Tryz.func31 hS ?_
 refine Zh (Zi (Zp J (Zn (Za (Zzq ?_)))))
 refine Zo J ?_
 (refine ZC0 rfl ZK (fun w hS=>frame hS ZQ (fun B' hB hS'=>obj_item hS' o _ (kApiObject.K_grow hB ho) hg i hi)) ?_;rintro ⟨⟩ -)
 refine Zp J (Zzj ?_)
 exact ⟨(),trivial,rfl,Lh⟩
theorem ruleO_call {B:Base}{w:World}(o:ApiObject) (A0:Option Addr) (c0:Nat) (A1:Option Addr) (c1:Nat) (A2:Option Addr) (c2 b1:Nat) (hS:St B [blk b1 26 [.slice A0 o.fSymbols.length c0,.slice A1 o.fFuncs.length c1,.slice A2 o.fDatas.length c2]] w) (ho:kApiObject.K B.e o [.slice A0 o.fSymbols.length c0,.slice A1 o.fFuncs.length c1,.slice A2 o.fDatas.length c2]) (hg:GoodO o) {j:Nat}{r:Fn×Int}(h:(ruleO b1 o)[j]?=some r) (i:Nat) (hi:i<cntO o j) :
    CW r.1.1 (#[]++[Value.int .i64 (i:Int)].toArray++(r.1.2.map fun b=>Value.pointer (some ⟨b,0,none⟩)).toArray) w (Ret B (fun _:Unit=>True) (fun _=>.int .i64 (entO o j i)) (fun _=>[blk b1 26 [.slice A0 o.fSymbols.length c0,.slice A1 o.fFuncs.length c1,.slice A2 o.fDatas.length c2]])):=by
  have hj:=(List.getElem?_eq_some_iff.1 h).1
  match j,hj,h,hi with
  | 0,_,h,hi=>obtain rfl:=Option.some.inj h;exact obj_chk1 o A0 c0 A1 c1 A2 c2 b1 hS ho hg i hi
  | 1,_,h,hi=>obtain rfl:=Option.some.inj h;exact obj_chk2 o A0 c0 A1 c1 A2 c2 b1 hS ho hg i hi
theorem obj_Check {B:Base}{w:World}(hS:St B [] w) (o:ApiObject) (oc:List Value) (ho:kApiObject.K B.e o oc) (hg:GoodO o) :
 CW 10 #[.agg oc.toArray] w (Ret B (fun _:Unit=>True) (fun _=>.tuple #[.int .i64 (objE o),.int .i64 (objI o)]) (fun _=>[])):=by
 obtain ⟨A0,c0,A1,c1,A2,c2,rfl,m0,q0,m1,q1,m2,q2⟩:=kApiObject_open ho
 have hn0:=hg.syms
 have hn1:=hg.funcs
 have hn2:=hg.datas
 have hit:itemsF o=(o.fFuncs.length:Int)+(o.fDatas.length:Int):=rfl
 refine ZX Tryz.func10 hS ?_
 refine Zh (Zi (oBox J ZP (fun b1=>?_)))
 refine Zp J (Zp J (Zn (Za (Zh (Zh (Zi (Zz (n:=0) (m:=0) J J J (Zld ?_))))))))
 refine Zv J J (Z1 J J (Zo J (ZS (ZT 12) (fun h12=>?_) (fun h12=>?_))))
 refine Zr J J J J (Zr J J J J (Zr J J J J (Zr J J J J (Zt J J (Zo J (Zr J J J J (Zr J J J J (Zr J J J J (Zr J J J J (Zt J J (Zn (Za (wCondT J (Zh (Zi (Zzu ?_))))))))))))))))
 refine ⟨rfl,_,(ResL.cons (ResR.tmp rfl) (ResL.cons (ResR.tmp rfl) ResL.nil)),?_⟩
 have hm:manyO o:=by unfold manyO;omega
 exact ⟨(),trivial,by unfold objE objI;rw [if_pos hm,if_pos hm];rfl,Lh⟩
 refine Zq J J (Zz (n:=1) (m:=1) J J J (Zzh ?_))
 refine Zq J J (Zv J J (Zq J J (Z1 J J (Zu J J (Zo J (ZS (ZT 18) (fun h18=>?_) (fun h18=>?_)))))))
 refine Zr J J J J (Zr J J J J (Zr J J J J (Zr J J J J (Zt J J (Zn (Za (wCondT J (Zh (Zi (Zzu ?_))))))))))
 refine ⟨rfl,_,(ResL.cons (ResR.tmp rfl) (ResL.cons (ResR.tmp rfl) ResL.nil)),?_⟩
 have hm:manyO o:=by unfold manyO;omega
 exact ⟨(),trivial,by unfold objE objI;rw [if_pos hm,if_pos hm];rfl,Lh⟩
 refine Zq J J (Zz (n:=2) (m:=2) J J J (Zzh ?_))
 refine Zq J J (Zv J J (Zq J J (Z1 J J (Zu J J (Zn (Za (wC (fun h23=>?_) (fun h23=>?_))))))))
 refine Zh (Zi (Zzu ?_))
 refine ⟨rfl,_,(ResL.cons (ResR.tmp rfl) (ResL.cons (ResR.tmp rfl) ResL.nil)),?_⟩
 have hm:manyO o:=by unfold manyO;omega
 exact ⟨(),trivial,by unfold objE objI;rw [if_pos hm,if_pos hm];rfl,Lh⟩
 have hm:¬ manyO o:=by unfold manyO;omega
 refine Zj (Za (Zh (Zh (wDrawG J [0,1,2,3,4,5,6,11] [(7,[0,1,2,3,4,5,11],[8]),(9,[11],[10])] [] 24 ZK J J (fun w0=>?_)))))
 refine oMakeFunc J (Zz (n:=0) (m:=0) J J J (Zld ?_))
 refine Zv J J (oBuild (Parts.cons J (Parts.cons J Parts.nil)) J J (Built.cons (off:=0) (s:=1) J ZP J ZP (Built.cons (off:=1) (s:=1) J ZP J ZP Built.nil)) ?_)
 refine oMakeFunc J (Zla ?_)
 refine Zo J (Z4 (Z5 J ?_))
 (refine ZC0 rfl ZK (fun w hS=>frame hS ZQ (fun B' hB hS'=>obj_Items hS' o _ (kApiObject.K_grow hB ho) hg)) ?_;rintro ⟨⟩ -)
 refine ZG ?_ J (fun w0=>?_)
 refine Z8 J J J J (fun w0=>?_) ?_
 refine oMakeFunc J ?_
 exact Z9 rfl
 refine Z8 J J J J (fun w0=>?_) ?_
 refine Zz (n:=0) (m:=0) J J J ?_
 exact Z9 rfl
 refine Z8 J J J J (fun w0=>?_) ?_
 refine Zld ?_
 exact Z9 rfl
 refine Z8 J J J J (fun w0=>?_) ?_
 refine Zv J J ?_
 exact Z9 rfl
 refine Z8 J J J J (fun w0=>?_) ?_
 refine oBuild (Parts.cons J (Parts.cons J Parts.nil)) J J (Built.cons (off:=0) (s:=1) J ZP J ZP (Built.cons (off:=1) (s:=1) J ZP J ZP Built.nil)) ?_
 exact Z9 rfl
 refine Z8 J J J J (fun w0=>?_) ?_
 refine oMakeFunc J ?_
 exact Z9 rfl
 refine Z8 J J J J (fun w0=>?_) ?_
 refine Zo J ?_
 exact Z9 rfl
 exact AgainG.nil
 refine oBuild (Parts.cons J (Parts.cons J Parts.nil)) J J (Built.cons (off:=0) (s:=1) J ZP J ZP (Built.cons (off:=1) (s:=1) J ZP J ZP Built.nil)) ?_
 refine Z4 (Z5 J ?_)
 refine oBuildSliceF (Parts.cons J (Parts.cons J Parts.nil)) J J J J J (Fulls.cons ZP J (Fulls.cons ZP J Fulls.nil ap) ap) (fun b33=>?_)
 refine ZG ?_ J (fun w0=>?_)
 refine Z8 J J J J (fun w0=>?_) ?_
 refine Zo J ?_
 exact Z9 rfl
 exact AgainG.nil
 refine Zv J J (Z6 (Zn (Za (wFreeze [blk b33 77 [.func (.func 29) #[] #[.pointer (some ⟨b1,0,none⟩)],.int .i64 (o.fSymbols.length:Int),.func (.func 31) #[] #[.pointer (some ⟨b1,0,none⟩)],.int .i64 (itemsF o)]] ZQ (fun B1 hB1 hq1=>?_)))))
 have hR:kRule.C B1.e (some ⟨b33,0,none⟩) (ruleO b1 o):=C_blk (hq1 _ _ ZP) (by show 2≤9223372036854775807;omega) (cat_ruleO _ _ _)
 have ho:=kApiObject.K_grow hB1 ho
 refine Zk (wLoop (ι:=Nat) (fun r=>[(1,.pointer (some ⟨b1,0,none⟩)),(33,.slice (some ⟨b33,0,none⟩) 2 2),(34,.int .i64 2),(35,.int .i64 (r:Int))]) (fun r=>[blk b1 26 [.slice A0 o.fSymbols.length c0,.slice A1 o.fFuncs.length c1,.slice A2 o.fDatas.length c2]]) (fun r=>r≤2∧∀ q,q<r→fstE (lstO o q)=0) (fun r=>2-r) 0 ?_ cv (Leads.has ZQ) ?_)
 exact ⟨Nat.zero_le _,fun q hq=>by omega⟩
 rintro r ⟨hr2,hqs⟩
 try dsimp only
 refine Zh (Zi (Zx J J (Zn (Za (Zh (wC (fun h36=>?_) (fun h36=>?_)))))))
 obtain ⟨u,hu⟩:∃ u,(ruleO b1 o)[r]?=some u:=⟨_,List.getElem?_eq_getElem (by show r<2;omega)⟩
 obtain ⟨hu1,hu2,hu3⟩:=ruleO_at hu
 obtain ⟨⟨ug,ub⟩,uc⟩:=u
 dsimp only at hu1 hu3
 subst hu1
 obtain ⟨e2,cs2,hE2⟩:=hR.elm hu
 obtain ⟨_,_,rfl,rfl,rfl⟩:=(hE2.K:kRule.K _ _ _)
 have hcn:cntO o r≤100:=by unfold cntO;split <;> omega
 refine Zj (Za (Zh (Zk (Zh (Zi (oIdxE J J (hE2) ZO J J ?_))))))
 have hc37:=(hE2).cell
 refine Zlx hc37 ?_
 refine oAlloc J ZP (fun b5=>?_)
 refine Zsa ?_
 refine Zn (Za (Zh (Zi (Zz (n:=1) (m:=1) J J J (Zld ?_)))))
 refine Zo J (Zn (Za (Zk (wLoop (ι:=Nat) (fun i=>[(1,.pointer (some ⟨b1,0,none⟩)),(33,.slice (some ⟨b33,0,none⟩) 2 2),(34,.int .i64 2),(35,.int .i64 (r:Int)),(5,.pointer (some ⟨b5,0,none⟩)),(40,.int .i64 (cntO o r:Int)),(41,.int .i64 (i:Int))]) (fun i=>[blk b5 77 [.func (.func ug) #[] (ub.map fun b=>Value.pointer (some ⟨b,0,none⟩)).toArray,.int .i64 (cntO o r:Int)],blk b1 26 [.slice A0 o.fSymbols.length c0,.slice A1 o.fFuncs.length c1,.slice A2 o.fDatas.length c2]]) (fun i=>i≤cntO o r∧fstE ((lstO o r).take i)=0∧∀ y ∈ (lstO o r).take i,non0 y=false) (fun i=>cntO o r-i) 0 ?_ cv (Leads.has ZQ) ?_))))
 exact ⟨Nat.zero_le _,rfl,by simp⟩
 rintro i ⟨hi,hs,hs2⟩
 try dsimp only
 refine Zh (Zi (Zx J J (Zn (Za (Zh (wC (fun h42=>?_) (fun h42=>?_)))))))
 have hxe:(lstO o r)[i]?=some (entO o r i):=rmap_at ZO
 refine Zj (Za (Zh (Zk (Zh (Zi (Zo J (Zp J (Zn (Za (Zh (Zi (Zz (n:=0) (m:=0) J J J (Zld ?_)))))))))))))
 refine Zo J ?_
 (refine oCallV rfl rfl rfl hu3 (fun w hS=>frame hS ZQ (fun B' hB hS'=>ruleO_call o A0 c0 A1 c1 A2 c2 b1 hS' (kApiObject.K_grow hB ho) hg hu i ZO)) ?_;rintro ⟨⟩ -)
 refine Zp J (Zn (Za (Zh (Zi (Zo J (Z0 J J (Zn (Za (wC (fun h49=>?_) (fun h49=>?_))))))))))
 refine Zh (Zi (Zo J (Zo J (Zp J (Zp J (Zn (Za (Zl (Zf (Zc (Zc (Zf (Zf (Zc (Zc (Zf (Zc (Zw ?_))))))))))))))))))
 refine ⟨rfl,_,(ResL.cons (ResR.tmp rfl) (ResL.cons (ResR.tmp rfl) ResL.nil)),?_⟩
 have hfe:=fstE_stop hs hxe h49
 have hie:=idxI_stop hs2 hxe (decide_eq_true h49)
 exact ⟨(),trivial,by
  unfold objE objI
  rcases Nat.eq_zero_or_pos r with h0 | h0
  · subst h0
    rw [lst_0] at hfe hie
    rw [if_neg hm,if_neg hm,hfe,if_pos h49,if_pos h49,hie];rfl
  · obtain rfl:r=1:=by omega
    have hfs:=hqs 0 ZO
    rw [lst_0] at hfs
    rw [lst_1] at hfe hie
    rw [if_neg hm,if_neg hm,if_neg (by rw [hfs];simp),if_neg (by rw [hfs];simp),hfe,hie];rfl,Lh⟩
 refine Zj (Zzl ?_)
 refine Zo J (Zn (Za ?_))
 exact ⟨rfl,i+1,⟨by omega,fstE_next hs hxe (Classical.not_not.1 h49),take_not hs2 hxe (decide_eq_false h49)⟩,by omega,cv,Lh⟩
 obtain rfl:i=cntO o r:=by omega
 have hfr:fstE (lstO o r)=0:=by have:=hs;unfold lstO at this;rw [rmap_all] at this;exact this
 refine Zm (Zb (Zb (Ze (Zzl ?_))))
 refine Zo J (Zn (Za ?_))
 exact ⟨rfl,r+1,⟨by omega,fun q hq=>if e:q=r then by rw [e];exact hfr else hqs q ZO⟩,by omega,cv,Lh⟩
 refine Zm (Zb (Zb (Ze (Za (Zh (Zi (Zp J (Zp J (Zn (Za (Zl (Zw ?_))))))))))))
 refine ⟨rfl,_,(ResL.cons (ResR.tmp rfl) (ResL.cons (ResR.tmp rfl) ResL.nil)),?_⟩
 obtain rfl:r=2:=by omega
 have hfs:=hqs 0 ZO
 have hfi:=hqs 1 ZO
 rw [lst_0] at hfs
 rw [lst_1] at hfi
 exact ⟨(),trivial,by unfold objE objI;rw [if_neg hm,if_neg hm,if_neg (by rw [hfs];simp),if_neg (by rw [hfs];simp),hfi,idxI_none (p:=non0) (fun y hy=>decide_eq_false (fun h=>h (fstE_zero.1 hfi y hy)))];rfl,Lh⟩
def oneF:ApiFunc:=⟨1,[0,0],0,false,0,0,[],[⟨15,1,0,0,0⟩,⟨24,1,0,0,0⟩],[⟨0,1,true⟩]⟩
def oneD:ApiData:=⟨0,[7],[]⟩
def oneS (x:Int):List ApiSymbol:=[⟨⟨#[109,97,105,110]⟩,false,1,1,0⟩,⟨⟨#[100]⟩,true,2,0,x⟩]
def oneO (x:Int):ApiObject:=⟨oneS x,[oneF],[oneD]⟩
def nilO:ApiObject:=⟨[],[],[]⟩
theorem one_K {w:World}{s k c r f w' d:Nat}{x:Int}(h0:(blk s 37 [.string ⟨#[109,97,105,110]⟩,.bool false,.int .i64 1,.int .i64 1,.int .i64 0,.string ⟨#[100]⟩,.bool true,.int .i64 2,.int .i64 0,.int .i64 x]).q w) (h1:(blk k 3 [.int .i64 0,.int .i64 0]).q w) (h2:(blk c 67 [.int .i64 15,.int .i64 1,.int .i64 0,.int .i64 0,.int .i64 0,.int .i64 24,.int .i64 1,.int .i64 0,.int .i64 0,.int .i64 0]).q w) (h3:(blk r 103 [.int .i64 0,.int .i64 1,.bool true]).q w) (h4:(blk f 57 [.int .i64 1,.slice (some ⟨k,0,none⟩) 2 2,.int .i64 0,.bool false,.int .i64 0,.int .i64 0,.slice none 0 0,.slice (some ⟨c,0,none⟩) 2 2,.slice (some ⟨r,0,none⟩) 1 1]).q w) (h5:(blk w' 2 [.int .i64 7]).q w) (h6:(blk d 62 [.int .i64 0,.slice (some ⟨w',0,none⟩) 1 1,.slice none 0 0]).q w):kApiObject.K w (oneO x) [.slice (some ⟨s,0,none⟩) 2 2,.slice (some ⟨f,0,none⟩) 1 1,.slice (some ⟨d,0,none⟩) 1 1]:=
 kApiObject_mk w (oneO x) (A0:=some ⟨s,0,none⟩) (A1:=some ⟨f,0,none⟩) (A2:=some ⟨d,0,none⟩) (c0:=2) (c1:=1) (c2:=1) (by show 2≤2;omega)
  (C_blk (kd:=kApiSymbol) h0 (by show 2≤9223372036854775807;omega) ⟨_,_,rfl,kApiSymbol_mk w ⟨⟨#[109,97,105,110]⟩,false,1,1,0⟩,_,_,rfl,kApiSymbol_mk w ⟨⟨#[100]⟩,true,2,0,x⟩,rfl⟩) (by show 1≤1;omega)
  (C_blk (kd:=kApiFunc) h4 (by show 1≤9223372036854775807;omega) ⟨_,_,rfl,kApiFunc_mk w oneF (c0:=2) (c1:=0) (c2:=2) (c3:=1) (by decide) (C_blk (kd:=Kd.int .i64) h1 (by decide) (cat_scalar.2 rfl)) (by decide) (Kd.C_nil _ _ _) (by decide) (C_blk (kd:=kApiInstr) h2 (by decide) ⟨_,_,rfl,kApiInstr_mk w ⟨15,1,0,0,0⟩,_,_,rfl,kApiInstr_mk w ⟨24,1,0,0,0⟩,rfl⟩) (by decide) (C_blk (kd:=kApiReloc) h3 (by decide) ⟨_,_,rfl,kApiReloc_mk w ⟨0,1,true⟩,rfl⟩),rfl⟩) (by show 1≤1;omega)
  (C_blk (kd:=kApiData) h6 (by show 1≤9223372036854775807;omega) ⟨_,_,rfl,kApiData_mk w oneD (c0:=1) (c1:=0) (by decide) (C_blk (kd:=Kd.int .i64) h5 (by decide) (cat_scalar.2 rfl)) (by decide) (Kd.C_nil _ _ _),rfl⟩)
theorem nil_K (w:World):kApiObject.K w nilO [.slice none 0 0,.slice none 0 0,.slice none 0 0]:=kApiObject_mk w nilO (c0:=0) (c1:=0) (c2:=0) (by decide) (Kd.C_nil _ _ _) (by decide) (Kd.C_nil _ _ _) (by decide) (Kd.C_nil _ _ _)
theorem one_good {x:Int}(hx:in64 x):GoodO (oneO x):=by
 refine ⟨?_,by show 2≤60;omega,by show 1≤20;omega,by show 1≤20;omega,fun f hf=>?_,fun d hd=>?_⟩
 · have s1:(⟨#[109,97,105,110]⟩:ByteArray).size=4:=rfl
   have s2:(⟨#[100]⟩:ByteArray).size=1:=rfl
   unfold vApiObject
   simp [s1,s2,oneO,oneS,oneF,oneD,vApiSymbol,vApiFunc,vApiData,vApiInstr,vApiReloc,vApiLine,in64,maxLen] at hx ⊢
   omega
 · obtain rfl:=List.mem_singleton.1 hf;decide
 · obtain rfl:=List.mem_singleton.1 hd;decide
theorem nil_good:GoodO nilO:=by
 refine ⟨?_,by decide,by decide,by decide,fun f hf=>(by cases hf),fun d hd=>(by cases hd)⟩
 unfold vApiObject
 simp [nilO]
theorem one_range:rangeF oneF=0:=by
 unfold rangeF
 rw [if_neg]
 rintro ⟨i,hi,hr,-⟩
 have hn:∀ y,¬ RP (rg oneF.fCode) (fromL oneF.fCode (dfrN oneF.fCode)) y:=by
  intro y hy
  induction hy with
  | start h1 h2=>rw [show fromL oneF.fCode (dfrN oneF.fCode)=[] from by decide] at h1;cases h1
  | step h1 h2 ih=>exact ih
 exact hn _ hr
theorem one_fun:funF oneF=0:=by unfold funF codeF;rw [flowF_eq];decide
theorem one_chk:chkE oneF (oneS 0)=0:=by unfold chkE;rw [one_fun];decide
theorem one_syms:symsL (oneO 0)=[0,0]:=by decide
theorem one_syms2:symsL (oneO (-1))=[0,13]:=by decide
theorem one_it0:itemE (oneO 0) 0=0:=by
 unfold itemE funE
 rw [if_neg (by decide),if_neg (by decide),if_neg (by decide),if_neg (by show ¬ chkE oneF (oneS 0)≠0;rw [one_chk];decide)]
 exact one_range
theorem one_it1:itemE (oneO 0) 1=0:=by
 unfold itemE
 rw [if_neg (by decide),if_pos (by decide),if_neg (by decide)]
 decide
theorem one_its:itsL (oneO 0)=[0,0]:=by
 show [itemE (oneO 0) 0,itemE (oneO 0) 1]=[0,0]
 rw [one_it0,one_it1]
theorem one_E:objE (oneO 0)=0∧objI (oneO 0) = -1:=by
 unfold objE objI
 rw [one_syms,one_its]
 decide
theorem one_E2:objE (oneO (-1))=13∧objI (oneO (-1))=1:=by
 have h:fstE [0,13]≠0:=by decide
 unfold objE objI
 rw [one_syms2,if_neg (show ¬ manyO (oneO (-1)) by decide),if_neg (show ¬ manyO (oneO (-1)) by decide),if_pos h,if_pos h]
 decide
theorem nil_E:objE nilO=0∧objI nilO = -1:=by
 unfold objE objI
 rw [show symsL nilO=[] from rfl,show itsL nilO=[] from rfl]
 decide
theorem one_items:itemsF (oneO 0)=2:=by decide
theorem one_def:definerF (oneO 0) 1=1∧definerF (oneO 0) 2 = -1:=by decide
theorem law_One {B:Base}{w:World}(hS:St B [] w) :
 CW 28 #[] w (Ret B (fun _:Nat×Nat×Nat×Nat×Nat×Nat×Nat=>True) (fun z=>.agg #[.slice (some ⟨z.1,0,none⟩) 2 2,.slice (some ⟨z.2.2.2.2.1,0,none⟩) 1 1,.slice (some ⟨z.2.2.2.2.2.2,0,none⟩) 1 1]) (fun z=>[blk z.1 37 [.string ⟨#[109,97,105,110]⟩,.bool false,.int .i64 1,.int .i64 1,.int .i64 0,.string ⟨#[100]⟩,.bool true,.int .i64 2,.int .i64 0,.int .i64 0],blk z.2.1 3 [.int .i64 0,.int .i64 0],blk z.2.2.1 67 [.int .i64 15,.int .i64 1,.int .i64 0,.int .i64 0,.int .i64 0,.int .i64 24,.int .i64 1,.int .i64 0,.int .i64 0,.int .i64 0],blk z.2.2.2.1 103 [.int .i64 0,.int .i64 1,.bool true],blk z.2.2.2.2.1 57 [.int .i64 1,.slice (some ⟨z.2.1,0,none⟩) 2 2,.int .i64 0,.bool false,.int .i64 0,.int .i64 0,.slice none 0 0,.slice (some ⟨z.2.2.1,0,none⟩) 2 2,.slice (some ⟨z.2.2.2.1,0,none⟩) 1 1],blk z.2.2.2.2.2.1 2 [.int .i64 7],blk z.2.2.2.2.2.2 62 [.int .i64 0,.slice (some ⟨z.2.2.2.2.2.1,0,none⟩) 1 1,.slice none 0 0]])):=by
 refine ZX Tryz.func28 hS ?_
 refine Zh (Zi (oAlloc J ZP (fun b0=>?_)))
 refine Zn (Za (Zh (Zi (oBuild (Parts.cons J (Parts.cons J (Parts.cons J Parts.nil))) J J (Built.cons (off:=0) (s:=1) J ZP J ZP (Built.cons (off:=2) (s:=1) J ZP J ZP (Built.cons (off:=3) (s:=1) J ZP J ZP Built.nil))) ?_))))
 refine oBuild (Parts.cons J (Parts.cons J (Parts.cons J Parts.nil))) J J (Built.cons (off:=0) (s:=1) J ZP J ZP (Built.cons (off:=1) (s:=1) J ZP J ZP (Built.cons (off:=2) (s:=1) J ZP J ZP Built.nil))) ?_
 refine oBuildSliceF (Parts.cons J (Parts.cons J Parts.nil)) J J J J J (Fulls.cons ZP J (Fulls.cons ZP J Fulls.nil ap) ap) (fun b3=>?_)
 refine oBuildSliceF (Parts.cons J (Parts.cons J Parts.nil)) J J J J J (Fulls.cons ZP J (Fulls.cons ZP J Fulls.nil ap) ap) (fun b4=>?_)
 refine oBuild (Parts.cons J (Parts.cons J Parts.nil)) J J (Built.cons (off:=0) (s:=1) J ZP J ZP (Built.cons (off:=1) (s:=1) J ZP J ZP Built.nil)) ?_
 refine oBuild (Parts.cons J (Parts.cons J Parts.nil)) J J (Built.cons (off:=0) (s:=1) J ZP J ZP (Built.cons (off:=1) (s:=1) J ZP J ZP Built.nil)) ?_
 refine oBuildSliceF (Parts.cons J (Parts.cons J Parts.nil)) J J J J J (Fulls.cons ZP J (Fulls.cons ZP J Fulls.nil ap) ap) (fun b7=>?_)
 refine oBuild (Parts.cons J (Parts.cons J (Parts.cons J Parts.nil))) J J (Built.cons (off:=0) (s:=1) J ZP J ZP (Built.cons (off:=1) (s:=1) J ZP J ZP (Built.cons (off:=2) (s:=1) J ZP J ZP Built.nil))) ?_
 refine oBuildSlice1 J J J J J ZP J (fun b9=>?_)
 refine oBuild (Parts.cons J (Parts.cons J (Parts.cons J (Parts.cons J Parts.nil)))) J J (Built.cons (off:=0) (s:=1) J ZP J ZP (Built.cons (off:=1) (s:=1) J ZP J ZP (Built.cons (off:=7) (s:=1) J ZP J ZP (Built.cons (off:=8) (s:=1) J ZP J ZP Built.nil)))) ?_
 refine oBuildSlice1 J J J J J ZP J (fun b11=>?_)
 refine oBuildSlice1 J J J J J ZP J (fun b12=>?_)
 refine oBuild (Parts.cons J Parts.nil) J J (Built.cons (off:=1) (s:=1) J ZP J ZP Built.nil) ?_
 refine oBuildSlice1 J J J J J ZP J (fun b14=>?_)
 refine oBuild (Parts.cons J (Parts.cons J (Parts.cons J Parts.nil))) J J (Built.cons (off:=0) (s:=1) J ZP J ZP (Built.cons (off:=1) (s:=1) J ZP J ZP (Built.cons (off:=2) (s:=1) J ZP J ZP Built.nil))) ?_
 refine Zsa ?_
 refine Zn (Za (Zl (Zw (ZI ?_))))
 exact ⟨(b3,b4,b7,b9,b11,b12,b14),trivial,rfl,Lh⟩
theorem known19 {B:Base}{w:World}(hS:St B [] w) :
 CW 9 #[] w (Ret B (fun _:Unit=>True) (fun _=>.bool true) (fun _=>[])):=by
 refine ZX Tryz.func9 hS ?_
 refine Zh (Zi (Zp J (Zn (Za (Zh (Zi ?_))))))
 (refine ZC0 rfl ZK (fun w hS=>frame hS ZQ (fun B' hB hS'=>law_One hS')) ?_;rintro ⟨x1,x2,x3,x4,x5,x6,x7⟩ -)
 try dsimp only
 (refine ZD J (fun w B' hB hR hS'=>obj_Check hS' (oneO 0) _ (one_K (x:=0) (s:=x1) (k:=x2) (c:=x3) (r:=x4) (f:=x5) (w':=x6) (d:=x7) (hR _ _ ZP) (hR _ _ ZP) (hR _ _ ZP) (hR _ _ ZP) (hR _ _ ZP) (hR _ _ ZP) (hR _ _ ZP)) (one_good (by unfold in64;omega))) ?_;rintro ⟨⟩ -)
 rw [one_E.1,one_E.2];try dsimp only
 refine Zo J (oExt J ZP ?_)
 refine oExt J ZP ?_
 refine Zp J (Zp J (Zn (Za (Zh (Zi ?_)))))
 (refine ZC0 rfl ZK (fun w hS=>frame hS ZQ (fun B' hB hS'=>law_One hS')) ?_;rintro ⟨y1,y2,y3,y4,y5,y6,y7⟩ -)
 try dsimp only
 refine oAlloc J ZP (fun b3=>?_)
 refine Zsa ?_
 refine Zn (Za (Zh (Zi (Zz (n:=0) (m:=0) J J J (Zld ?_)))))
 refine oIdxB (s:=5) (i:=1) (m:=5) J J J (by decide) J ?_
 refine Zz (n:=4) (m:=9) J J J (Zst ?_)
 refine Zn (Za (Zzq ?_))
 (refine ZD J (fun w B' hB hR hS'=>obj_Check hS' (oneO (-1)) _ (one_K (x:=(-1)) (s:=y1) (k:=y2) (c:=y3) (r:=y4) (f:=y5) (w':=y6) (d:=y7) (hR _ _ ZP) (hR _ _ ZP) (hR _ _ ZP) (hR _ _ ZP) (hR _ _ ZP) (hR _ _ ZP) (hR _ _ ZP)) (one_good (by unfold in64;omega))) ?_;rintro ⟨⟩ -)
 rw [one_E2.1,one_E2.2];try dsimp only
 refine Zo J (oExt J ZP ?_)
 refine oExt J ZP ?_
 refine Zp J (Zp J (Zn (Za (Zh (Zi (oBuild Parts.nil J J Built.nil ?_))))))
 (refine ZC0 rfl ZK (fun w hS=>frame hS ZQ (fun B' hB hS'=>obj_Check hS' nilO _ (nil_K _) nil_good)) ?_;rintro ⟨⟩ -)
 rw [nil_E.1,nil_E.2];try dsimp only
 refine Zo J (oExt J ZP ?_)
 refine oExt J ZP ?_
 refine Zp J (Zp J (Zn (Za (Zh (Zi (Zo J (Zy J J (Zo J (ZS (ZT 30) (fun h30=>?_) (fun h30=>?_))))))))))
 refine Zq J J (Zo J (Zq J J (Zy J J (Zt J J (Zo J (ZS (ZT 34) (fun h34=>?_) (fun h34=>?_)))))))
 refine Zq J J (Zo J (Zq J J (Zy J J (Zt J J (Zo J (ZS (ZT 38) (fun h38=>?_) (fun h38=>?_)))))))
 refine Zq J J (Zo J (Zq J J (Zy J J (Zt J J (Zo J (ZS (ZT 42) (fun h42=>?_) (fun h42=>?_)))))))
 refine Zq J J (Zo J (Zq J J (Zy J J (Zt J J (Zo J (ZS (ZT 46) (fun h46=>?_) (fun h46=>?_)))))))
 refine Zq J J (Zo J (Zq J J (Zy J J (Zt J J (Zo J (ZS (ZT 50) (fun h50=>?_) (fun h50=>?_)))))))
 refine Zq J J ?_
 (refine ZC0 rfl ZK (fun w hS=>frame hS ZQ (fun B' hB hS'=>law_One hS')) ?_;rintro ⟨u1,u2,u3,u4,u5,u6,u7⟩ -)
 try dsimp only
 refine Zq J J ?_
 (refine ZD J (fun w B' hB hR hS'=>obj_Items hS' (oneO 0) _ (one_K (x:=0) (s:=u1) (k:=u2) (c:=u3) (r:=u4) (f:=u5) (w':=u6) (d:=u7) (hR _ _ ZP) (hR _ _ ZP) (hR _ _ ZP) (hR _ _ ZP) (hR _ _ ZP) (hR _ _ ZP) (hR _ _ ZP)) (one_good (by unfold in64;omega))) ?_;rintro ⟨⟩ -)
 rw [one_items];try dsimp only
 refine Zq J J (Zy J J (Zt J J (Zo J (ZS (ZT 55) (fun h55=>?_) (fun h55=>?_)))))
 refine Zq J J ?_
 (refine ZC0 rfl ZK (fun w hS=>frame hS ZQ (fun B' hB hS'=>law_One hS')) ?_;rintro ⟨v1,v2,v3,v4,v5,v6,v7⟩ -)
 try dsimp only
 refine Zq J J ?_
 (refine ZD J (fun w B' hB hR hS'=>obj_Definer hS' (oneO 0) _ (one_K (x:=0) (s:=v1) (k:=v2) (c:=v3) (r:=v4) (f:=v5) (w':=v6) (d:=v7) (hR _ _ ZP) (hR _ _ ZP) (hR _ _ ZP) (hR _ _ ZP) (hR _ _ ZP) (hR _ _ ZP) (hR _ _ ZP)) (one_good (by unfold in64;omega)) 1) ?_;rintro ⟨⟩ -)
 rw [one_def.1];try dsimp only
 refine Zq J J (Zy J J (Zt J J (Zo J (ZS (ZT 60) (fun h60=>?_) (fun h60=>?_)))))
 refine Zq J J ?_
 (refine ZC0 rfl ZK (fun w hS=>frame hS ZQ (fun B' hB hS'=>law_One hS')) ?_;rintro ⟨t1,t2,t3,t4,t5,t6,t7⟩ -)
 try dsimp only
 refine Zq J J ?_
 (refine ZD J (fun w B' hB hR hS'=>obj_Definer hS' (oneO 0) _ (one_K (x:=0) (s:=t1) (k:=t2) (c:=t3) (r:=t4) (f:=t5) (w':=t6) (d:=t7) (hR _ _ ZP) (hR _ _ ZP) (hR _ _ ZP) (hR _ _ ZP) (hR _ _ ZP) (hR _ _ ZP) (hR _ _ ZP)) (one_good (by unfold in64;omega)) 2) ?_;rintro ⟨⟩ -)
 rw [one_def.2];try dsimp only
 refine Zq J J (Zy J J (Zt J J (Zza ?_)))
 exact ⟨(),trivial,rfl,Lh⟩
 first | exact absurd rfl h60 | cases h60
 first | exact absurd rfl h55 | cases h55
 first | exact absurd rfl h50 | cases h50
 first | exact absurd rfl h46 | cases h46
 first | exact absurd rfl h42 | cases h42
 first | exact absurd rfl h38 | cases h38
 first | exact absurd rfl h34 | cases h34
 first | exact absurd rfl h30 | cases h30
theorem few_good {o:ApiObject}(hv:vApiObject o) (h:FewB o):GoodO o:=⟨hv,h.syms,h.funcs,h.datas,h.fun_,h.data⟩
theorem objectTells {B:Base}{w:World}(hS:St B [] w) (o:ApiObject) (oc:List Value) (ho:kApiObject.K B.e o oc) (hv:vApiObject o) (i:Int) :
 CW 3 #[.agg oc.toArray,.int .i64 i] w (Ret B (fun _:Unit=>True) (fun _=>.bool true) (fun _=>[])):=by
 obtain ⟨A0,c0,A1,c1,A2,c2,rfl,m0,q0,m1,q1,m2,q2⟩:=kApiObject_open ho
 refine ZX Tryz.func3 hS ?_
 refine Zh (Zi (oBox J ZP (fun b2=>?_)))
 refine Zp J (Zn (Za (Zh (Zzq ?_))))
 (refine ZC0 rfl ZK (fun w hS=>frame hS ZQ (fun B' hB hS'=>ref19_Few hS' o _ (kApiObject.K_grow hB ho))) ?_;rintro r10 hr10)
 refine Zno ?_
 refine Zn (Za (wC (fun h11=>?_) (fun h11=>?_)))
 refine Zh (Zi ?_)
 (refine ZC0 rfl ZK (fun w hS=>frame hS ZQ (fun B' hB hS'=>known19 hS')) ?_;rintro ⟨⟩ -)
 refine Zp J (Zzs ?_)
 exact ⟨(),trivial,rfl,Lh⟩
 have hg:GoodO o:=few_good hv (hr10 (by simpa using h11))
 refine Zj (Za (Zzq ?_))
 (refine ZC0 rfl ZK (fun w hS=>frame hS ZQ (fun B' hB hS'=>obj_Check hS' o _ (kApiObject.K_grow hB ho) hg)) ?_;rintro ⟨⟩ -)
 refine Zo J (oExt J ZP ?_)
 refine oExt J ZP ?_
 refine Zp J (Zp J (Zn (Za (Zzq ?_))))
 (refine ZC0 rfl ZK (fun w hS=>frame hS ZQ (fun B' hB hS'=>ref19_Check hS' o _ (kApiObject.K_grow hB ho) hg)) ?_;rintro ⟨⟩ -)
 refine Zo J (oExt J ZP ?_)
 refine oExt J ZP ?_
 refine Zp J (Zp J (Zn (Za (Zh (wDrawG J [0,1,2,3,4,5,6,7,8,9,11] [(10,[11],[]),(12,[],[13,14,15,16,17,19,20]),(18,[19,20],[]),(21,[],[22,23,24]),(25,[],[26])] [27] 24 ZK J J (fun w0=>?_))))))
 refine Zo J (Zo J (Zy J J (ZS0 (t:=25) (v':=.bool true) J (by simp) ?_)))
 refine Zo J (Zq J J (Zo J (Zq J J (Zo J (Zq J J (Zy J J (ZS0 (t:=29) (v':=.bool true) J (by simp) ?_)))))))
 refine Zt J J (Zo J (Zq J J (Zla ?_)))
 refine Zq J J (Zla ?_)
 refine Z4 (Z5 J (Zq J J ?_))
 (refine ZC0 rfl ZK (fun w hS=>frame hS ZQ (fun B' hB hS'=>obj_Items hS' o _ (kApiObject.K_grow hB ho) hg)) ?_;rintro ⟨⟩ -)
 refine ZG ?_ J (fun w0=>?_)
 refine Z8 J J J J (fun w0=>?_) ?_
 refine Zq J J (Zla ?_)
 exact Z9 rfl
 exact AgainG.nil
 refine Z4 (Z5 J (Zq J J ?_))
 (refine ZC0 rfl ZK (fun w hS=>frame hS ZQ (fun B' hB hS'=>ref19_Items hS' o _ (kApiObject.K_grow hB ho) hg)) ?_;rintro ⟨⟩ -)
 refine ZG ?_ J (fun w0=>?_)
 exact AgainG.nil
 refine Zq J J (Zy J J (ZS0 (t:=36) (v':=.bool true) J (by simp) ?_))
 refine Zt J J (Zo J (Zq J J (Zla ?_)))
 refine Zq J J (Zo J (Zq J J (Zla ?_)))
 refine Zq J J (Zo J (Z4 (Z5 J (Zq J J ?_))))
 (refine ZC0 rfl ZK (fun w hS=>frame hS ZQ (fun B' hB hS'=>obj_Definer hS' o _ (kApiObject.K_grow hB ho) hg i)) ?_;rintro ⟨⟩ -)
 refine ZG ?_ J (fun w0=>?_)
 refine Z8 J J J J (fun w0=>?_) ?_
 refine Zq J J (Zla ?_)
 exact Z9 rfl
 refine Z8 J J J J (fun w0=>?_) ?_
 refine Zq J J (Zo J ?_)
 exact Z9 rfl
 exact AgainG.nil
 refine Z4 (Z5 J (Zq J J ?_))
 (refine ZC0 rfl ZK (fun w hS=>frame hS ZQ (fun B' hB hS'=>ref19_Definer hS' o _ (kApiObject.K_grow hB ho) hg i)) ?_;rintro ⟨⟩ -)
 refine ZG ?_ J (fun w0=>?_)
 exact AgainG.nil
 refine Zq J J (Zy J J (ZS0 (t:=45) (v':=.bool true) J (by simp) ?_))
 refine Zt J J (Zo J (Z4 (Z5 J (Zq J J ?_))))
 (refine ZC0 rfl ZK (fun w hS=>frame hS ZQ (fun B' hB hS'=>known19 hS')) ?_;rintro ⟨⟩ -)
 refine ZG ?_ J (fun w0=>?_)
 exact AgainG.nil
 refine Zt J J (Z6 (Zza ?_))
 exact ⟨(),trivial,rfl,Lh⟩
end Go.Proofs.YtafiabekcekdbaaGreatO
