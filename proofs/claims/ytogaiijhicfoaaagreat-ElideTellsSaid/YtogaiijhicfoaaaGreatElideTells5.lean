/-
  Part 5 of the proof of ElideTells: contracts of functions, and what follows from them; without conditions.
-/
import Derived.Test.YtogaiijhicfoaaaGreatElideTells4
import Derived.Test.YtogaiijhicfoaaaGreatProg
import Derived.Laws.StructEq
set_option linter.unusedVariables false
set_option linter.unusedSimpArgs false
set_option linter.defProp false
/-
  Heaps in arrays, plainly: exchanges, and what sifting up and down keeps.
-/
namespace Go.Proofs.YtogaiijhicfoaaaGreatQ
set_option maxRecDepth 100000
set_option maxHeartbeats 4000000
open Go.Proofs.YtogaiijhicfoaaaGreatK (ZO)

def sw (a:Nat→Nat) (i j k:Nat):Nat:=if k=i then a j else if k=j then a i else a k
section
variable (lt : Nat → Nat → Prop)
def HeapN (a:Nat→Nat) (n:Nat):Prop:=∀ k,0<k→k<n→¬ lt (a k) (a ((k-1) / 2))
def UpInv (a:Nat→Nat) (n j:Nat):Prop:=
  (∀ k,0<k→k<n→k≠j→¬ lt (a k) (a ((k-1) / 2)))∧(∀ k,0<k→k<n→(k-1) / 2=j→0<j→¬ lt (a k) (a ((j-1) / 2)))
def DownInv (a:Nat→Nat) (n i i0:Nat):Prop:=
  (∀ k,0<k→k<n→k≠i→(k-1) / 2≠i→¬ lt (a k) (a ((k-1) / 2)))∧(∀ k,0<k→k<n→(k-1) / 2=i→0<i→¬ lt (a k) (a ((i-1) / 2)))∧
  (i0<i→¬ lt (a i) (a ((i-1) / 2)))∧i0≤i
variable {lt} (asy : ∀ a b, lt a b → ¬ lt b a) (tr : ∀ a b c, ¬ lt b a → ¬ lt c b → ¬ lt c a)
include asy tr
theorem up_step {a:Nat→Nat}{n j:Nat}(h:UpInv lt a n j) (h0:0<j) (hj:j<n) (hl:lt (a j) (a ((j-1) / 2))):UpInv lt (sw a ((j-1) / 2) j) n ((j-1) / 2):=by
 obtain ⟨h1,h2⟩:=h
 generalize hp:(j-1) / 2=p at *
 have hpj:p<j:=by omega
 have hpn:¬ lt (a p) (a j):=asy _ _ hl
 refine ⟨fun k k0 kn kp=>?_,fun k k0 kn kp p0=>?_⟩
 · by_cases kj:k=j
   · subst kj
     have e1:sw a p k k=a p:=by unfold sw;rw [if_neg ZO,if_pos rfl]
     have e2:sw a p k ((k-1) / 2)=a k:=by unfold sw;rw [if_pos hp]
     rw [e1,e2];exact hpn
   · have e1:sw a p j k=a k:=by unfold sw;rw [if_neg kp,if_neg kj]
     rw [e1]
     by_cases q1:(k-1) / 2=p
     · have e2:sw a p j ((k-1) / 2)=a j:=by unfold sw;rw [if_pos q1]
       rw [e2]
       have:=h1 k k0 kn kj
       rw [q1] at this
       exact tr _ _ _ hpn this
     · by_cases q2:(k-1) / 2=j
       · have e2:sw a p j ((k-1) / 2)=a p:=by unfold sw;rw [if_neg q1,if_pos q2]
         rw [e2];exact h2 k k0 kn q2 h0
       · have e2:sw a p j ((k-1) / 2)=a ((k-1) / 2):=by unfold sw;rw [if_neg q1,if_neg q2]
         rw [e2];exact h1 k k0 kn kj
 · have e2:sw a p j ((p-1) / 2)=a ((p-1) / 2):=by unfold sw;rw [if_neg ZO,if_neg ZO]
   have hpp:=h1 p p0 ZO ZO
   rw [e2]
   by_cases kj:k=j
   · subst kj
     have e1:sw a p k k=a p:=by unfold sw;rw [if_neg ZO,if_pos rfl]
     rw [e1];exact hpp
   · have e1:sw a p j k=a k:=by unfold sw;rw [if_neg ZO,if_neg kj]
     rw [e1]
     have:=h1 k k0 kn kj
     rw [kp] at this
     exact tr _ _ _ hpp this
omit asy tr in
theorem up_end {a:Nat→Nat}{n j:Nat}(h:UpInv lt a n j) (hj:j=0∨¬ lt (a j) (a ((j-1) / 2))):HeapN lt a n:=by
 intro k k0 kn
 by_cases kj:k=j
 · subst kj
   rcases hj with h | h
   · omega
   · exact h
 · exact h.1 k k0 kn kj
omit tr in
theorem down_step {a:Nat→Nat}{n i j i0:Nat}(h:DownInv lt a n i i0) (h0:0<j) (hj:j<n) (hp:(j-1) / 2=i) (hs:∀ k,0<k→k<n→(k-1) / 2=i→¬ lt (a k) (a j)) (hl:lt (a j) (a i)):DownInv lt (sw a i j) n j i0:=by
 obtain ⟨h1,h2,h3,h4⟩:=h
 have hij:i<j:=by omega
 refine ⟨fun k k0 kn kj kp=>?_,fun k k0 kn kp j0=>?_,fun _=>?_,by omega⟩
 · by_cases ki:k=i
   · subst ki
     have e1:sw a k j k=a j:=by unfold sw;rw [if_pos rfl]
     have e2:sw a k j ((k-1) / 2)=a ((k-1) / 2):=by unfold sw;rw [if_neg ZO,if_neg ZO]
     rw [e1,e2];exact h2 j h0 hj hp k0
   · have e1:sw a i j k=a k:=by unfold sw;rw [if_neg ki,if_neg kj]
     rw [e1]
     by_cases q1:(k-1) / 2=i
     · have e2:sw a i j ((k-1) / 2)=a j:=by unfold sw;rw [if_pos q1]
       rw [e2];exact hs k k0 kn q1
     · have e2:sw a i j ((k-1) / 2)=a ((k-1) / 2):=by unfold sw;rw [if_neg q1,if_neg kp]
       rw [e2];exact h1 k k0 kn ki q1
 · have e1:sw a i j k=a k:=by unfold sw;rw [if_neg ZO,if_neg ZO]
   have e2:sw a i j ((j-1) / 2)=a j:=by unfold sw;rw [if_pos hp]
   rw [e1,e2]
   have:=h1 k k0 kn ZO ZO
   rw [kp] at this;exact this
 · have e1:sw a i j j=a i:=by unfold sw;rw [if_neg ZO,if_pos rfl]
   have e2:sw a i j ((j-1) / 2)=a j:=by unfold sw;rw [if_pos hp]
   rw [e1,e2];exact asy _ _ hl
omit asy tr in
theorem down_end {a:Nat→Nat}{n i i0:Nat}(h:DownInv lt a n i i0) (hs:∀ k,0<k→k<n→(k-1) / 2=i→¬ lt (a k) (a i)):(i0<i∨i=0→HeapN lt a n)∧UpInv lt a n i:=by
 obtain ⟨h1,h2,h3,h4⟩:=h
 have hup:UpInv lt a n i:=⟨fun k k0 kn ki=>by
  by_cases q:(k-1) / 2=i
  · have:=hs k k0 kn q;rw [q];exact this
  · exact h1 k k0 kn ki q,h2⟩
 refine ⟨fun hi=>up_end hup ?_,hup⟩
 rcases hi with hi | hi
 · exact .inr (h3 hi)
 · exact .inl hi
end
theorem heap_at {lt:Nat→Nat→Prop}(tr:∀ a b c,¬ lt b a→¬ lt c b→¬ lt c a) {a b:Nat→Nat}{n m i:Nat}(h:HeapN lt a m) (hn:n≤m) (hi:i<m) (hb:∀ k,k<n→k≠i→b k=a k):DownInv lt b n i i:=by
 refine ⟨fun k k0 kn ki kp=>?_,fun k k0 kn kp i0=>?_,fun h=>absurd h ZO,Nat.le_refl _⟩
 · rw [hb k kn ki,hb _ ZO kp];exact h k k0 ZO
 · rw [hb k kn ZO,hb _ ZO ZO]
   have h1:=h k k0 ZO
   rw [kp] at h1
   exact tr _ _ _ (h i i0 hi) h1
theorem heap_congr {lt:Nat→Nat→Prop}{a b:Nat→Nat}{n:Nat}(h:HeapN lt a n) (hb:∀ k,k<n→b k=a k):HeapN lt b n:=fun k k0 kn=>by rw [hb k kn,hb _ ZO];exact h k k0 kn
theorem heap_least {lt:Nat→Nat→Prop}(tr:∀ a b c,¬ lt b a→¬ lt c b→¬ lt c a) (ir:∀ a,¬ lt a a) {a:Nat→Nat}{n:Nat}(h:HeapN lt a n):∀ k,k<n→¬ lt (a k) (a 0):=by
 intro k
 induction k using Nat.strongRecOn with
 | _ k ih=>
  intro hk
  by_cases k0:k=0
  · subst k0;exact ir _
  · exact tr _ _ _ (ih ((k-1) / 2) ZO ZO) (h k ZO hk)

def at_ (l:List Nat) (k:Nat):Nat:=l.getD k 0
def swp (l:List Nat) (i j:Nat):List Nat:=(l.set i (at_ l j)).set j (at_ l i)
theorem at_some {l:List Nat}{k b:Nat}(h:l[k]?=some b):at_ l k=b:=by unfold at_;rw [List.getD_eq_getElem?_getD,h];rfl
theorem get_at {l:List Nat}{k:Nat}(h:k<l.length):l[k]?=some (at_ l k):=by unfold at_;rw [List.getD_eq_getElem?_getD,List.getElem?_eq_getElem h];rfl
theorem swp_length (l:List Nat) (i j:Nat):(swp l i j).length=l.length:=by simp [swp]
theorem swp_get {l:List Nat}{i j k:Nat}(hi:i<l.length) (hj:j<l.length):(swp l i j)[k]?=if k=i then l[j]? else if k=j then l[i]? else l[k]?:=by
 unfold swp
 rw [List.getElem?_set,List.getElem?_set,get_at hi,get_at hj]
 by_cases h1:j=k
 · subst h1
   by_cases h2:j=i
   · subst h2;simp [hi]
   · simp [hj,h2]
 · rw [if_neg h1]
   by_cases h2:i=k
   · subst h2;simp [hi]
   · rw [if_neg h2,if_neg (Ne.symm h2),if_neg (Ne.symm h1)]
theorem swp_at {l:List Nat}{i j:Nat}(hi:i<l.length) (hj:j<l.length) (k:Nat):at_ (swp l i j) k=sw (at_ l) i j k:=by
 unfold at_ sw
 rw [List.getD_eq_getElem?_getD,swp_get hi hj]
 split
 · simp [List.getD_eq_getElem?_getD]
 · split <;> simp [List.getD_eq_getElem?_getD]
theorem swp_perm {l:List Nat}{i j:Nat}(hi:i<l.length) (hj:j<l.length):(swp l i j).Perm l:=by
 rw [List.perm_iff_count]
 intro b
 unfold swp
 rw [List.count_set (by simpa using hj),List.count_set hi,List.getElem_set]
 have e1:at_ l i=l[i]:=by have:=get_at hi;rw [List.getElem?_eq_getElem hi] at this;exact (Option.some.inj this).symm
 have e2:at_ l j=l[j]:=by have:=get_at hj;rw [List.getElem?_eq_getElem hj] at this;exact (Option.some.inj this).symm
 rw [e1,e2]
 have c1:l[i]=b→0<List.count b l:=fun h=>List.count_pos_iff.2 (h ▸ List.getElem_mem hi)
 generalize List.count b l=n at *
 by_cases hij:i=j
 · subst hij
   simp only [if_true]
   by_cases ha:l[i]=b
   · have:=c1 ha;simp [ha];omega
   · simp [ha]
 · rw [if_neg hij]
   by_cases ha:l[i]=b <;> by_cases hb:l[j]=b
   · have:=c1 ha;simp [ha,hb];omega
   · have:=c1 ha;simp [ha,hb];omega
   · simp [ha,hb]
   · simp [ha,hb]
end Go.Proofs.YtogaiijhicfoaaaGreatQ


/-
  Package queue: what a pile is, and its methods Len and Less.
-/
namespace Go.Proofs.YtogaiijhicfoaaaGreatQ
set_option maxRecDepth 100000
set_option maxHeartbeats 4000000
open Go.RowKit Go.Proofs.YtogaiijhicfoaaaGreatK

structure It where
  id:Int
  key:Int
  pl:Int
def itCells (x:It):List Value:=[.int .i64 x.id,.int .i64 x.key,.int .i64 x.pl]
def its (S:Nat→Prop) (f:Nat→It):Res where
  fp:=S
  q w:=∀ b,S b→w.heap[b]?=some (.cells (itCells (f b)).toArray 183 (0,0))
  inb w h k hk:=(Array.getElem?_eq_some_iff.1 (h k hk)).1
  st w w' h hk:=fun b hb=>(hk b hb).trans (h b hb)
abbrev ptrV (b:Nat):Value:=.pointer (some ⟨b,0,none⟩)
def ptrK:Kd Nat:=Kd.scalar ptrV (fun _=>rfl)
structure Pile where
  A:Option Addr
  cp:Nat
  mb:Nat
  l:List Nat
  f:Nat→It
  m:Int→Option Nat
def pileR (p:Nat) (s:Pile):List Res:=
  [blk p 177 [.slice s.A s.l.length s.cp,.map (some s.mb)],row ptrK default 180 (.slice s.A s.l.length s.cp) s.l,its (· ∈ s.l) s.f,kmap (Value.int .i64) ptrV s.mb s.m]
def ltI (a b:It):Prop:=a.key<b.key∨a.key=b.key∧a.id<b.id
instance (a b:It):Decidable (ltI a b):=by unfold ltI;infer_instance

section
variable {c : Cx} {N : Md c} {M : Me c} {d : Nat} {ty : TypeId} {pos : String} {af : Array Edge} {rest : List Oper} {E : Env} {D : List Deferred} {H H' : List Res} {v : Value} {x y : Operand} {t : TypeId} {S : Nat → Prop} {f : Nat → It}
theorem oLdI {b i:Nat}(hx:E.op x=some (.pointer (some ⟨b,i,none⟩))) (hp:Pick H (its S f) H') (hb:S b) (hv:(itCells (f b))[i]?=some v) (hs:scalT c.P t=true) (h:O N rest ((d,v) :: E) D H) (hN:Nat.blt d c.N=true:=by rfl):O N (⟨some d,.load t x,ty,pos,af,none⟩ :: rest) E D H:=
 oC _ rfl hN (fun u w ha hw=>by
  have hc:w.cell? ⟨b,i,none⟩=some v:=by rw [cell_of ((hw.get hp) b hb)];exact hv
  simp [execOp,ha.op hx,Instr.loadAt,Instr.sureAddr,loadVar,run_isAgg_s hs,hc]) h
end

theorem pile_Len {B:Base}{w:World}{p:Nat}{s:Pile}(hS:St B (pileR p s) w) :
 CW 201 #[ptrV p] w (Ret B (fun _:Unit=>True) (fun _=>.int .i64 (s.l.length:Int)) (fun _=>pileR p s)):=by
 unfold pileR at hS ⊢
 refine ZX Tryz.func201 hS ?_
 refine Zh (Zi (Zp J (Zn (Za (Zh (Zi (Zo J (Z3 J (Zz (n:=0) (m:=0) J J J (Zld ?_))))))))))
 refine Zv J J (Zza ?_)
 exact ⟨(),trivial,rfl,Lh⟩

theorem pile_Less {B:Base}{w:World}{p:Nat}{s:Pile}(hS:St B (pileR p s) w) (i j:Nat) (bi bj:Nat) (hi:s.l[i]?=some bi) (hj:s.l[j]?=some bj) :
 CW 335 #[ptrV p,.int .i64 (i:Int),.int .i64 (j:Int)] w (Ret B (fun _:Unit=>True) (fun _=>.bool (decide (ltI (s.f bi) (s.f bj)))) (fun _=>pileR p s)):=by
 have mi:bi ∈ s.l:=List.mem_of_getElem? hi
 have mj:bj ∈ s.l:=List.mem_of_getElem? hj
 have li:i<s.l.length:=(List.getElem?_eq_some_iff.1 hi).1
 have lj:j<s.l.length:=(List.getElem?_eq_some_iff.1 hj).1
 obtain ⟨A,cp,mb,l,f,m⟩:=s
 unfold pileR at hS ⊢
 dsimp only at *
 refine ZX Tryz.func335 hS ?_
 refine Zh (Zi (Zp J (Zn (Za (Zh (wDraw2 J J [0,4,7,11] [1,2,3,5,6,8,9,10,12,13,14] 15 ZK J J J (fun w0=>?_)))))))
 refine Z3 J (Zz (n:=0) (m:=0) J J J ?_)
 first | refine oLd rfl ZP rfl rfl ?_ | refine oLdI rfl ZP (by assumption) rfl rfl ?_
 refine ZR J J ZP ZO J J (fun g14 hg14=>?_)
 first | subst hg14 | (injection hg14 with hg14;injection hg14 with hg14;subst hg14)
 refine ZR1 J ZP ZO J (fun u15 hu15=>?_)
 obtain rfl:=Option.some.inj (hi.symm.trans hu15)
 refine Z3 J (Zz (n:=0) (m:=0) J J J ?_)
 first | refine oLd rfl ZP rfl rfl ?_ | refine oLdI rfl ZP (by assumption) rfl rfl ?_
 refine ZR J J ZP ZO J J (fun g21 hg21=>?_)
 first | subst hg21 | (injection hg21 with hg21;injection hg21 with hg21;subst hg21)
 refine ZR1 J ZP ZO J (fun u22 hu22=>?_)
 obtain rfl:=Option.some.inj (hj.symm.trans hu22)
 refine Zp J (oHead (Zp J (oNilT (Za (Zh (Zh (wDraw2 J J [0,4] [1,2,3,5,6,7] 8 ZK J J J (fun w0=>?_))))))))
 refine Z3 J (Zz (n:=1) (m:=1) J J J ?_)
 first | refine oLd rfl ZP rfl rfl ?_ | refine oLdI rfl ZP (by assumption) rfl rfl ?_
 refine Z3 J (Zz (n:=1) (m:=1) J J J ?_)
 first | refine oLd rfl ZP rfl rfl ?_ | refine oLdI rfl ZP (by assumption) rfl rfl ?_
 refine oHead (Z0 J J (oNilT (Za (wC (fun h31=>?_) (fun h31=>?_)))))
 refine Zh (wDraw2 J J [0,4] [1,2,3,5,6,7,8] 9 ZK J J J (fun w0=>?_))
 refine Z3 J (Zz (n:=1) (m:=1) J J J ?_)
 first | refine oLd rfl ZP rfl rfl ?_ | refine oLdI rfl ZP (by assumption) rfl rfl ?_
 refine Z3 J (Zz (n:=1) (m:=1) J J J ?_)
 first | refine oLd rfl ZP rfl rfl ?_ | refine oLdI rfl ZP (by assumption) rfl rfl ?_
 refine Zx J J (oHead (Zp J (oNilT (Za (Zl (Zc (Zw (fi1 J ?_))))))))
 exact ⟨(),trivial,by simp [resVal,ltI,h31],Lh⟩
 refine Zj (Za (Zh (wDraw2 J J [0,4] [1,2,3,5,6,7,8] 9 ZK J J J (fun w0=>?_))))
 refine Z3 J (Zz (n:=0) (m:=0) J J J ?_)
 first | refine oLd rfl ZP rfl rfl ?_ | refine oLdI rfl ZP (by assumption) rfl rfl ?_
 refine Z3 J (Zz (n:=0) (m:=0) J J J ?_)
 first | refine oLd rfl ZP rfl rfl ?_ | refine oLdI rfl ZP (by assumption) rfl rfl ?_
 refine Zx J J (oHead (Zp J (oNilT (Za (Zzh ?_)))))
 exact ⟨(),trivial,by have:=Decidable.not_not.1 h31;simp [resVal,ltI,this],Lh⟩
end Go.Proofs.YtogaiijhicfoaaaGreatQ


/-
  Package queue: a pile's exchange.
-/
namespace Go.Proofs.YtogaiijhicfoaaaGreatQ
set_option maxRecDepth 100000
set_option maxHeartbeats 4000000
open Go.RowKit Go.Proofs.YtogaiijhicfoaaaGreatK

structure POk (s:Pile):Prop where
  nd:s.l.Nodup
  pl:∀ (i b:Nat),s.l[i]?=some b→(s.f b).pl=(i:Int)
  mp:∀ k b,s.m k=some b↔b ∈ s.l∧(s.f b).id=k
  sm:s.l.length≤1000000
def Same (f f':Nat→It):Prop:=∀ b,(f' b).id=(f b).id∧(f' b).key=(f b).key
section
variable {c : Cx} {N : Md c} {M : Me c} {d : Nat} {ty : TypeId} {pos : String} {af : Array Edge} {rest : List Oper} {E : Env} {D : List Deferred} {H H' : List Res} {v : Value} {x y : Operand} {t : TypeId} {S : Nat → Prop} {f : Nat → It}
theorem oStI {b i:Nat}(x':It) (hx:E.op x=some (.pointer (some ⟨b,i,none⟩))) (hy:E.op y=some v) (hv:v.cells=#[v]) (h1:v.oneCell'=true) (hs:(c.P.info? t).map (·.size)=some 1) (hp:Pick H (its S f) H') (hb:S b) (hi:i<3) (he:(itCells (f b)).set i v=itCells x')
 (h:O M.toMd rest E D (its S (fun k=>if k=b then x' else f k) :: H')):O M.toMd (⟨none,.store t x y,ty,pos,af,none⟩ :: rest) E D H:=
 oEffs rfl fun a w ha hw=>by
  have hbb:=(hw.get hp) b hb
  refine ⟨w.setCell ⟨b,i,none⟩ v,its S (fun k=>if k=b then x' else f k) :: H',?_,hw.upd' hp ((Chg.setCell w ⟨b,i,none⟩ v).mono (fun k hk=>by subst hk;exact hb)) ?_ (fun k hk=>.inl hk),h⟩
  · simp [execOp,ha.op hx,ha.op hy,run_store1 hbb (by simp [itCells];omega) hv h1 hs]
  · intro k hk
    by_cases e:k=b
    · subst e
      simp only [if_true]
      rw [set_heap hbb,he]
    · simp only [if_neg e]
      rw [Below.heap_setCell _ _ _ _ (show k≠_ from e)]
      exact (hw.get hp) k hk
end
theorem mem_swp {l:List Nat}{i j:Nat}(hi:i<l.length) (hj:j<l.length):(fun b=>b ∈ l)=(fun b=>b ∈ swp l i j):=by
 funext b;exact propext (swp_perm hi hj).mem_iff.symm

theorem nd_inj {l:List Nat}(h:l.Nodup) {i j b:Nat}(hi:l[i]?=some b) (hj:l[j]?=some b):i=j:=
 (List.getElem?_inj (List.getElem?_eq_some_iff.1 hi).1 h).1 (hi.trans hj.symm)
def swF (f:Nat→It) (a b:Nat) (i j:Int):Nat→It:=fun k=>
  if k=a then { (if a=b then { f b with pl:=i } else f a) with pl:=j } else if k=b then { f b with pl:=i } else f k
theorem swF_same (f:Nat→It) (a b:Nat) (i j:Int):Same f (swF f a b i j):=by
 intro k
 unfold swF
 by_cases h1:k=a
 · subst h1
   by_cases h2:k=b
   · subst h2;simp
   · simp [h2]
 · by_cases h2:k=b
   · subst h2;simp [h1]
   · simp [h1,h2]
theorem swap_ok {A A':Option Addr}{cp mb:Nat}{l:List Nat}{f:Nat→It}{m:Int→Option Nat}(h:POk ⟨A,cp,mb,l,f,m⟩) {i j:Nat}(li:i<l.length) (lj:j<l.length) :
 POk ⟨A',cp,mb,swp l i j,swF f (at_ l i) (at_ l j) i j,m⟩:=by
 obtain ⟨nd,pl,mp,sm⟩:=h
 dsimp only at *
 refine ⟨(swp_perm li lj).nodup_iff.2 nd,fun k b hk=>?_,fun k b=>?_,by show (swp l i j).length≤_;rw [swp_length];exact sm⟩
 · dsimp only at hk ⊢
   rw [swp_get li lj,get_at li,get_at lj] at hk
   unfold swF
   by_cases h1:k=i
   · subst h1
     rw [if_pos rfl] at hk
     obtain rfl:=Option.some.inj hk
     by_cases h2:at_ l j=at_ l k
     · have:=nd_inj nd (get_at lj) (h2 ▸ get_at li)
       subst this
       simp
     · simp [h2]
   · rw [if_neg h1] at hk
     by_cases h2:k=j
     · subst h2
       rw [if_pos rfl] at hk
       obtain rfl:=Option.some.inj hk
       simp
     · rw [if_neg h2] at hk
       have h3:¬ b=at_ l i:=by rintro rfl;exact h1 (nd_inj nd hk (get_at li))
       have h4:¬ b=at_ l j:=by rintro rfl;exact h2 (nd_inj nd hk (get_at lj))
       simp [h3,h4,pl k b hk]
 · show m k=some b↔b ∈ swp l i j∧(swF f (at_ l i) (at_ l j) i j b).id=k
   rw [mp,(swp_perm li lj).mem_iff,(swF_same f _ _ _ _ b).1]

theorem pile_Swap {B:Base}{w:World}{p:Nat}{s:Pile}(hS:St B (pileR p s) w) (hok:POk s) (i j:Nat) (li:i<s.l.length) (lj:j<s.l.length) :
 CW 338 #[ptrV p,.int .i64 (i:Int),.int .i64 (j:Int)] w (Ret B (fun s'=>POk s'∧s'.l=swp s.l i j∧Same s.f s'.f) (fun _=>.tuple #[]) (fun s'=>pileR p s')):=by
 have hi:=get_at li
 have hj:=get_at lj
 obtain ⟨A,cp,mb,l,f,m⟩:=s
 have hok':=fun A'=>swap_ok (A':=A') hok li lj
 obtain ⟨nd,pl,mp,sm⟩:=hok
 unfold pileR at hS
 dsimp only at *
 have hg:((l.set i (at_ l j)).set j (at_ l i))[i]?=_:=swp_get (k:=i) li lj
 have hg':((l.set i (at_ l j)).set j (at_ l i))[j]?=_:=swp_get (k:=j) li lj
 have hlen:((l.set i (at_ l j)).set j (at_ l i)).length=l.length:=swp_length l i j
 have hmem:=mem_swp li lj
 have mi:at_ l i ∈ l:=List.mem_of_getElem? hi
 have mj:at_ l j ∈ l:=List.mem_of_getElem? hj
 refine ZX Tryz.func338 hS ?_
 refine Zh (wDraw2 J J [0,4,5,9,10,14,17,21] [1,2,3,6,7,8,11,12,13,15,16,18,19,20,22,23,24] 25 ZK J J J (fun w0=>?_))
 refine Z3 J (Zz (n:=0) (m:=0) J J J (Zld ?_))
 refine Z3 J (Zz (n:=0) (m:=0) J J J (Zld ?_))
 refine Z3 J (Zz (n:=0) (m:=0) J J J (Zld ?_))
 refine ZR J J ZP ZO J J (fun g21 hg21=>?_)
 first | subst hg21 | (injection hg21 with hg21;injection hg21 with hg21;subst hg21)
 refine ZR1 J ZP ZO J (fun u22 hu22=>?_)
 obtain rfl:=Option.some.inj (hu22.symm.trans hj)
 refine Z3 J (Zz (n:=0) (m:=0) J J J (Zld ?_))
 refine ZR J J ZP ZO J J (fun g28 hg28=>?_)
 first | subst hg28 | (injection hg28 with hg28;injection hg28 with hg28;subst hg28)
 refine ZR1 J ZP ZO J (fun u29 hu29=>?_)
 obtain rfl:=Option.some.inj (hu29.symm.trans hi)
 refine ZR J J ZP ZO J J (fun g30 hg30=>?_)
 first | subst hg30 | (injection hg30 with hg30;injection hg30 with hg30;subst hg30)
 refine oHead ?_
 refine oStR _ J J J J ZP (by first | omega | (simp only [List.length_set];omega)) ?_
 refine ZR J J ZP ZO J J (fun g31 hg31=>?_)
 first | subst hg31 | (injection hg31 with hg31;injection hg31 with hg31;subst hg31)
 refine oStR _ J J J J ZP (by first | omega | (simp only [List.length_set];omega)) ?_
 refine oNilT (Za (wDraw2 J J [0,4,7,11,14,15] [1,2,3,5,6,8,9,10,12,13,16,17] 18 ZK J J J (fun w0=>?_)))
 refine Z3 J (Zz (n:=0) (m:=0) J J J (Zld ?_))
 refine ZR J J ZP ZO J J (fun g37 hg37=>?_)
 first | subst hg37 | (injection hg37 with hg37;injection hg37 with hg37;subst hg37)
 refine ZR1 J ZP ZO J (fun u38 hu38=>?_)
 obtain rfl:u38=at_ l j:=by
  have:=hu38.symm.trans hg;simp at this;rw [hj] at this;simpa using this
 refine Z3 J (Zz (n:=0) (m:=0) J J J (Zld ?_))
 refine ZR J J ZP ZO J J (fun g44 hg44=>?_)
 first | subst hg44 | (injection hg44 with hg44;injection hg44 with hg44;subst hg44)
 refine ZR1 J ZP ZO J (fun u45 hu45=>?_)
 obtain rfl:u45=at_ l i:=by
  have h9:=hu45.symm.trans hg'
  by_cases e:j=i
  · subst e;simpa [hj] using h9
  · simpa [e,hi] using h9
 refine Z3 J (Zz (n:=2) (m:=2) J J J (oHead (oStI { f (at_ l j) with pl:=(i:Int) } J J J J J ZP mj (by decide) J ?_)))
 refine Z3 J (Zz (n:=2) (m:=2) J J J (oStI { (if at_ l i=at_ l j then { f (at_ l j) with pl:=(i:Int) } else f (at_ l i)) with pl:=(j:Int) } J J J J J ZP mi (by decide) J ?_))
 refine oNilT (fin_n ?_)
 refine ⟨rfl,_,ResL.nil,?_⟩
 refine ⟨⟨some ⟨g21,0,none⟩,cp,mb,swp l i j,swF f (at_ l i) (at_ l j) i j,m⟩,⟨hok' _,rfl,swF_same _ _ _ _ _⟩,rfl,?_⟩
 show Leads _ _ [blk p _ [.slice _ (swp l i j).length cp,_],row _ _ _ (.slice _ (swp l i j).length cp) (swp l i j),its (fun b=>b ∈ swp l i j) _,_]
 rw [swp_length,← hmem]
 exact Lh
end Go.Proofs.YtogaiijhicfoaaaGreatQ


/-
  Package queue: a pile's Push and Pop.
-/
namespace Go.Proofs.YtogaiijhicfoaaaGreatQ
set_option maxRecDepth 100000
set_option maxHeartbeats 4000000
open Go.RowKit Go.Proofs.YtogaiijhicfoaaaGreatK

section
variable {B : Base} {w : World} {Φ Φ' Φ'' : List Res} {S S' : Nat → Prop} {f f' : Nat → It} {b : Nat}
theorem St.apart {r s:Res}(h:St B Φ w) (hp:Pick Φ r Φ') (hq:Pick Φ' s Φ'') {k:Nat}(hr:r.fp k):¬ s.fp k:=by
 have:=(h.perm (hp.perm.trans (hq.perm.cons _))).sep
 exact this.2.2.1 s List.mem_cons_self k hr
theorem its_join {cs:List Value}(hp:Pick Φ (its S f) Φ') (hq:Pick Φ' (blk b 183 cs) Φ'') (hS:∀ k,S' k↔S k∨k=b) (hf:∀ k,S k→k≠b→f' k=f k) (hb:cs=itCells (f' b)):Leads B Φ (its S' f' :: Φ''):=fun w h=>by
 have h1:=h.perm (hp.perm.trans (hq.perm.cons _))
 obtain ⟨g1,g2,g3,h2,h3,h4,h5⟩:=h1.sep
 refine ⟨h1.ok,fun k hk=>?_,fun k hk=>?_,fun s hs k hk=>?_,h5⟩
 · rcases (hS k).1 hk with hk | rfl
   · by_cases e:k=b
     · subst e;exact absurd rfl (g3 _ List.mem_cons_self k hk)
     · rw [hf k hk e];exact g1 k hk
   · rw [← hb];exact h2
 · rcases (hS k).1 hk with hk | rfl
   · exact g2 k hk
   · exact h3 k rfl
 · rcases (hS k).1 hk with hk | rfl
   · exact g3 s (List.mem_cons_of_mem _ hs) k hk
   · exact h4 s hs k rfl
theorem its_split (hp:Pick Φ (its S f) Φ') (hb:S b) (hS:∀ k,S' k↔S k∧k≠b):Leads B Φ (its S' f :: blk b 183 (itCells (f b)) :: Φ'):=fun w h=>by
 have h1:=h.perm hp.perm
 obtain ⟨g1,g2,g3,h5⟩:=h1.sep
 refine ⟨h1.ok,fun k hk=>g1 k ((hS k).1 hk).1,fun k hk=>g2 k ((hS k).1 hk).1,fun s hs k hk hsk=>?_,g1 b hb,fun k hk=>?_,fun s hs k hk=>?_,h5⟩
 · rcases List.mem_cons.1 hs with rfl | hs
   · exact ((hS k).1 hk).2 hsk
   · exact g3 s hs k ((hS k).1 hk).1 hsk
 · have:k=b:=hk
   subst this;exact g2 k hb
 · have:k=b:=hk
   subst this;exact g3 s hs k hb
end

def pushF (f:Nat→It) (b:Nat) (x:It):Nat→It:=fun k=>if k=b then x else f k
theorem pile_Push {B:Base}{w:World}{p nb:Nat}{s:Pile}{x:It}(hS:St B (pileR p s++[blk nb 183 (itCells x)]) w) (hok:POk s) (hid:s.m x.id=none) (hl:s.l.length<1000000) :
 CW 337 #[ptrV p,.iface 180 (ptrV nb)] w (Ret B (fun s'=>POk s'∧s'.l=s.l++[nb]∧s'.f=pushF s.f nb { x with pl:=s.l.length }) (fun _=>.tuple #[]) (fun s'=>pileR p s')):=by
 obtain ⟨nd,pl,mp,sm⟩:=hok
 obtain ⟨A,cp,mb,l,f,m⟩:=s
 unfold pileR at hS
 dsimp only [List.cons_append,List.nil_append] at *
 have hnb:nb ∉ l:=fun hm=>St.apart hS ZP ZP (r:=its (· ∈ l) f) (s:=blk nb _ _) hm rfl
 obtain ⟨xi,xk,xp⟩:=x
 unfold itCells at hS
 dsimp only at hid hS
 refine ZX Tryz.func337 hS ?_
 refine Zh (Zi (Zo J (oAssertT J J (Zo J (oExt J ZP ?_)))))
 refine oExt J ZP ?_
 refine Zp J (Zp J (Zn (Za (Zh (Zh (Zi (Zo J (oNotT J (Zn (Za (wCondF J (Zj (Za (Zh (Zi (Zo J (Zo J (Z3 J (Zz (n:=0) (m:=0) J J J (Zld ?_))))))))))))))))))))
 refine Zv J J (Z3 J (Zz (n:=2) (m:=2) J J J (Zst ?_)))
 refine Zn (Za (Zh (Zi (Zo J (Zo J (Z3 J (Zz (n:=0) (m:=0) J J J (Zld ?_))))))))
 refine Zo J (oBuildSlice1 J J J J J ZP J (fun b27=>?_))
 refine oApp1 _ J J J J ZP ZP J ZO J (fun g28 cp28=>?_)
 refine Z3 J (Zz (n:=0) (m:=0) J J J (Zst ?_))
 refine Zn (Za (wDraw2 J J [0,4,8] [1,2,3,5,6,7] 9 ZK J J J (fun w0=>?_)))
 refine Z3 J (Zz (n:=1) (m:=1) J J J (Zld ?_))
 refine Z3 J (Zz (n:=0) (m:=0) J J J (Zld ?_))
 refine oHead (oMapUpd (ev:=ptrV) (u:=nb) (keyE_int .i64) J J J J ZP ?_)
 refine oNilT (fin_n ?_)
 refine ⟨rfl,_,ResL.nil,?_⟩
 refine ⟨⟨some ⟨g28,0,none⟩,cp28,mb,l++[nb],pushF f nb ⟨xi,xk,l.length⟩,fun k=>if k=xi then some nb else m k⟩,⟨⟨?_,?_,?_,?_⟩,rfl,rfl⟩,rfl,?_⟩
 · exact List.nodup_append.2 ⟨nd,by simp,fun a ha b hb=>by simp at hb;subst hb;rintro rfl;exact hnb ha⟩
 · intro i b hb
   dsimp only at hb ⊢
   unfold pushF
   rcases Nat.lt_or_ge i l.length with hi | hi
   · rw [List.getElem?_append_left hi] at hb
     have:¬ b=nb:=by rintro rfl;exact hnb (List.mem_of_getElem? hb)
     rw [if_neg this];exact pl i b hb
   · rw [List.getElem?_append_right hi] at hb
     have h0:i-l.length=0:=by
      have:=(List.getElem?_eq_some_iff.1 hb).1;simp at this;omega
     rw [h0] at hb
     obtain rfl:nb=b:=by simpa using hb
     rw [if_pos rfl]
     show ((l.length:Nat):Int)=i
     omega
 · intro k b
   show (if k=xi then some nb else m k)=some b↔b ∈ l++[nb]∧(pushF f nb ⟨xi,xk,l.length⟩ b).id=k
   unfold pushF
   by_cases hb:b=nb
   · subst hb
     simp only [List.mem_append,List.mem_singleton,or_true,true_and,if_true]
     by_cases hk:k=xi
     · simp [hk]
     · rw [if_neg hk]
       constructor
       · intro h;exact absurd ((mp k b).1 h).1 hnb
       · intro h;exact absurd h.symm hk
   · rw [if_neg hb]
     by_cases hk:k=xi
     · subst hk
       rw [if_pos rfl]
       constructor
       · intro h;exact absurd (Option.some.inj h).symm hb
       · rintro ⟨h1,h2⟩
         have:=(mp k b).2 ⟨by simpa [hb] using h1,h2⟩
         rw [hid] at this;cases this
     · rw [if_neg hk,mp];simp [hb]
 · show (l++[nb]).length≤_
   simp;omega
 · refine (its_join (S':=(· ∈ l++[nb])) (f':=pushF f nb ⟨xi,xk,l.length⟩) ZP ZP (fun k=>by simp) (fun k h1 h2=>by simp [pushF,h2]) (by simp [pushF,itCells])).trans ?_
   show Leads _ _ [blk p _ [.slice _ (l++[nb]).length cp28,_],row _ _ _ (.slice _ (l++[nb]).length cp28) (l++[nb]),its (fun b=>b ∈ l++[nb]) _,_]
   rw [List.length_append]
   exact Lh
end Go.Proofs.YtogaiijhicfoaaaGreatQ


/-
  Package queue: a pile's Pop; container/heap's up and down.
-/
namespace Go.Proofs.YtogaiijhicfoaaaGreatQ
set_option maxRecDepth 100000
set_option maxHeartbeats 4000000
open Go.RowKit Go.Proofs.YtogaiijhicfoaaaGreatK

theorem last_of {l:List Nat}(h:l≠[]):l[l.length-1]?=some (at_ l (l.length-1)):=get_at (by have:=List.length_pos_iff.2 h;omega)
theorem mem_drop {l:List Nat}(nd:l.Nodup) (h:l≠[]) (k:Nat):k ∈ l.take (l.length-1)↔k ∈ l∧k≠at_ l (l.length-1):=by
 have hl:=List.length_pos_iff.2 h
 constructor
 · intro hk
   refine ⟨List.mem_of_mem_take hk,?_⟩
   rintro rfl
   obtain ⟨i,hi⟩:=List.getElem?_of_mem hk
   have hlt:i<l.length-1:=by have:=(List.getElem?_eq_some_iff.1 hi).1;simp at this;omega
   rw [List.getElem?_take,if_pos hlt] at hi
   have:=nd_inj nd hi (last_of h)
   omega
 · rintro ⟨hk,hne⟩
   obtain ⟨i,hi⟩:=List.getElem?_of_mem hk
   have hlt:i<l.length:=(List.getElem?_eq_some_iff.1 hi).1
   have:i≠l.length-1:=by
    rintro rfl
    rw [last_of h] at hi
    exact hne (Option.some.inj hi).symm
   exact List.mem_of_getElem? (i:=i) (by rw [List.getElem?_take,if_pos ZO];exact hi)
theorem pile_Pop {B:Base}{w:World}{p:Nat}{s:Pile}(hS:St B (pileR p s) w) (hok:POk s) (hl:s.l≠[]) :
 CW 336 #[ptrV p] w (Ret B (fun s'=>POk s'∧s'.l=s.l.take (s.l.length-1)∧s'.f=s.f) (fun _=>.iface 180 (ptrV (at_ s.l (s.l.length-1))))
  (fun s'=>blk (at_ s.l (s.l.length-1)) 183 (itCells (s.f (at_ s.l (s.l.length-1)))) :: pileR p s')):=by
 obtain ⟨nd,pl,mp,sm⟩:=hok
 obtain ⟨A,cp,mb,l,f,m⟩:=s
 unfold pileR at hS
 dsimp only at *
 have hl0:=List.length_pos_iff.2 hl
 have hlast:=last_of hl
 have hmem:=mem_drop nd hl
 obtain ⟨n1,hn1⟩:∃ n1,l.length=n1+1:=⟨l.length-1,by omega⟩
 have e1:((l.length:Nat):Int)-1=((l.length-1:Nat):Int):=by omega
 have hx:at_ l (l.length-1) ∈ l:=List.mem_of_getElem? hlast
 generalize hb:at_ l (l.length-1)=xb at *
 refine ZX Tryz.func336 hS ?_
 refine Zh (Zi (Zp J (Zn (Za (Zh (Zi (Zo J (Z3 J (Zz (n:=0) (m:=0) J J J ?_)))))))))
 first | refine oLd rfl ZP rfl rfl ?_ | refine oLdI rfl ZP hx rfl rfl ?_
 refine Zv J J ?_
 first | refine oSub rfl rfl ZO ?_ | refine oSubW rfl rfl ?_
 refine ZS0 (t:=10) (v':=.int .i64 ((l.length-1:Nat):Int)) rfl (by rw [e1]) ?_
 refine Zp J (Zn (Za (Zh (Zi (Zo J (Z3 J (Zz (n:=0) (m:=0) J J J ?_)))))))
 first | refine oLd rfl ZP rfl rfl ?_ | refine oLdI rfl ZP hx rfl rfl ?_
 refine Zo J (ZR J J ZP ZO J J (fun g16 hg16=>?_))
 first | subst hg16 | (injection hg16 with hg16;injection hg16 with hg16;subst hg16)
 refine ZR1 J ZP ZO J (fun u17 hu17=>?_)
 obtain rfl:u17=xb:=by rw [hlast] at hu17;exact (Option.some.inj hu17).symm
 refine Zp J (Zn (Za (Zh (Zi (Zo J (Zo J (Z3 J (Zz (n:=0) (m:=0) J J J ?_))))))))
 first | refine oLd rfl ZP rfl rfl ?_ | refine oLdI rfl ZP hx rfl rfl ?_
 refine Zo J (oSliceTo J J ZO J ZP ?_)
 refine Z3 J (Zz (n:=0) (m:=0) J J J (Zst ?_))
 refine Zn (Za (Zh (wDraw2 J J [0,4] [1,2,3,5,6,7] 8 ZK J J J (fun w0=>?_))))
 refine Z3 J (Zz (n:=1) (m:=1) J J J ?_)
 first | refine oLd rfl ZP rfl rfl ?_ | refine oLdI rfl ZP hx rfl rfl ?_
 refine Z3 J (Zz (n:=0) (m:=0) J J J ?_)
 first | refine oLd rfl ZP rfl rfl ?_ | refine oLdI rfl ZP hx rfl rfl ?_
 refine oHead (oDelete (ev:=ptrV) (keyE_int .i64) J J J ZP ?_)
 refine oNilT (Za (Zh (Zi (Zo J (oIface J J (Zza ?_))))))
 refine ⟨⟨some ⟨g16,0,none⟩,cp,mb,l.take (l.length-1),f,fun k=>if k=(f u17).id then none else m k⟩,⟨⟨?_,?_,?_,?_⟩,rfl,rfl⟩,rfl,?_⟩
 · exact nd.sublist (List.take_sublist _ _)
 · intro i b hb
   dsimp only at hb ⊢
   have hlt:i<l.length-1:=by have:=(List.getElem?_eq_some_iff.1 hb).1;simp at this;omega
   rw [List.getElem?_take,if_pos hlt] at hb
   exact pl i b hb
 · intro k b
   show (if k=(f u17).id then none else m k)=some b↔b ∈ l.take (l.length-1)∧(f b).id=k
   rw [hmem]
   by_cases hk:k=(f u17).id
   · subst hk
     simp only [if_true,reduceCtorEq,false_iff]
     rintro ⟨⟨h1,h2⟩,h3⟩
     have h4:=(mp (f u17).id u17).2 ⟨hx,rfl⟩
     have h5:=(mp (f u17).id b).2 ⟨h1,h3⟩
     exact h2 (Option.some.inj (h5.symm.trans h4))
   · rw [if_neg hk,mp]
     constructor
     · rintro ⟨h1,rfl⟩;exact ⟨⟨h1,by rintro rfl;exact hk rfl⟩,rfl⟩
     · rintro ⟨⟨h1,_⟩,h2⟩;exact ⟨h1,h2⟩
 · show (l.take (l.length-1)).length≤_
   simp;omega
 · refine (its_split (b:=u17) (S':=(· ∈ l.take (l.length-1))) ZP hx hmem).trans ?_
   show Leads _ _ [blk u17 _ _,blk p _ [.slice _ (l.take (l.length-1)).length cp,_],row _ _ _ (.slice _ (l.take (l.length-1)).length cp) (l.take (l.length-1)),_,_]
   rw [List.length_take,Nat.min_eq_left ZO]
   exact Lh
end Go.Proofs.YtogaiijhicfoaaaGreatQ


/-
  container/heap over a pile: up and down.
-/
namespace Go.Proofs.YtogaiijhicfoaaaGreatQ
set_option maxRecDepth 100000
set_option maxHeartbeats 4000000
open Go.RowKit Go.Proofs.YtogaiijhicfoaaaGreatK

def ltB (f:Nat→It) (a b:Nat):Prop:=ltI (f a) (f b)
theorem Same.refl (f:Nat→It):Same f f:=fun _=>⟨rfl,rfl⟩
theorem Same.trans {f g h:Nat→It}(a:Same f g) (b:Same g h):Same f h:=fun k=>⟨(b k).1.trans (a k).1,(b k).2.trans (a k).2⟩
theorem Same.lt {f g:Nat→It}(h:Same f g):ltB g=ltB f:=by
 funext a b;unfold ltB ltI;rw [(h a).1,(h a).2,(h b).1,(h b).2]
theorem lt_asy (f:Nat→It):∀ a b,ltB f a b→¬ ltB f b a:=by intro a b;unfold ltB ltI;omega
theorem lt_tr (f:Nat→It):∀ a b c,¬ ltB f b a→¬ ltB f c b→¬ ltB f c a:=by intro a b c;unfold ltB ltI;omega
theorem lt_ir (f:Nat→It):∀ a,¬ ltB f a a:=by intro a;unfold ltB ltI;omega
abbrev pileI (p:Nat):Value:=.iface 173 (ptrV p)
theorem swp_fun {l:List Nat}{i j:Nat}(hi:i<l.length) (hj:j<l.length):at_ (swp l i j)=sw (at_ l) i j:=funext (swp_at hi hj)
theorem half (j:Nat):((j:Int)-1).tdiv 2=(((j-1) / 2:Nat):Int):=by
 rcases Nat.eq_zero_or_pos j with rfl | h
 · rfl
 · rw [show (j:Int)-1=((j-1:Nat):Int) by omega,Int.tdiv_eq_ediv_of_nonneg ZO];omega

theorem heap_up {B:Base}{w:World}{p:Nat}{s:Pile}(hS:St B (pileR p s) w) (hok:POk s) (n:Nat) (hn:n≤s.l.length) (j:Nat) (hj:j<n) (hup:UpInv (ltB s.f) (at_ s.l) n j) :
 CW 200 #[pileI p,.int .i64 (j:Int)] w (Ret B (fun s'=>POk s'∧s'.l.Perm s.l∧Same s.f s'.f∧(∀ k,n≤k→at_ s'.l k=at_ s.l k)∧HeapN (ltB s.f) (at_ s'.l) n) (fun _=>.tuple #[]) (fun s'=>pileR p s')):=by
 have hm:=hok.sm
 refine ZX Tryz.func200 hS ?_
 refine Zk (wLoop (ι:=Pile×Nat) (fun q=>[(0,pileI p),(1,.int .i64 (q.2:Int))]) (fun q=>pileR p q.1) (fun q=>POk q.1∧q.1.l.Perm s.l∧Same s.f q.1.f∧(∀ k,n≤k→at_ q.1.l k=at_ s.l k)∧UpInv (ltB s.f) (at_ q.1.l) n q.2∧q.2<n) (fun q=>q.2) (s,j) ?_ cv Lh ?_)
 exact ⟨hok,.refl _,Same.refl _,fun _ _=>rfl,hup,hj⟩
 rintro ⟨s1,j1⟩ ⟨hok1,hpm,hsm,hout,hup1,hj1⟩
 dsimp only at hok1 hpm hsm hout hup1 hj1
 have hl1:=hpm.length_eq
 have hh:=half j1
 try dsimp only
 refine Zk (Zh (Zi (Zo J ?_)))
 first | refine oSub rfl rfl ZO ?_ | refine oSubW rfl rfl ?_
 refine oQuo J J ZO ?_
 refine ZS0 (t:=7) (v':=.int .i64 (((j1-1) / 2:Nat):Int)) rfl (by rw [hh]) ?_
 refine Zp J (Zn (Za (Zh (Zh (Zi (Zo J (Zo J (Zy J J (Zo J (ZS (ZT 11) (fun h11=>?_) (fun h11=>?_)))))))))))
 refine Zr J J J J (Zr J J J J (Zr J J J J (Zr J J J J (Zr J J J J (Zt J J (Zn (Za (wCondT J (Zm (Zb (Zg J (Zb (Ze (fin_n ?_))))))))))))))
 refine ⟨rfl,_,ResL.nil,?_⟩
 exact ⟨s1,⟨hok1,hpm,hsm,hout,up_end hup1 (.inl ZO)⟩,rfl,Lh⟩
 refine Zq J J (Zo J (Zq J J (Zo J (Zq J J (Zo J (Zq J J ?_))))))
 (refine oInvoke rfl rfl (fun _=>by kernel_rfl) (g:=335) ZK (fun w hS=>frame hS ZQ (fun B' hB hS'=>pile_Less hS' j1 ((j1-1) / 2) (at_ s1.l j1) (at_ s1.l ((j1-1) / 2)) (get_at ZO) (get_at ZO))) ?_;rintro ⟨⟩ -)
 refine Zq J J (Zno ?_)
 refine Zu J J (Zn (Za (wC (fun h17=>?_) (fun h17=>?_))))
 refine Zm (Zb (Zg J (Zb (Ze (fin_n ?_)))))
 refine ⟨rfl,_,ResL.nil,?_⟩
 exact ⟨s1,⟨hok1,hpm,hsm,hout,up_end hup1 (.inr (by rw [← hsm.lt];exact h17))⟩,rfl,Lh⟩
 have hlt:ltB s1.f (at_ s1.l j1) (at_ s1.l ((j1-1) / 2)):=Classical.not_not.1 h17
 refine Zj (Za (Zzv ?_))
 (refine oInvoke rfl rfl (fun _=>by kernel_rfl) (g:=338) ZK (fun w hS=>frame hS ZQ (fun B' hB hS'=>pile_Swap hS' hok1 ((j1-1) / 2) j1 ZO ZO)) ?_;rintro s2 ⟨hok2,hl2,hsm2⟩)
 refine Zn (Za (Zi (Zo J (Zp J (Zn (Zd (Za ?_)))))))
 exact ⟨rfl,(s2,(j1-1) / 2),⟨hok2,by rw [hl2];exact (swp_perm ZO ZO).trans hpm,hsm.trans hsm2,fun k hk=>by rw [hl2,swp_at ZO ZO,sw,if_neg ZO,if_neg ZO];exact hout k hk,by rw [hl2,swp_fun ZO ZO];exact up_step (lt_asy _) (lt_tr _) hup1 ZO hj1 (hsm.lt ▸ hlt),by show (j1-1) / 2<_;omega⟩,by show (j1-1) / 2<j1;omega,cv,Lh⟩
theorem kids {i k:Nat}(h0:0<k) (h:(k-1) / 2=i):k=2 * i+1∨k=2 * i+2:=by omega
theorem heap_down {B:Base}{w:World}{p:Nat}{s:Pile}(hS:St B (pileR p s) w) (hok:POk s) (i n:Nat) (hn:n≤s.l.length) (hi:i≤n) (hd:DownInv (ltB s.f) (at_ s.l) n i i) :
 CW 202 #[pileI p,.int .i64 (i:Int),.int .i64 (n:Int)] w
  (Ret B (fun q:Pile×Nat=>POk q.1∧q.1.l.Perm s.l∧Same s.f q.1.f∧(∀ k,n≤k→at_ q.1.l k=at_ s.l k)∧i≤q.2∧(i<q.2∨q.2=0→HeapN (ltB s.f) (at_ q.1.l) n)∧UpInv (ltB s.f) (at_ q.1.l) n q.2)
   (fun q=>.bool (decide ((i:Int)<q.2))) (fun q=>pileR p q.1)):=by
 have hm:=hok.sm
 refine ZX Tryz.func202 hS ?_
 refine Zh (Zi (Zp J (Zn (Za (Zh (Zi (Zo J (Zp J (Zn (Za (Zh (Zk (wLoop (ι:=Pile×Nat) (fun q=>[(0,pileI p),(1,.int .i64 (i:Int)),(2,.int .i64 (n:Int)),(7,.int .i64 (q.2:Int))]) (fun q=>pileR p q.1) (fun q=>POk q.1∧q.1.l.Perm s.l∧Same s.f q.1.f∧(∀ k,n≤k→at_ q.1.l k=at_ s.l k)∧DownInv (ltB s.f) (at_ q.1.l) n q.2 i∧q.2≤n) (fun q=>n-q.2) (s,i) ?_ cv Lh ?_)))))))))))))
 exact ⟨hok,.refl _,Same.refl _,fun _ _=>rfl,hd,hi⟩
 rintro ⟨s1,i1⟩ ⟨hok1,hpm,hsm,hout,hd1,hi1⟩
 dsimp only at hok1 hpm hsm hout hd1 hi1
 have hl1:=hpm.length_eq
 try dsimp only
 refine Zk (Zh (Zi (Zo J ?_)))
 first | refine oMul rfl rfl ZO ?_ | refine oMulW rfl rfl ?_
 first | refine oAdd rfl rfl ZO ?_ | refine oAddW rfl rfl ?_
 refine ZS0 (t:=14) (v':=.int .i64 ((2 * i1+1:Nat):Int)) J (by simp) ?_
 refine Zp J (Zn (Za (Zh (Zh (Zi (Zo J (Zo J (Z2 J J (Zo J (ZS (ZT 18) (fun h18=>?_) (fun h18=>?_)))))))))))
 refine Zr J J J J (Zr J J J J (Zt J J (Zn (Za (wCondT J (Zm (Zb (Zg J (Zb (Ze (Za (Zh (Zi (Zo J (Zo J (Z1 J J (Zza ?_)))))))))))))))))
 exact ⟨(s1,i1),⟨hok1,hpm,hsm,hout,hd1.2.2.2,down_end hd1 (fun k k0 kn kp=>by omega)⟩,rfl,Lh⟩
 refine Zq J J (Zo J (Zq J J (Zx J J (Zu J J (Zn (Za (wC (fun h21=>?_) (fun h21=>?_))))))))
 omega
 refine Zj (Za (Zh (Zi (Zo J (Zp J (Zn (Za (Zh (Zh (Zi (Zo J ?_)))))))))))
 first | refine oAdd rfl rfl ZO ?_ | refine oAddW rfl rfl ?_
 refine ZS0 (t:=24) (v':=.int .i64 ((2 * i1+2:Nat):Int)) J (by simp;try omega) ?_
 refine Zp J (Zn (Za (Zh (Zi (Zo J (Zo J (Zx J J (Zo J (ZS (ZT 28) (fun h28=>?_) (fun h28=>?_))))))))))
 refine Zq J J (Zo J (Zq J J (Zo J (Zq J J (Zo J (Zq J J ?_))))))
 (refine oInvoke rfl rfl (fun _=>by kernel_rfl) (g:=335) ZK (fun w hS=>frame hS ZQ (fun B' hB hS'=>pile_Less hS' _ _ (at_ s1.l _) (at_ s1.l _) (get_at ZO) (get_at ZO))) ?_;rintro ⟨⟩ -)
 refine Zt J J (Zn (Za (wC (fun h33=>?_) (fun h33=>?_))))
 have hs:∀ k,0<k→k<n→(k-1) / 2=i1→¬ ltB s.f (at_ s1.l k) (at_ s1.l (2 * i1+2)):=fun k k0 kn kp=>by
  rw [← hsm.lt]
  rcases kids k0 kp with rfl | rfl
  · exact lt_asy _ _ _ h33
  · exact lt_ir _ _
 refine Zi (Zo J (Zp J (Zn (Za (Zh (Zzv ?_))))))
 (refine oInvoke rfl rfl (fun _=>by kernel_rfl) (g:=335) ZK (fun w hS=>frame hS ZQ (fun B' hB hS'=>pile_Less hS' _ i1 (at_ s1.l _) (at_ s1.l i1) (get_at ZO) (get_at ZO))) ?_;rintro ⟨⟩ -)
 refine Zno ?_
 refine Zn (Za (wC (fun h39=>?_) (fun h39=>?_)))
 refine Zm (Zb (Zg J (Zb (Ze (Za (Zh (Zi (Zo J (Zo J (Z1 J J (Zza ?_)))))))))))
 exact ⟨(s1,i1),⟨hok1,hpm,hsm,hout,hd1.2.2.2,down_end hd1 (fun k k0 kn kp=>lt_tr _ _ _ _ (by rw [← hsm.lt];exact h39) (hs k k0 kn kp))⟩,rfl,Lh⟩
 refine Zj (Za (Zzv ?_))
 (refine oInvoke rfl rfl (fun _=>by kernel_rfl) (g:=338) ZK (fun w hS=>frame hS ZQ (fun B' hB hS'=>pile_Swap hS' hok1 i1 _ ZO ZO)) ?_;rintro s2 ⟨hok2,hl2,hsm2⟩)
 refine Zn (Za (Zi (Zo J (Zp J (Zn (Zd (Za ?_)))))))
 exact ⟨rfl,(s2,_),⟨hok2,by rw [hl2];exact (swp_perm ZO ZO).trans hpm,hsm.trans hsm2,fun k hk=>by rw [hl2,swp_at ZO ZO,sw,if_neg ZO,if_neg ZO];exact hout k hk,by rw [hl2,swp_fun ZO ZO];exact down_step (lt_asy _) hd1 ZO ZO ZO hs (by rw [← hsm.lt];exact Classical.not_not.1 h39),by show _≤n;omega⟩,by show n-_<n-i1;omega,cv,Lh⟩
 have hs:∀ k,0<k→k<n→(k-1) / 2=i1→¬ ltB s.f (at_ s1.l k) (at_ s1.l (2 * i1+1)):=fun k k0 kn kp=>by
  rw [← hsm.lt]
  rcases kids k0 kp with rfl | rfl
  · exact lt_ir _ _
  · exact h33
 refine Zj (Za (Zh (Zzv ?_)))
 (refine oInvoke rfl rfl (fun _=>by kernel_rfl) (g:=335) ZK (fun w hS=>frame hS ZQ (fun B' hB hS'=>pile_Less hS' _ i1 (at_ s1.l _) (at_ s1.l i1) (get_at ZO) (get_at ZO))) ?_;rintro ⟨⟩ -)
 refine Zno ?_
 refine Zn (Za (wC (fun h39=>?_) (fun h39=>?_)))
 refine Zm (Zb (Zg J (Zb (Ze (Za (Zh (Zi (Zo J (Zo J (Z1 J J (Zza ?_)))))))))))
 exact ⟨(s1,i1),⟨hok1,hpm,hsm,hout,hd1.2.2.2,down_end hd1 (fun k k0 kn kp=>lt_tr _ _ _ _ (by rw [← hsm.lt];exact h39) (hs k k0 kn kp))⟩,rfl,Lh⟩
 refine Zj (Za (Zzv ?_))
 (refine oInvoke rfl rfl (fun _=>by kernel_rfl) (g:=338) ZK (fun w hS=>frame hS ZQ (fun B' hB hS'=>pile_Swap hS' hok1 i1 _ ZO ZO)) ?_;rintro s2 ⟨hok2,hl2,hsm2⟩)
 refine Zn (Za (Zi (Zo J (Zp J (Zn (Zd (Za ?_)))))))
 exact ⟨rfl,(s2,_),⟨hok2,by rw [hl2];exact (swp_perm ZO ZO).trans hpm,hsm.trans hsm2,fun k hk=>by rw [hl2,swp_at ZO ZO,sw,if_neg ZO,if_neg ZO];exact hout k hk,by rw [hl2,swp_fun ZO ZO];exact down_step (lt_asy _) hd1 ZO ZO ZO hs (by rw [← hsm.lt];exact Classical.not_not.1 h39),by show _≤n;omega⟩,by show n-_<n-i1;omega,cv,Lh⟩
 have hs:∀ k,0<k→k<n→(k-1) / 2=i1→¬ ltB s.f (at_ s1.l k) (at_ s1.l (2 * i1+1)):=fun k k0 kn kp=>by
  rcases kids k0 kp with rfl | rfl
  · exact lt_ir _ _
  · omega
 refine Zr J J J J (Zr J J J J (Zr J J J J (Zr J J J J (Zu J J (Zn (Za (wCondF J (Zj (Za (Zh (Zzv ?_)))))))))))
 (refine oInvoke rfl rfl (fun _=>by kernel_rfl) (g:=335) ZK (fun w hS=>frame hS ZQ (fun B' hB hS'=>pile_Less hS' _ i1 (at_ s1.l _) (at_ s1.l i1) (get_at ZO) (get_at ZO))) ?_;rintro ⟨⟩ -)
 refine Zno ?_
 refine Zn (Za (wC (fun h39=>?_) (fun h39=>?_)))
 refine Zm (Zb (Zg J (Zb (Ze (Za (Zh (Zi (Zo J (Zo J (Z1 J J (Zza ?_)))))))))))
 exact ⟨(s1,i1),⟨hok1,hpm,hsm,hout,hd1.2.2.2,down_end hd1 (fun k k0 kn kp=>lt_tr _ _ _ _ (by rw [← hsm.lt];exact h39) (hs k k0 kn kp))⟩,rfl,Lh⟩
 refine Zj (Za (Zzv ?_))
 (refine oInvoke rfl rfl (fun _=>by kernel_rfl) (g:=338) ZK (fun w hS=>frame hS ZQ (fun B' hB hS'=>pile_Swap hS' hok1 i1 _ ZO ZO)) ?_;rintro s2 ⟨hok2,hl2,hsm2⟩)
 refine Zn (Za (Zi (Zo J (Zp J (Zn (Zd (Za ?_)))))))
 exact ⟨rfl,(s2,_),⟨hok2,by rw [hl2];exact (swp_perm ZO ZO).trans hpm,hsm.trans hsm2,fun k hk=>by rw [hl2,swp_at ZO ZO,sw,if_neg ZO,if_neg ZO];exact hout k hk,by rw [hl2,swp_fun ZO ZO];exact down_step (lt_asy _) hd1 ZO ZO ZO hs (by rw [← hsm.lt];exact Classical.not_not.1 h39),by show _≤n;omega⟩,by show n-_<n-i1;omega,cv,Lh⟩
end Go.Proofs.YtogaiijhicfoaaaGreatQ


/-
  container/heap over a pile: Push, Pop, Remove.
-/
namespace Go.Proofs.YtogaiijhicfoaaaGreatQ
set_option maxRecDepth 100000
set_option maxHeartbeats 4000000
open Go.RowKit Go.Proofs.YtogaiijhicfoaaaGreatK

def vw (s:Pile):List (Int×Int):=s.l.map fun b=>((s.f b).id,(s.f b).key)
theorem vw_perm {s t:Pile}(h:t.l.Perm s.l) (hf:Same s.f t.f):(vw t).Perm (vw s):=by
 unfold vw
 have:t.l.map (fun b=>((t.f b).id,(t.f b).key))=t.l.map (fun b=>((s.f b).id,(s.f b).key)):=List.map_congr_left (fun b _=>by rw [(hf b).1,(hf b).2])
 rw [this];exact h.map _
def Heap (s:Pile):Prop:=HeapN (ltB s.f) (at_ s.l) s.l.length
theorem at_app {l:List Nat}{k b:Nat} : at_ (l++[b]) k=if k<l.length then at_ l k else if k=l.length then b else 0:=by
 unfold at_
 simp only [List.getD_eq_getElem?_getD,List.getElem?_append]
 by_cases h:k<l.length
 · simp [h]
 · by_cases e:k=l.length
   · simp [h,e]
   · simp [h,e,show k-l.length≠0 by omega]
theorem at_mem {l:List Nat}{k:Nat}(h:k<l.length):at_ l k ∈ l:=List.mem_of_getElem? (get_at h)
theorem push_up {s s':Pile}{nb:Nat}{x:It}(h:Heap s) (hl:s'.l=s.l++[nb]) (hf:s'.f=pushF s.f nb x) (hok:POk s'):UpInv (ltB s'.f) (at_ s'.l) s'.l.length s.l.length:=by
 have hnb:nb ∉ s.l:=by
  have:=hok.nd
  rw [hl] at this
  intro hm
  exact (List.nodup_append.1 this).2.2 nb hm nb (by simp) rfl
 have hlen:s'.l.length=s.l.length+1:=by rw [hl];simp
 have key:∀ k,k<s.l.length→at_ s'.l k=at_ s.l k∧s'.f (at_ s.l k)=s.f (at_ s.l k):=fun k hk=>⟨by rw [hl,at_app,if_pos hk],by
  rw [hf];unfold pushF
  rw [if_neg (by rintro e;exact hnb (e ▸ at_mem hk))]⟩
 refine ⟨fun k k0 kn kj=>?_,fun k k0 kn kp _=>by omega⟩
 have h1:=h k k0 ZO
 unfold ltB at h1 ⊢
 rw [(key k ZO).1,(key ((k-1) / 2) ZO).1,(key k ZO).2,(key ((k-1) / 2) ZO).2]
 exact h1
theorem push_vw {s s':Pile}{nb:Nat}{x:It}(hl:s'.l=s.l++[nb]) (hf:s'.f=pushF s.f nb x) (hok:POk s'):vw s'=vw s++[(x.id,x.key)]:=by
 have hnb:nb ∉ s.l:=by
  have:=hok.nd
  rw [hl] at this
  intro hm
  exact (List.nodup_append.1 this).2.2 nb hm nb (by simp) rfl
 unfold vw
 rw [hl,hf,List.map_append]
 congr 1
 · exact List.map_congr_left (fun b hb=>by unfold pushF;rw [if_neg (by rintro rfl;exact hnb hb)])
 · simp [pushF]

theorem heap_Push {B:Base}{w:World}{p nb:Nat}{s:Pile}{x:It}(hS:St B (pileR p s++[blk nb 183 (itCells x)]) w) (hok:POk s) (hh:Heap s) (hid:s.m x.id=none) (hl:s.l.length<1000000) :
 CW 165 #[pileI p,.iface 180 (ptrV nb)] w (Ret B (fun s'=>POk s'∧(vw s').Perm (vw s++[(x.id,x.key)])∧Heap s') (fun _=>.tuple #[]) (fun s'=>pileR p s')):=by
 refine ZX Tryz.func165 hS ?_
 refine Zh (Zi (Zo J (Zo J ?_)))
 (refine oInvoke rfl rfl (fun _=>by kernel_rfl) (g:=337) ZK (fun w hS=>frame hS ZQ (fun B' hB hS'=>pile_Push hS' hok hid hl)) ?_;rintro s1 ⟨hok1,hl1,hf1⟩)
 have hv1:=push_vw hl1 hf1 hok1
 have hu1:=push_up hh hl1 hf1 hok1
 have hn1:s1.l.length=s.l.length+1:=by rw [hl1];simp
 have hm1:=hok1.sm
 refine Zn (Za (Zi (Zo J (Zo J ?_))))
 (refine oInvoke rfl rfl (fun _=>by kernel_rfl) (g:=201) ZK (fun w hS=>frame hS ZQ (fun B' hB hS'=>pile_Len hS')) ?_;rintro ⟨⟩ -)
 first | refine oSub rfl rfl ZO ?_ | refine oSubW rfl rfl ?_
 refine ZS0 (t:=10) (v':=.int .i64 ((s.l.length:Nat):Int)) rfl (by rw [hn1];simp) ?_
 (refine ZC0 rfl ZK (fun w hS=>frame hS ZQ (fun B' hB hS'=>heap_up hS' hok1 _ (Nat.le_refl _) s.l.length ZO hu1)) ?_;rintro s2 ⟨hok2,hp2,hs2,_,hh2⟩)
 refine Zn (fin_n ?_)
 refine ⟨rfl,_,ResL.nil,?_⟩
 exact ⟨s2,⟨hok2,hv1 ▸ vw_perm hp2 hs2,by unfold Heap;rw [hs2.lt,hp2.length_eq];exact hh2⟩,rfl,Lh⟩

theorem pop_vw {s s':Pile}(hl:s.l≠[]) (hl':s'.l=s.l.take (s.l.length-1)) (hf:s'.f=s.f):vw s=vw s'++[((s.f (at_ s.l (s.l.length-1))).id,(s.f (at_ s.l (s.l.length-1))).key)]:=by
  have h0:=List.length_pos_iff.2 hl
  have:s.l=s.l.take (s.l.length-1)++[at_ s.l (s.l.length-1)]:=by
    have h1:=List.take_append_drop (s.l.length-1) s.l
    have h2:s.l.drop (s.l.length-1)=[at_ s.l (s.l.length-1)]:=by
      rw [List.drop_eq_getElem_cons ZO,List.drop_of_length_le ZO]
      have:=last_of hl
      rw [List.getElem?_eq_getElem ZO] at this
      rw [Option.some.inj this]
    rw [h2] at h1;exact h1.symm
  unfold vw
  rw [hl',hf]
  conv=>lhs;rw [this]
  rw [List.map_append];rfl
theorem pop_heap {s s':Pile}{g:Nat→It}(hs:Same g s.f) (hl':s'.l=s.l.take (s.l.length-1)) (hf:s'.f=s.f) (h:HeapN (ltB g) (at_ s.l) (s.l.length-1)):Heap s':=by
 unfold Heap
 rw [hf,hs.lt,hl',List.length_take,Nat.min_eq_left ZO]
 exact heap_congr h (fun k hk=>by unfold at_;rw [List.getD_eq_getElem?_getD,List.getElem?_take,if_pos hk,List.getD_eq_getElem?_getD])

theorem heap_Pop {B:Base}{w:World}{p:Nat}{s:Pile}(hS:St B (pileR p s) w) (hok:POk s) (hh:Heap s) (hl:s.l≠[]) :
 CW 168 #[pileI p] w (Ret B (fun q:Pile×Nat×It=>POk q.1∧Heap q.1∧(vw s).Perm ((q.2.2.id,q.2.2.key) :: vw q.1)∧(∀ k,k<s.l.length→¬ ltI (s.f (at_ s.l k)) q.2.2))
  (fun q=>.iface 180 (ptrV q.2.1)) (fun q=>blk q.2.1 183 (itCells q.2.2) :: pileR p q.1)):=by
 have hm:=hok.sm
 have h0:=List.length_pos_iff.2 hl
 refine ZX Tryz.func168 hS ?_
 refine Zh (Zi (Zp J (Zn (Zzn ?_))))
 (refine oInvoke rfl rfl (fun _=>by kernel_rfl) (g:=201) ZK (fun w hS=>frame hS ZQ (fun B' hB hS'=>pile_Len hS')) ?_;rintro ⟨⟩ -)
 first | refine oSub rfl rfl ZO ?_ | refine oSubW rfl rfl ?_
 refine ZS0 (t:=6) (v':=.int .i64 ((s.l.length-1:Nat):Int)) J (by congr 1;omega) ?_
 refine Zp J (Zn (Za (Zzu ?_)))
 (refine oInvoke rfl rfl (fun _=>by kernel_rfl) (g:=338) ZK (fun w hS=>frame hS ZQ (fun B' hB hS'=>pile_Swap hS' hok 0 (s.l.length-1) h0 ZO)) ?_;rintro s1 ⟨hok1,hl1,hs1⟩)
 have hn1:s1.l.length=s.l.length:=by rw [hl1,swp_length]
 have hd1:DownInv (ltB s1.f) (at_ s1.l) (s.l.length-1) 0 0:=by
  rw [hs1.lt]
  refine heap_at (lt_tr _) hh ZO h0 (fun k kn k0=>?_)
  rw [hl1,swp_at h0 ZO,sw,if_neg k0,if_neg ZO]
 refine Zn (Za (Zzu ?_))
 (refine ZC0 rfl ZK (fun w hS=>frame hS ZQ (fun B' hB hS'=>heap_down hS' hok1 0 (s.l.length-1) ZO ZO hd1)) ?_;rintro ⟨s2,i2⟩ ⟨hok2,hp2,hs2,ho2,_,hh2,_⟩)
 dsimp only at hok2 hp2 hs2 ho2 hh2
 have hn2:s2.l.length=s.l.length:=by rw [hp2.length_eq,hn1]
 have hne2:s2.l≠[]:=by intro e;rw [e] at hn2;simp at hn2;omega
 have hx2:at_ s2.l (s2.l.length-1)=at_ s.l 0:=by
  rw [hn2,ho2 _ (Nat.le_refl _),hl1,swp_at h0 ZO,sw]
  by_cases e:s.l.length-1=0
  · rw [if_pos e,e]
  · rw [if_neg e,if_pos rfl]
 refine Zn (Zzn ?_)
 (refine oInvoke rfl rfl (fun _=>by kernel_rfl) (g:=336) ZK (fun w hS=>frame hS ZQ (fun B' hB hS'=>pile_Pop hS' hok2 hne2)) ?_;rintro s3 ⟨hok3,hl3,hf3⟩)
 refine Zp J (Zzx ?_)
 refine ⟨(s3,_,s2.f (at_ s2.l (s2.l.length-1))),⟨hok3,pop_heap (hs2) hl3 hf3 (by rw [hn2];exact hh2 ZO),?_,fun k hk=>?_⟩,rfl,Lh⟩
 · have e1:=pop_vw hne2 hl3 hf3
   have e2:=vw_perm hp2 hs2
   have e3:(vw s1).Perm (vw s):=vw_perm (hl1 ▸ swp_perm h0 ZO) hs1
   exact (e3.symm.trans (e2.symm.trans (e1 ▸ List.perm_append_singleton _ _)))
 · have h4:=heap_least (lt_tr _) (lt_ir _) hh k hk
   unfold ltB at h4
   rw [hx2]
   have e5:=(hs1.trans hs2) (at_ s.l 0)
   unfold ltI at h4 ⊢
   rw [e5.1,e5.2];exact h4

end Go.Proofs.YtogaiijhicfoaaaGreatQ


/-
  Package queue: queues, as sorted lists of ids and keys.
-/
namespace Go.Proofs.YtogaiijhicfoaaaGreatQ
set_option maxRecDepth 100000
set_option maxHeartbeats 4000000
open Go.RowKit Go.Proofs.YtogaiijhicfoaaaGreatK

def lt2 (a b:Int×Int):Prop:=a.2<b.2∨a.2=b.2∧a.1<b.1
instance (a b:Int×Int):Decidable (lt2 a b):=by unfold lt2;infer_instance
def Sorted (W:List (Int×Int)):Prop:=W.Pairwise lt2
structure QOk (s:Pile) (W:List (Int×Int)):Prop where
  ok:POk s
  heap:Heap s
  perm:(vw s).Perm W
  sorted:Sorted W
def queueR (q p:Nat) (s:Pile):List Res:=blk q 179 [ptrV p] :: pileR p s
def qhas (W:List (Int×Int)) (id:Int):Bool:=W.any fun x=>x.1 == id
def qins (x:Int×Int):List (Int×Int)→List (Int×Int)
  | []=>[x]
  | y :: W=>if lt2 x y then x :: y :: W else y :: qins x W
def hd1:List (Int×Int)→Int
  | []=>0
  | x :: _=>x.1
def hd2:List (Int×Int)→Int
  | []=>0
  | x :: _=>x.2
def hd3:List (Int×Int)→Bool
  | []=>false
  | _ :: _=>true
theorem qins_perm (x:Int×Int) (W:List (Int×Int)):(qins x W).Perm (x :: W):=by
 induction W with
 | nil=>exact .refl _
 | cons y W ih=>
  simp only [qins]
  split
  · exact .refl _
  · exact (ih.cons y).trans (.swap _ _ _)
theorem lt2_tr {a b c:Int×Int}(h:lt2 a b) (k:lt2 b c):lt2 a c:=by unfold lt2 at *;omega
theorem qins_sorted {x:Int×Int}{W:List (Int×Int)}(h:Sorted W) (hx:∀ y ∈ W,y.1≠x.1):Sorted (qins x W):=by
 induction W with
 | nil=>exact List.pairwise_singleton _ _
 | cons y W ih=>
  unfold Sorted at h
  rw [List.pairwise_cons] at h
  simp only [qins]
  split
  · rename_i hl
    refine List.pairwise_cons.2 ⟨fun z hz=>?_,List.pairwise_cons.2 h⟩
    rcases List.mem_cons.1 hz with rfl | hz
    · exact hl
    · exact lt2_tr hl (h.1 z hz)
  · rename_i hl
    refine List.pairwise_cons.2 ⟨fun z hz=>?_,ih h.2 (fun y hy=>hx y (List.mem_cons_of_mem _ hy))⟩
    rcases List.mem_cons.1 ((qins_perm x W).mem_iff.1 hz) with rfl | hz
    · have:=hx y List.mem_cons_self
      unfold lt2 at *;omega
    · exact h.1 z hz
theorem Sorted.filter {W:List (Int×Int)}(h:Sorted W) (p:Int×Int→Bool):Sorted (W.filter p):=List.Pairwise.sublist List.filter_sublist h
theorem nodup_map {α β:Type}(f:α→β) {W:List α}(h:W.Nodup) (hi:∀ a ∈ W,∀ b ∈ W,f a=f b→a=b):(W.map f).Nodup:=by
 unfold List.Nodup at *
 rw [List.pairwise_map]
 exact h.imp_of_mem (fun ha hb hne e=>hne (hi _ ha _ hb e))
theorem mem_vw {s:Pile}{x:Int×Int} : x ∈ vw s↔∃ b ∈ s.l,(s.f b).id=x.1∧(s.f b).key=x.2:=by
 unfold vw
 rw [List.mem_map]
 constructor
 · rintro ⟨b,hb,rfl⟩;exact ⟨b,hb,rfl,rfl⟩
 · rintro ⟨b,hb,h1,h2⟩;exact ⟨b,hb,by rw [h1,h2]⟩
theorem has_iff {s:Pile}{W:List (Int×Int)}(h:QOk s W) (id:Int):qhas W id=(s.m id).isSome:=by
 rw [Bool.eq_iff_iff,Option.isSome_iff_exists,qhas,List.any_eq_true]
 constructor
 · rintro ⟨x,hx,e⟩
   obtain ⟨b,hb,h1,_⟩:=mem_vw.1 (h.perm.mem_iff.2 hx)
   exact ⟨b,(h.ok.mp id b).2 ⟨hb,by rw [h1];simpa using e⟩⟩
 · rintro ⟨b,hb⟩
   obtain ⟨h1,h2⟩:=(h.ok.mp id b).1 hb
   exact ⟨((s.f b).id,(s.f b).key),h.perm.mem_iff.1 (mem_vw.2 ⟨b,h1,rfl,rfl⟩),by simpa using h2⟩
theorem len_eq {s:Pile}{W:List (Int×Int)}(h:QOk s W):s.l.length=W.length:=by rw [← h.perm.length_eq];simp [vw]
theorem put_ok {s s':Pile}{W:List (Int×Int)}{id key:Int}(h:QOk s W) (hid:s.m id=none) (hok:POk s') (hp:(vw s').Perm (vw s++[(id,key)])) (hh:Heap s'):QOk s' (qins (id,key) W):=by
 refine ⟨hok,hh,?_,qins_sorted h.sorted (fun y hy e=>?_)⟩
 · exact hp.trans ((List.perm_append_singleton _ _).trans ((h.perm.cons _).trans (qins_perm _ _).symm))
 · have h1:=has_iff h id
   rw [hid] at h1
   have:qhas W id=true:=List.any_eq_true.2 ⟨y,hy,by simpa using e⟩
   rw [h1] at this;cases this
theorem take_ok {s s':Pile}{W:List (Int×Int)}{x:It}(h:QOk s W) (hok:POk s') (hh:Heap s') (hp:(vw s).Perm ((x.id,x.key) :: vw s')) (hx:∀ k,k<s.l.length→¬ ltI (s.f (at_ s.l k)) x):∃ W',W=(x.id,x.key) :: W'∧QOk s' W':=by
 have hxs:(x.id,x.key) ∈ W:=h.perm.mem_iff.1 (hp.mem_iff.2 List.mem_cons_self)
 cases hW:W with
 | nil=>rw [hW] at hxs;cases hxs
 | cons y W'=>
  have hs:=h.sorted
  rw [hW] at hs hxs
  have hy:y ∈ vw s:=h.perm.mem_iff.2 (hW ▸ List.mem_cons_self)
  obtain ⟨b,hb,h1,h2⟩:=mem_vw.1 hy
  obtain ⟨k,hk⟩:=List.getElem?_of_mem hb
  have hlt:=hx k (List.getElem?_eq_some_iff.1 hk).1
  rw [at_some hk] at hlt
  have hyx:(x.id,x.key)=y:=by
   rcases List.mem_cons.1 hxs with e | e
   · exact e
   · have:=(List.pairwise_cons.1 hs).1 _ e
     unfold lt2 at this;unfold ltI at hlt;rw [h1,h2] at hlt
     exact absurd this (by simpa using hlt)
  refine ⟨W',by rw [hyx],hok,hh,?_,(List.pairwise_cons.1 hs).2⟩
  have:=hp.symm.trans h.perm
  rw [hW,← hyx] at this
  exact List.Perm.cons_inv this
end Go.Proofs.YtogaiijhicfoaaaGreatQ


/-
  Package queue: New and the methods, over sorted lists.
-/
namespace Go.Proofs.YtogaiijhicfoaaaGreatQ
set_option maxRecDepth 100000
set_option maxHeartbeats 4000000
open Go.RowKit Go.Proofs.YtogaiijhicfoaaaGreatK

theorem live_yes {B:Base}{w:World}{q p:Nat}{s:Pile}(hS:St B (queueR q p s) w) :
 CW 164 #[ptrV q] w (Ret B (fun _:Unit=>True) (fun _=>.bool true) (fun _=>queueR q p s)):=by
 unfold queueR at hS ⊢
 refine ZX Tryz.func164 hS ?_
 refine Zh (Zi (Zp J (Zn (Za (Zh (Zi (Zo J (oNeqP J J J (Zo J (ZS (ZT 5) (fun h5=>?_) (fun h5=>?_)))))))))))
 refine Zq J J (Zo J (Zq J J (Z3 J (Zq J J (Zz (n:=0) (m:=0) J J J (Zzg ?_))))))
 refine Zq J J (oNeqP J J J (Zt J J (Zza ?_)))
 exact ⟨(),trivial,by simp [resVal],Lh⟩
 exact absurd h5 (by simp)
theorem queue_New {B:Base}{w:World}(hS:St B [] w) :
 CW 110 #[] w (Ret B (fun i:Nat×Nat×Pile=>QOk i.2.2 []) (fun i=>ptrV i.1) (fun i=>queueR i.1 i.2.1 i.2.2)):=by
 refine ZX Tryz.func110 hS ?_
 refine Zh (Zi (Zp J (Zn (Za (Zh (Zi (oMakeMap (Value.int .i64) ptrV (fun b1=>?_))))))))
 refine oBuild (Parts.cons J Parts.nil) J J (Built.cons (off:=1) (s:=1) J ZP J ZP Built.nil) ?_
 refine oBox J ZP (fun b3=>?_)
 refine oBuild (Parts.cons J Parts.nil) J J (Built.cons (off:=0) (s:=1) J ZP J ZP Built.nil) ?_
 refine oBox J ZP (fun b5=>?_)
 refine Zp J (Zzx ?_)
 refine ⟨(b5,b3,⟨none,0,b1,[],fun _=>⟨0,0,0⟩,fun _=>none⟩),⟨⟨List.nodup_nil,by simp,by simp,by simp⟩,fun k _ h=>by simp at h,.refl _,List.Pairwise.nil⟩,rfl,?_⟩
 intro w1 h1
 have h2:=h1.nilrow ptrK default 180
 have h3:St B (its (· ∈ ([]:List Nat)) (fun _=>⟨0,0,0⟩) :: _) w1:=h2.add (Chg.refl _ _) (fun b hb=>by simp at hb) (fun k hk=>by have:k ∈ ([]:List Nat):=hk;simp at this)
 exact (Leads.has ZQ) w1 h3

theorem queue_Len {B:Base}{w:World}{q p:Nat}{s:Pile}{W:List (Int×Int)}(hS:St B (queueR q p s) w) (hq:QOk s W) :
 CW 167 #[ptrV q] w (Ret B (fun _:Unit=>True) (fun _=>.int .i64 (W.length:Int)) (fun _=>queueR q p s)):=by
 have hl:=len_eq hq
 refine ZX Tryz.func167 hS ?_
 refine Zh (Zi (Zp J (Zn (Za (Zh (Zh (Zi (Zo J ?_))))))))
 (refine ZC0 rfl ZK (fun w hS=>frame hS ZQ (fun B' hB hS'=>live_yes (p:=p) (s:=s) hS')) ?_;rintro ⟨⟩ -)
 refine oNotT J (Zn (Za (wCondF J (Zj (Za (Zh (Zi (Zo J (Z3 J (Zz (n:=0) (m:=0) J J J (Zld ?_)))))))))))
 (refine ZC0 rfl ZK (fun w hS=>frame hS ZQ (fun B' hB hS'=>pile_Len (s:=s) hS')) ?_;rintro ⟨⟩ -)
 refine Zp J (Zzx ?_)
 exact ⟨(),trivial,by rw [← hl];rfl,Lh⟩
theorem look_eq {m:Int→Option Nat}(id:Int):((m id).map ptrV).getD (.pointer none)=.pointer ((m id).map fun b=>(⟨b,0,none⟩:Addr)):=by cases m id <;> rfl
theorem queue_Put {B:Base}{w:World}{q p:Nat}{s:Pile}{W:List (Int×Int)}(hS:St B (queueR q p s) w) (hq:QOk s W) (id key:Int) (hl:W.length<1000000) :
 CW 111 #[ptrV q,.int .i64 id,.int .i64 key] w
  (Ret B (fun s'=>QOk s' (if qhas W id then W else qins (id,key) W)) (fun _=>.bool (!qhas W id)) (fun s'=>queueR q p s')):=by
 have hh:=has_iff hq id
 have hlen:=len_eq hq
 refine ZX Tryz.func111 hS ?_
 refine Zh (Zi (Zp J (Zn (Za (Zh (Zh (Zi (Zo J ?_))))))))
 (refine ZC0 rfl ZK (fun w hS=>frame hS ZQ (fun B' hB hS'=>live_yes (p:=p) (s:=s) hS')) ?_;rintro ⟨⟩ -)
 refine oNotT J (Zo J (Zq J J (Zo J (Zq J J (Z3 J (Zq J J (Zz (n:=0) (m:=0) J J J (Zzg ?_))))))))
 refine Zq J J (Z3 J (Zq J J (Zz (n:=1) (m:=1) J J J (Zzg ?_))))
 refine Zq J J (Zo J (Zq J J (oLook (ev:=ptrV) (m:=s.m) (keyE_int .i64) J J J ZP (look_eq id) ?_)))
 refine Zq J J (oNeqP J J J (Zu J J (Zn (Za (wC (fun h21=>?_) (fun h21=>?_))))))
 have hm:(s.m id).isSome=true:=by cases hm:s.m id <;> simp [hm] at h21 ⊢
 refine Zh (Zi (Zze ?_))
 exact ⟨s,by rw [hh,hm];exact hq,by rw [hh,hm];rfl,Lh⟩
 have hm:s.m id=none:=by cases hm:s.m id <;> simp [hm] at h21 ⊢
 refine Zj (Za (Zh (Zi (Zo J (Z3 J (Zz (n:=0) (m:=0) J J J (Zld ?_)))))))
 refine oIface J J (Zo J (Zo J (oBuild (Parts.cons J (Parts.cons J Parts.nil)) J J (Built.cons (off:=0) (s:=1) J ZP J ZP (Built.cons (off:=1) (s:=1) J ZP J ZP Built.nil)) ?_)))
 refine oBox J ZP (fun b30=>?_)
 refine oIface J J ?_
 (refine ZC0 rfl ZK (fun w hS=>frame hS ZQ (fun B' hB hS'=>heap_Push (s:=s) (x:=⟨id,key,0⟩) hS' hq.ok hq.heap hm ZO)) ?_;rintro s1 ⟨hok1,hv1,hh1⟩)
 refine Zn (Za (Zh (Zi (Zza ?_))))
 exact ⟨s1,by rw [hh,hm];exact put_ok hq hm hok1 hv1 hh1,by rw [hh,hm];rfl,Lh⟩
theorem queue_Take {B:Base}{w:World}{q p:Nat}{s:Pile}{W:List (Int×Int)}(hS:St B (queueR q p s) w) (hq:QOk s W) :
 CW 114 #[ptrV q] w
  (Ret B (fun s'=>QOk s' W.tail) (fun _=>.tuple #[.int .i64 (hd1 W),.int .i64 (hd2 W),.bool (hd3 W)]) (fun s'=>queueR q p s')):=by
 have hlen:=len_eq hq
 refine ZX Tryz.func114 hS ?_
 refine Zh (Zi (Zp J (Zp J (Zp J (Zn (Za (Zh (Zh (Zi (Zo J ?_))))))))))
 (refine ZC0 rfl ZK (fun w hS=>frame hS ZQ (fun B' hB hS'=>queue_Len (p:=p) (s:=s) hS' hq)) ?_;rintro ⟨⟩ -)
 refine Zy J J (Zn (Za (wC (fun h9=>?_) (fun h9=>?_))))
 have hW:W=[]:=List.eq_nil_of_length_eq_zero ZO
 refine Zh (Zi (Zp J (Zzo ?_)))
 refine ⟨rfl,_,(ResL.cons (ResR.tmp rfl) (ResL.cons (ResR.tmp rfl) (ResL.cons (ResR.tmp rfl) ResL.nil))),?_⟩
 subst hW
 exact ⟨s,hq,rfl,Lh⟩
 have hne:s.l≠[]:=by intro e;rw [e] at hlen;simp at hlen;omega
 refine Zj (Za (Zh (Zi (Zo J (Z3 J (Zz (n:=0) (m:=0) J J J (Zld ?_)))))))
 refine oIface J J ?_
 (refine ZC0 rfl ZK (fun w hS=>frame hS ZQ (fun B' hB hS'=>heap_Pop (s:=s) hS' hq.ok hq.heap hne)) ?_;rintro ⟨s1,nb,x⟩ ⟨hok1,hh1,hv1,hx1⟩)
 dsimp only at hok1 hh1 hv1 hx1
 obtain ⟨W',hW,hq1⟩:=take_ok hq hok1 hh1 hv1 hx1
 refine oAssertT J J (Zo J (oExt J ZP ?_))
 refine oExt J ZP ?_
 refine Zp J (Zp J (Zn (Za (Zh (Zh (Zi (Zo J (oNotT J (Zn (Za (wCondF J (Zj (Za (Zh (wDraw2 J J [0,4] [1,2,3,5,6,7,8,9] 10 ZK J J J (fun w0=>?_))))))))))))))))
 refine Z3 J (Zz (n:=0) (m:=0) J J J (Zld ?_))
 refine Z3 J (Zz (n:=1) (m:=1) J J J (Zld ?_))
 refine Zp J (Zp J (oHead (Zp J (oNilT (Za (Zl (Zw ?_)))))))
 refine ⟨rfl,_,(ResL.cons (ResR.tmp rfl) (ResL.cons (ResR.tmp rfl) (ResL.cons (ResR.tmp rfl) ResL.nil))),?_⟩
 subst hW
 exact ⟨s1,hq1,rfl,Lh⟩
end Go.Proofs.YtogaiijhicfoaaaGreatQ
/-
  Package cycle: members, On; the reference's On.
-/
namespace Go.Proofs.YtogaiijhicfoaaaGreatG
set_option maxRecDepth 100000
set_option maxHeartbeats 4000000
open Go.RowKit Go.Proofs.YtogaiijhicfoaaaGreatK Go.Proofs.YtogaiijhicfoaaaGreatT Go.Proofs.YtogaiijhicfoaaaGreatL

def selTo (p:Nat→Bool) (n:Nat):List Int:=((List.range n).filter p).map Int.ofNat
theorem selTo_succ (p:Nat→Bool) (n:Nat):selTo p (n+1)=selTo p n++(if p n then [(n:Int)] else []):=by
 unfold selTo
 rw [List.range_succ,List.filter_append,List.map_append]
 cases h:p n <;> simp [h]
theorem selTo_len (p:Nat→Bool) (n:Nat):(selTo p n).length≤n:=by
 unfold selTo
 rw [List.length_map]
 exact Nat.le_trans (List.length_filter_le _ _) (by simp)
theorem selTo_congr {p q:Nat→Bool}{n:Nat}(h:∀ a,a<n→p a=q a):selTo p n=selTo q n:=by
 unfold selTo
 congr 1
 exact List.filter_congr (fun a ha=>h a (List.mem_range.1 ha))
def memb (mem:List Bool) (p:Nat→Bool) (a:Nat):Bool:=mem.getD a false && p a

theorem members_any {B:Base}{w:World}{R:Res}(hS:St B [R] w) (mem:List Bool) (A:Option Addr) (cp:Nat) (hC:Kd.bool.C B.e A mem) (hm:mem.length≤1000) (gf:Nat) (lb:Array Value) (p:Nat→Bool) (hg:goodF Tryz.prog gf=true)
 (hh:∀ B' w (a:Nat),Grow B.e B'.e→a<mem.length→St B' [R] w→CW gf (#[]++[Value.int .i64 (a:Int)].toArray++lb) w (Ret B' (fun _:Unit=>True) (fun _=>.bool (p a)) (fun _=>[R]))) (W0:World) :
 CW 158 #[.slice A mem.length cp,.func (.func gf) #[] lb] w
  (Ret B (fun _:Option Addr×Nat=>True) (fun z=>.slice z.1 (selTo (memb mem p) mem.length).length z.2) (fun z=>[row (Kd.int .i64) W0 3 (.slice z.1 (selTo (memb mem p) mem.length).length z.2) (selTo (memb mem p) mem.length),R])):=by
 refine ZX Tryz.func158 hS ?_
 refine Zh (Zi (Zp J (Zn (Za (Zh (Zi (Zp J (Zn (Za (Zh (Zh (Zi (Zo J (Zv J J (Zo J (Zn (Za (Zk (wLoop (ι:=Nat×Option Addr×Nat) (fun z=>[(1,.func (.func gf) #[] lb),(5,.slice z.2.1 (selTo (memb mem p) z.1).length z.2.2),(8,.slice A mem.length cp),(9,.int .i64 (mem.length:Int)),(10,.int .i64 (z.1:Int))]) (fun z=>[row (Kd.int .i64) W0 3 (.slice z.2.1 (selTo (memb mem p) z.1).length z.2.2) (selTo (memb mem p) z.1),R]) (fun z=>z.1≤mem.length) (fun z=>mem.length-z.1) (0,none,0) ?_ cv (Leads.nilrow.trans Lh) ?_)))))))))))))))))))
 exact Nat.zero_le _
 rintro ⟨i,A5,c5⟩ hi
 dsimp only at hi
 have hss:=selTo_succ (memb mem p) i
 have hsl:=selTo_len (memb mem p) i
 try dsimp only
 refine Zh (Zi (Zx J J (Zn (Za (Zh (wC (fun h11=>?_) (fun h11=>?_)))))))
 refine Zj (Za (Zh (Zk (Zh (Zi (Zo J (oIdx J J (hC) J ZO J J (fun e13 u13 cs13 hu13 hk13 hc13=>?_))))))))
 obtain rfl:=hk13
 have hmb:memb mem p i=(u13 && p i):=by unfold memb;rw [getD_at hu13]
 refine Zlx hc13 ?_
 refine Zp J (Zp J (Zn (Za (Zh (Zi (Zo J (Zo J (ZS (ZT 16) (fun h16=>?_) (fun h16=>?_)))))))))
 refine Zq J J (Zo J (Zq J J (Zo J (Zq J J ?_))))
 (refine oCallV rfl rfl rfl hg (fun w hS=>frame hS ZQ (fun B' hB hS'=>hh B' w i hB ZO hS')) ?_;rintro ⟨⟩ -)
 refine Zt J J (Zn (Za (wC (fun h20=>?_) (fun h20=>?_))))
 refine Zi (Zo J (Zo J (oBuildSlice1 J J J J J ZP J (fun b23=>?_))))
 refine oApp1 (i:Int) J J J J ZP ZP J ZO J (fun g24 cp24=>?_)
 rw [if_pos (by simp [hmb,h16,h20])] at hss
 rw [show (selTo (memb mem p) i).length+1=(selTo (memb mem p) (i+1)).length by rw [hss,List.length_append];rfl,← hss]
 refine Zp J (Zn (Zzi ?_))
 refine Zo J (Zn (Za ?_))
 exact ⟨rfl,(i+1,some ⟨g24,0,none⟩,cp24),by show i+1≤_;omega,by show mem.length-(i+1)<mem.length-i;omega,cv,Lh⟩
 refine Zj (Zzi ?_)
 refine Zo J (Zn (Za ?_))
 rw [if_neg (by simp [hmb,h20]),List.append_nil] at hss
 exact ⟨rfl,(i+1,A5,c5),by show i+1≤_;omega,by show mem.length-(i+1)<mem.length-i;omega,by dsimp only;rw [hss];exact cv,by dsimp only;rw [hss];exact (Leads.has ZQ)⟩
 refine Zr J J J J (Zr J J J J (Zr J J J J (Zu J J (Zn (Za (wCondF J (Zj (Zzi ?_))))))))
 refine Zo J (Zn (Za ?_))
 rw [if_neg (by simp [hmb,h16]),List.append_nil] at hss
 exact ⟨rfl,(i+1,A5,c5),by show i+1≤_;omega,by show mem.length-(i+1)<mem.length-i;omega,by dsimp only;rw [hss];exact cv,by dsimp only;rw [hss];exact (Leads.has ZQ)⟩
 obtain rfl:i=mem.length:=by omega
 refine Zm (Zzf ?_)
 exact ⟨(A5,c5),trivial,rfl,Lh⟩
noncomputable def onP (g:Graph) (a:Nat):Bool:=@decide (RP g (g.getD a []) (a:Int)) (Classical.propDecidable _)
theorem onP_iff {g:Graph}{a:Nat} : onP g a=true↔RP g (g.getD a []) (a:Int):=by unfold onP;exact @decide_eq_true_iff _ (Classical.propDecidable _)
theorem on_eq {g:Graph}{a:Nat}{u:Bool}(h:u=true↔RP g (g.getD a []) (a:Int)):u=onP g a:=by
 cases hu:u with
 | true=>exact (onP_iff.2 (h.1 hu)).symm
 | false=>
  cases ho:onP g a with
  | true=>have:=h.2 (onP_iff.1 ho);rw [hu] at this;cases this
  | false=>rfl
theorem on1 {B:Base}{w:World}(g:Graph) (A:Option Addr) (cp b5 a:Nat) (hS:St B [blk b5 38 [.slice A g.length cp]] w) (hC:kII.C B.e A g) (hsm:SmallG g) (ha:a<g.length) :
 CW 159 #[.int .i64 (a:Int),.pointer (some ⟨b5,0,none⟩)] w (Ret B (fun _:Unit=>True) (fun _=>.bool (onP g a)) (fun _=>[blk b5 38 [.slice A g.length cp]])):=by
 have hn:=hsm.1
 refine ZX Tryz.func159 hS ?_
 refine Zh (Zi (Zp J (Zn (Za (Zh (wDrawG J [0,1,2,3,4,6] [(5,[6],[7,8])] [9] 24 ZK J J (fun w0=>?_)))))))
 refine Zld ?_
 refine Zld ?_
 refine Zo J (oIdx J J (hC) J ZO J J (fun e7 u7 cs7 hu7 hk7 hc7=>?_))
 obtain ⟨A0,c0,rfl,hle7,g0⟩:=hk7
 refine Zlx hc7 ?_
 refine Zo J (Z4 (Z5 J ?_))
 (refine ZC0 rfl ZK (fun w hS=>frame hS ZQ (fun B' hB hS'=>reach_any hS' g A cp (Kd.C_grow hB hC) hsm u7 A0 c0 (Kd.C_grow hB g0) (hsm.2 _ (List.mem_of_getElem? hu7)) B.e)) ?_;rintro ⟨A9,c9,out⟩ ⟨hol,hor⟩)
 dsimp only at hol hor ⊢
 refine ZG ?_ J (fun w0=>?_)
 refine Z8 J J J J (fun w0=>?_) ?_
 refine Zo J ?_
 exact Z9 rfl
 exact AgainG.nil
 refine ZR J J ZP ZO J J (fun g11 hg11=>?_)
 first | subst hg11 | (injection hg11 with hg11;injection hg11 with hg11;subst hg11)
 refine ZR1 J ZP ZO J (fun u12 hu12=>?_)
 refine Z6 (Zza ?_)
 exact ⟨(),trivial,by rw [show u12=onP g a from on_eq (by rw [getD_at hu7,← hor a,hu12];simp)];rfl,Lh⟩
theorem RP_congr {g g':Graph}{f f':List Int}(hl:g.length=g'.length) (he:∀ a b,b ∈ endsOf g a→b ∈ endsOf g' a) (hf:∀ x,inG g x=true→x ∈ f→x ∈ f') {x:Int}(h:RP g f x):RP g' f' x:=by
 induction h with
 | start h1 h2=>exact .start (hf _ h2 h1) (by unfold inG at *;rw [← hl];exact h2)
 | step h1 h2 ih=>exact .step ih (he _ _ h2)
theorem withinP_at {g:Graph}{ib:List Bool}{a:Nat}(ha:a<g.length):(withinP g ib).getD a []=wp g ib a:=by
 rw [List.getD_eq_getElem?_getD];simp [withinP,ha]
theorem withinR_getD {g:Graph}{ib:List Bool}{a:Nat}(ha:a<g.length):(withinR g ib).getD a []=(g.getD a []).filter (inP g ib a):=by
 rw [List.getD_eq_getElem?_getD];simp [withinR,ha]
theorem inG_P (g:Graph) (ib:List Bool) (x:Int):inG (withinP g ib) x=inG g x:=by unfold inG;rw [withinP_len]
theorem inG_R (g:Graph) (ib:List Bool) (x:Int):inG (withinR g ib) x=inG g x:=by unfold inG;rw [withinR_len]
theorem P_R {g:Graph}{ib:List Bool}{a:Nat}{x:Int}(hx:inG g x=true):x ∈ (withinP g ib).getD a []↔x ∈ (withinR g ib).getD a []:=by
 by_cases ha:a<g.length
 · rw [withinP_at ha,withinR_getD ha]
   unfold wp
   rw [List.mem_filter,List.mem_filter,cl_mem]
   unfold endsOf
   rw [List.mem_filter,and_assoc]
   simp [hx]
 · rw [List.getD_eq_getElem?_getD,List.getD_eq_getElem?_getD,List.getElem?_eq_none (by rw [withinP_len];omega),List.getElem?_eq_none (by rw [withinR_len];omega)]
theorem ends_PR {g:Graph}{ib:List Bool}{a:Nat}{x:Int} : x ∈ endsOf (withinP g ib) a↔x ∈ endsOf (withinR g ib) a:=by
 unfold endsOf
 rw [List.mem_filter,List.mem_filter,inG_P,inG_R]
 exact ⟨fun h=>⟨(P_R h.2).1 h.1,h.2⟩,fun h=>⟨(P_R h.2).2 h.1,h.2⟩⟩
theorem onP_PR (g:Graph) (ib:List Bool) (a:Nat):onP (withinP g ib) a=onP (withinR g ib) a:=by
 refine on_eq ?_
 rw [onP_iff]
 constructor
 · exact RP_congr (by rw [withinP_len,withinR_len]) (fun a b h=>ends_PR.1 h) (fun x hx h=>(P_R (by rw [inG_P] at hx;exact hx)).1 h)
 · exact RP_congr (by rw [withinP_len,withinR_len]) (fun a b h=>ends_PR.2 h) (fun x hx h=>(P_R (by rw [inG_R] at hx;exact hx)).2 h)
noncomputable def onL (g:Graph) (ib:List Bool):List Int:=selTo (fun a=>memF g ib a && onP (withinR g ib) a) g.length
theorem withinP_small {g:Graph}{ib:List Bool}(h:SmallG g):SmallG (withinP g ib):=by
 refine ⟨by rw [withinP_len];exact h.1,fun l hl=>?_⟩
 obtain ⟨a,ha,rfl⟩:=List.mem_map.1 hl
 exact Nat.le_trans (List.length_filter_le _ _) (cl_len h a)
theorem memL_getD {g:Graph}{ib:List Bool}{a:Nat}(ha:a<g.length):(memL g ib).getD a false=memF g ib (a:Int):=by
 have h:=List.getElem?_eq_getElem (show a<(memL g ib).length by rw [memL_len];exact ha)
 rw [getD_at h]
 exact memL_at h
theorem on_any {B:Base}{w:World}(hS:St B [] w) (g:Graph) (A:Option Addr) (cp:Nat) (hC:kII.C B.e A g) (hsm:SmallG g) (ib:List Bool) (A1:Option Addr) (cp1:Nat) (hC1:Kd.bool.C B.e A1 ib) (hib:ib.length≤1000) (W0:World) :
 CW 104 #[.slice A g.length cp,.slice A1 ib.length cp1] w
  (Ret B (fun _:Option Addr×Nat=>True) (fun z=>.slice z.1 (onL g ib).length z.2) (fun z=>[row (Kd.int .i64) W0 3 (.slice z.1 (onL g ib).length z.2) (onL g ib)])):=by
 have hn:=hsm.1
 have hsp:=withinP_small (ib:=ib) hsm
 refine ZX Tryz.func104 hS ?_
 refine Zh (Zi (Zp J (Zn (Za (Zzu ?_)))))
 (refine ZC0 rfl ZK (fun w hS=>frame hS ZQ (fun B' hB hS'=>within_any hS' g A cp (Kd.C_grow hB hC) hsm ib A1 cp1 (Kd.C_grow hB hC1) hib B.e)) ?_;rintro ⟨⟨A10,c10,hs10⟩,A6,c6⟩ hl10)
 dsimp only at hl10
 refine Zo J (oExt J ZP ?_)
 refine oExt J ZP ?_
 refine oAlloc J ZP (fun b5=>?_)
 refine Zst ?_
 refine Zp J (Zn (Za (wFreeze [row kHdr B.e 42 (.slice A10 g.length c10) hs10,bun (rws (Kd.int .i64) B.e 3 hs10 (withinP g ib)),row Kd.bool B.e 4 (.slice A6 g.length c6) (memL g ib)] ZQ (fun B1 hB1 hq1=>?_))))
 have hCw:=grid_C (hq1 _ _ ZP) (hq1 _ _ ZP) (by rw [withinP_len];exact hl10) hB1
 have hCm:=(row_C (kd:=Kd.bool) (W:=B.e) (e:=4) (A:=A6) (n:=g.length) (cp:=c6) (xs:=memL g ib) (hq1 _ _ ZP) hB1).2.2.1
 refine Zh (Zi (Zo rfl (ZS0 (t:=13) (v':=.slice A6 (memL g ib).length c6) rfl (by rw [memL_len]) ?_)))
 refine oMakeFunc J ?_
 (refine ZC0 rfl ZK (fun w hS=>frame hS ZQ (fun B' hB hS'=>members_any (R:=blk b5 38 [.slice A10 g.length c10]) hS' (memL g ib) A6 c6 (Kd.C_grow hB hCm) (by rw [memL_len];omega) 159 #[.pointer (some ⟨b5,0,none⟩)] (onP (withinP g ib)) ZK (fun B'' w a hB2 ha hS2=>by have:=on1 (B:=B'') (w:=w) (withinP g ib) A10 c10 b5 a (by rw [withinP_len];exact hS2) (Kd.C_grow (Grow.trans hB hB2) hCw) hsp (by rw [withinP_len];rw [memL_len] at ha;exact ha);rw [withinP_len] at this;simpa using this) W0)) ?_;rintro ⟨A4,c4⟩ -)
 rw [show selTo (memb (memL g ib) (onP (withinP g ib))) (memL g ib).length=onL g ib by unfold onL;rw [memL_len];exact selTo_congr (fun a ha=>by unfold memb;rw [memL_getD ha,onP_PR])]
 refine Zp J (Zzx ?_)
 exact ⟨(A4,c4),trivial,rfl,Lh⟩
end Go.Proofs.YtogaiijhicfoaaaGreatG


/-
  The reference's On; graphs turned: Turn, and the reference's Clean.
-/
namespace Go.Proofs.YtogaiijhicfoaaaGreatG
set_option maxRecDepth 100000
set_option maxHeartbeats 4000000
open Go.RowKit Go.Proofs.YtogaiijhicfoaaaGreatK Go.Proofs.YtogaiijhicfoaaaGreatT Go.Proofs.YtogaiijhicfoaaaGreatL

theorem refOn {B:Base}{w:World}(hS:St B [] w) (g:Graph) (A:Option Addr) (cp:Nat) (hC:kII.C B.e A g) (hsm:SmallG g) (ib:List Bool) (A1:Option Addr) (cp1:Nat) (hC1:Kd.bool.C B.e A1 ib) (W0:World) :
 CW 106 #[.slice A g.length cp,.slice A1 ib.length cp1] w
  (Ret B (fun _:Option Addr×Nat=>True) (fun z=>.slice z.1 (onL g ib).length z.2) (fun z=>[row (Kd.int .i64) W0 3 (.slice z.1 (onL g ib).length z.2) (onL g ib)])):=by
 have hn:=hsm.1
 have hsr:=withinR_small (ib:=ib) hsm
 have hrl:=withinR_len g ib
 refine ZX Tryz.func106 hS ?_
 refine Zh (Zi (Zp J (Zn (Za (Zzu ?_)))))
 (refine ZC0 rfl ZK (fun w hS=>frame hS ZQ (fun B' hB hS'=>refWithin hS' g A cp (Kd.C_grow hB hC) hsm ib A1 cp1 (Kd.C_grow hB hC1) B.e)) ?_;rintro ⟨A10,c10,hs10⟩ hl10)
 dsimp only at hl10
 refine ZS0 (t:=10) (v':=.slice A10 (withinR g ib).length c10) rfl (by rw [hrl]) ?_
 refine Zp J (Zn (Za (wFreeze [row kHdr B.e 42 (.slice A10 g.length c10) hs10,bun (rws (Kd.int .i64) B.e 3 hs10 (withinR g ib))] ZQ (fun B1 hB1 hq1=>?_))))
 have hCw:=grid_C (hq1 _ _ ZP) (hq1 _ _ ZP) (by rw [hrl];exact hl10) hB1
 have hC:=Kd.C_grow hB1 hC
 have hC1:=Kd.C_grow hB1 hC1
 refine Zh (Zi (Zp J (Zn (Za (Zh (Zh (Zi (Zp J (Zn (Za (Zk (wLoop (ι:=Nat×Option Addr×Nat) (fun z=>[(0,.slice A g.length cp),(1,.slice A1 ib.length cp1),(5,.slice A10 (withinR g ib).length c10),(6,.slice z.2.1 (selTo (fun a=>memF g ib a && onP (withinR g ib) a) z.1).length z.2.2),(7,.int .i64 (z.1:Int))]) (fun z=>[row (Kd.int .i64) W0 3 (.slice z.2.1 (selTo (fun a=>memF g ib a && onP (withinR g ib) a) z.1).length z.2.2) (selTo (fun a=>memF g ib a && onP (withinR g ib) a) z.1)]) (fun z=>z.1≤g.length) (fun z=>g.length-z.1) (0,none,0) ?_ cv (Leads.nilrow.trans Lh) ?_))))))))))))
 exact Nat.zero_le _
 rintro ⟨i,A6,c6⟩ hi
 dsimp only at hi
 have hss:=selTo_succ (fun a=>memF g ib a && onP (withinR g ib) a) i
 have hsl:=selTo_len (fun a=>memF g ib a && onP (withinR g ib) a) i
 try dsimp only
 refine Zh (Zh (Zi (Zo J (Zo J (Zv J J (Zx J J (Zn (Za (wC (fun h14=>?_) (fun h14=>?_))))))))))
 refine Zj (Za (Zh (Zk (Zzv ?_))))
 (refine ZC0 rfl ZK (fun w hS=>frame hS ZQ (fun B' hB hS'=>member_any hS' A cp g A1 cp1 ib (Kd.C_grow hB hC1) (i:Int))) ?_;rintro ⟨⟩ -)
 refine Zo J (ZS (ZT 21) (fun h21=>?_) (fun h21=>?_))
 refine Zq J J (Zo J (Zq J J (Zo J (Zq J J (Zo J (Zq J J (oIdx J J (hCw) J ZO J J (fun e25 u25 cs25 hu25 hk25 hc25=>?_))))))))
 obtain ⟨A0,c0,rfl,hle25,g0⟩:=hk25
 refine Zq J J (Zlx hc25 ?_)
 refine Zq J J ?_
 (refine ZC0 rfl ZK (fun w hS=>frame hS ZQ (fun B' hB hS'=>refReach hS' (withinR g ib) A10 c10 (Kd.C_grow hB hCw) hsr u25 A0 c0 (Kd.C_grow hB g0) B.e)) ?_;rintro ⟨A27,c27,out⟩ ⟨hol,hor⟩)
 dsimp only at hol hor ⊢
 refine Zq J J (Zo J (Zq J J (ZR J J ZP ZO J J (fun g29 hg29=>?_))))
 first | subst hg29 | (injection hg29 with hg29;injection hg29 with hg29;subst hg29)
 refine Zq J J (ZR1 J ZP ZO J (fun u30 hu30=>?_))
 have hon:u30=onP (withinR g ib) i:=on_eq (by rw [getD_at hu25,← hor i,hu30];simp)
 refine Zt J J (Zn (Za (wC (fun h31=>?_) (fun h31=>?_))))
 refine Zi (Zo J (Zo J (oBuildSlice1 J J J J J ZP J (fun b34=>?_))))
 refine oApp1 (i:Int) J J J J ZP ZP J ZO J (fun g35 cp35=>?_)
 rw [if_pos (by simp [← hon,h21,h31])] at hss
 rw [show (selTo (fun a=>memF g ib a && onP (withinR g ib) a) i).length+1=(selTo (fun a=>memF g ib a && onP (withinR g ib) a) (i+1)).length by rw [hss,List.length_append];rfl,← hss]
 refine Zp J (Zn (Zzd ?_))
 refine Zp J (Zn (Za ?_))
 exact ⟨rfl,(i+1,some ⟨g35,0,none⟩,cp35),by show i+1≤_;omega,by show g.length-(i+1)<g.length-i;omega,cv,Lh⟩
 refine Zj (Zzd ?_)
 refine Zp J (Zn (Za ?_))
 rw [if_neg (by simp [← hon,h31]),List.append_nil] at hss
 exact ⟨rfl,(i+1,A6,c6),by show i+1≤_;omega,by show g.length-(i+1)<g.length-i;omega,by dsimp only;rw [hss];exact cv,by dsimp only;rw [hss];exact (Leads.has ZQ)⟩
 refine Zr J J J J (Zr J J J J (Zr J J J J (Zr J J J J (Zr J J J J (Zr J J J J (Zr J J J J (Zr J J J J (Zr J J J J (Zu J J (Zn (Za (wCondF J (Zj (Zzd ?_))))))))))))))
 refine Zp J (Zn (Za ?_))
 rw [if_neg (by simp [h21]),List.append_nil] at hss
 exact ⟨rfl,(i+1,A6,c6),by show i+1≤_;omega,by show g.length-(i+1)<g.length-i;omega,by dsimp only;rw [hss];exact cv,by dsimp only;rw [hss];exact (Leads.has ZQ)⟩
 obtain rfl:i=g.length:=by omega
 refine Zm (Zzf ?_)
 exact ⟨(A6,c6),trivial,rfl,Lh⟩
theorem edge_ends {g:Graph}{a b:Nat}(ha:a<g.length) (hb:b<g.length):edgeF g (a:Int) (b:Int)=decide ((b:Int) ∈ endsOf g a):=by
 unfold edgeF endsOf
 rw [Int.toNat_natCast,decide_eq_true (show (0:Int)≤a by omega),decide_eq_true (show (a:Int)<g.length by omega),decide_eq_true (show (0:Int)≤b by omega),decide_eq_true (show (b:Int)<g.length by omega)]
 simp only [Bool.true_and]
 congr 1
 rw [List.mem_filter]
 have:inG g (b:Int)=true:=inG_iff.2 ⟨by omega,by omega⟩
 simp [this]
end Go.Proofs.YtogaiijhicfoaaaGreatG


/-
  Package digraph: Turn.
-/
namespace Go.Proofs.YtogaiijhicfoaaaGreatG
set_option maxRecDepth 100000
set_option maxHeartbeats 4000000
open Go.RowKit Go.Proofs.YtogaiijhicfoaaaGreatK Go.Proofs.YtogaiijhicfoaaaGreatT Go.Proofs.YtogaiijhicfoaaaGreatL

end Go.Proofs.YtogaiijhicfoaaaGreatG


/-
  Orders, plainly: the least that is free, time and again.
-/
namespace Go.Proofs.YtogaiijhicfoaaaGreatG
set_option maxRecDepth 100000
set_option maxHeartbeats 4000000
open Go.RowKit Go.Proofs.YtogaiijhicfoaaaGreatK Go.Proofs.YtogaiijhicfoaaaGreatT Go.Proofs.YtogaiijhicfoaaaGreatL

def fre (ed:Nat→Nat→Bool) (left:List Bool) (a:Nat):Bool:=left.getD a false && (List.range left.length).all fun b=>!(left.getD b false) || !(ed b a)
def nxt (ed:Nat→Nat→Bool) (left:List Bool):Option Nat:=(List.range left.length).find? (fre ed left)
def trues (left:List Bool):Nat:=(left.filter id).length
def gr (ed:Nat→Nat→Bool):Nat→List Bool→List Nat
  | 0,_=>[]
  | f+1,left=>match nxt ed left with
    | none=>[]
    | some a=>a :: gr ed f (left.set a false)
theorem trues_set {left:List Bool}{a:Nat}(h:left[a]?=some true):trues (left.set a false)+1=trues left:=by
 unfold trues
 induction left generalizing a with
 | nil=>simp at h
 | cons b left ih=>
  cases a with
  | zero=>simp at h;subst h;simp
  | succ a=>
   have:=ih (a:=a) (by simpa using h)
   cases b <;> simp_all
theorem trues_le (left:List Bool):trues left≤left.length:=List.length_filter_le _ _
theorem getD_true {left:List Bool}{a:Nat}(h:left.getD a false=true):left[a]?=some true:=by
 rw [List.getD_eq_getElem?_getD] at h
 cases hv:left[a]? with
 | none=>rw [hv] at h;cases h
 | some v=>rw [hv] at h;simp at h;rw [h]
theorem fre_left {ed:Nat→Nat→Bool}{left:List Bool}{a:Nat}(h:fre ed left a=true):left[a]?=some true:=by
 unfold fre at h
 simp only [Bool.and_eq_true] at h
 exact getD_true h.1
theorem fre_iff {ed:Nat→Nat→Bool}{left:List Bool}{a:Nat} : fre ed left a=true↔left[a]?=some true∧∀ b,left[b]?=some true→ed b a=false:=by
 unfold fre
 simp only [Bool.and_eq_true,List.all_eq_true,List.mem_range,Bool.or_eq_true,Bool.not_eq_true']
 constructor
 · rintro ⟨h1,h2⟩
   refine ⟨getD_true h1,fun b hb=>?_⟩
   rcases h2 b (List.getElem?_eq_some_iff.1 hb).1 with h | h
   · rw [getD_at hb] at h;cases h
   · exact h
 · rintro ⟨h1,h2⟩
   refine ⟨by rw [getD_at h1],fun b hb=>?_⟩
   cases hv:left[b]? with
   | none=>rw [List.getElem?_eq_none_iff] at hv;omega
   | some v=>
    rw [getD_at hv]
    cases v with
    | false=>exact .inl rfl
    | true=>exact .inr (h2 b hv)
theorem nxt_none {ed:Nat→Nat→Bool}{left:List Bool}(h:∀ a,a<left.length→fre ed left a=false):nxt ed left=none:=by
 unfold nxt
 rw [List.find?_eq_none]
 intro a ha
 rw [h a (List.mem_range.1 ha)];simp
inductive Run (ed:Nat→Nat→Bool) (left0:List Bool):List Nat→List Bool→Prop
  | nil:Run ed left0 [] left0
  | snoc {out:List Nat}{left:List Bool}{a:Nat} : Run ed left0 out left→nxt ed left=some a→Run ed left0 (out++[a]) (left.set a false)
theorem nxt_left {ed:Nat→Nat→Bool}{left:List Bool}{a:Nat}(h:nxt ed left=some a):left[a]?=some true:=fre_left (List.find?_some h)
theorem gr_none {ed:Nat→Nat→Bool}{left:List Bool}(h:nxt ed left=none):∀ f,gr ed f left=[]
 | 0=>rfl
 | f+1=>by unfold gr;rw [h]
theorem Run.len {ed:Nat→Nat→Bool}{left0 left:List Bool}{out:List Nat}(h:Run ed left0 out left):left.length=left0.length∧out.length+trues left=trues left0:=by
 induction h with
 | nil=>simp
 | snoc h hn ih=>rw [List.length_set,List.length_append];have:=trues_set (nxt_left hn);simp;omega
theorem Run.gr {ed:Nat→Nat→Bool}{left0 left:List Bool}{out:List Nat}(h:Run ed left0 out left):gr ed (trues left0) left0=out++gr ed (trues left) left:=by
 induction h with
 | nil=>rfl
 | @snoc out left a h hn ih=>
  have h1:=trues_set (nxt_left hn)
  rw [ih,List.append_assoc,← h1]
  congr 1
  simp only [Go.Proofs.YtogaiijhicfoaaaGreatG.gr,hn]
  rfl
theorem Run.done {ed:Nat→Nat→Bool}{left0 left:List Bool}{out:List Nat}(h:Run ed left0 out left) (hn:nxt ed left=none):out=Go.Proofs.YtogaiijhicfoaaaGreatG.gr ed (trues left0) left0:=by
 rw [h.gr,gr_none hn,List.append_nil]
def edR (g:Graph) (ib:List Bool) (b a:Nat):Bool:=edgeF (withinR g ib) (b:Int) (a:Int)
def seqN (g:Graph) (ib:List Bool):List Nat:=gr (edR g ib) (trues (memL g ib)) (memL g ib)
def okO (g:Graph) (ib:List Bool):Bool:=decide ((seqN g ib).length=trues (memL g ib))
def ordL (g:Graph) (ib:List Bool):List Int:=if okO g ib then (seqN g ib).map Int.ofNat else []
theorem edR_iff {g:Graph}{ib:List Bool}{a b:Nat}(ha:a<g.length) (hb:b<g.length):edR g ib b a=true↔(a:Int) ∈ wp g ib b:=by
 have hin:inG g (a:Int)=true:=inG_iff.2 ⟨by omega,by omega⟩
 unfold edR
 rw [edge_ends (by rw [withinR_len];exact hb) (by rw [withinR_len];exact ha),decide_eq_true_eq,← ends_PR]
 unfold endsOf
 rw [List.mem_filter,inG_P,hin,withinP_at hb]
 simp
theorem wp_mem {g:Graph}{ib:List Bool}{b:Nat}{x:Int}(h:x ∈ wp g ib b):memF g ib (b:Int)=true∧memF g ib x=true∧inG g x=true:=by
 obtain ⟨h1,h2⟩:=List.mem_filter.1 h
 unfold inP at h2
 simp only [Bool.and_eq_true] at h2
 exact ⟨h2.1,h2.2,ends_in (cl_mem.1 h1)⟩
theorem wp_nodup (g:Graph) (ib:List Bool) (b:Nat):(wp g ib b).Pairwise (·<·):=by
 unfold wp
 exact ((sorted_spec (endsOf g b)).1).sublist List.filter_sublist
end Go.Proofs.YtogaiijhicfoaaaGreatG


/-
  The reference's Order and Back.
-/
namespace Go.Proofs.YtogaiijhicfoaaaGreatG
set_option maxRecDepth 100000
set_option maxHeartbeats 4000000
open Go.RowKit Go.Proofs.YtogaiijhicfoaaaGreatK Go.Proofs.YtogaiijhicfoaaaGreatT Go.Proofs.YtogaiijhicfoaaaGreatL

theorem trues_lt {left:List Bool}{a:Nat}(h:left[a]?=some true):trues (left.set a false)<trues left:=by have:=trues_set h;omega
theorem trues_pos {left:List Bool}(h:0<trues left):∃ a:Nat,left[a]?=some true:=by
 unfold trues at h
 obtain ⟨x,hx⟩:=List.exists_mem_of_length_pos h
 obtain ⟨h1,h2⟩:=List.mem_filter.1 hx
 simp at h2;subst h2
 exact List.mem_iff_getElem?.1 h1
theorem nxt_trues {ed:Nat→Nat→Bool}{left:List Bool}(h:trues left=0):nxt ed left=none:=by
 apply nxt_none
 intro a ha
 cases hf:fre ed left a with
 | false=>rfl
 | true=>have:=trues_set (fre_left hf);omega
end Go.Proofs.YtogaiijhicfoaaaGreatG


/-
  Kahn's order, plainly: how many are ahead of each; who waits.
-/
namespace Go.Proofs.YtogaiijhicfoaaaGreatG
set_option maxRecDepth 100000
set_option maxHeartbeats 4000000
open Go.RowKit Go.Proofs.YtogaiijhicfoaaaGreatK Go.Proofs.YtogaiijhicfoaaaGreatT Go.Proofs.YtogaiijhicfoaaaGreatL
open Go.Proofs.YtogaiijhicfoaaaGreatQ (lt2 qins qhas qins_perm qins_sorted)

def edW (w:Graph) (b a:Nat):Bool:=decide ((a:Int) ∈ w.getD b [])
structure WOk (w:Graph) (mem:List Bool):Prop where
  len:w.length=mem.length
  small:w.length≤1000
  row:∀ b,(w.getD b []).Pairwise (·<·)
  mem1:∀ b x,x ∈ w.getD b []→mem.getD b false=true
  mem2:∀ b x,x ∈ w.getD b []→∃ c:Nat,x=(c:Int)∧mem.getD c false=true
theorem getD_lt {l:List Bool}{a:Nat}(h:l.getD a false=true):a<l.length:=by
 rw [List.getD_eq_getElem?_getD] at h
 cases hv:l[a]? with
 | none=>rw [hv] at h;cases h
 | some v=>exact (List.getElem?_eq_some_iff.1 hv).1
def cnt (w:Graph) (left:List Bool) (c:Nat):Nat:=((List.range w.length).filter fun b=>left.getD b false && edW w b c).length
theorem cnt_zero {w:Graph}{left:List Bool}(hl:left.length=w.length) {c:Nat} : cnt w left c=0↔∀ b:Nat,left[b]?=some true→edW w b c=false:=by
 unfold cnt
 rw [List.length_eq_zero_iff,List.filter_eq_nil_iff]
 constructor
 · intro h b hb
   have:=h b (List.mem_range.2 (by have:=(List.getElem?_eq_some_iff.1 hb).1;omega))
   rw [getD_at hb] at this
   simpa using this
 · intro h b hb hp
   rw [Bool.and_eq_true] at hp
   rw [h b (getD_true hp.1)] at hp
   cases hp.2
theorem fre_cnt {w:Graph}{left:List Bool}(hl:left.length=w.length) (c:Nat):fre (edW w) left c=(left.getD c false && decide (cnt w left c=0)):=by
 rw [Bool.eq_iff_iff,fre_iff,Bool.and_eq_true,decide_eq_true_eq,cnt_zero hl]
 exact ⟨fun h=>⟨by rw [getD_at h.1],h.2⟩,fun h=>⟨getD_true h.1,h.2⟩⟩
theorem filt_upd {p:Nat→Bool}{a:Nat} : ∀ {n:Nat},a<n→((List.range n).filter p).length=((List.range n).filter fun b=>p b && b != a).length+if p a then 1 else 0
 | 0,h=>by omega
 | n+1,h=>by
  rw [List.range_succ,List.filter_append,List.filter_append,List.length_append,List.length_append]
  by_cases e:a=n
  · subst e
    have:(List.range a).filter (fun b=>p b && b != a)=(List.range a).filter p:=List.filter_congr (fun b hb=>by have:=List.mem_range.1 hb;simp;intro _;omega)
    rw [this]
    cases hp:p a <;> simp [hp]
  · rw [filt_upd (p:=p) (a:=a) (n:=n) ZO]
    have:(fun b=>p b && b != a) n=p n:=by
     show (p n && n != a)=p n
     rw [show (n != a)=true by simp;omega,Bool.and_true]
    have e2 : [n].filter (fun b=>p b && b != a)=[n].filter p:=by
     rw [List.filter_cons,List.filter_cons]
     rw [show (p n && n != a)=p n from this];rfl
    rw [e2];omega
theorem set_getD {left:List Bool}{a b:Nat} : (left.set a false).getD b false=(left.getD b false && b != a):=by
 rw [List.getD_eq_getElem?_getD,List.getD_eq_getElem?_getD,List.getElem?_set]
 by_cases e:a=b
 · subst e;rw [if_pos rfl];split <;> simp
 · rw [if_neg e,show (b != a)=true by simp;omega,Bool.and_true]
theorem cnt_set {w:Graph}{left:List Bool}(hl:left.length=w.length) {a:Nat}(h:left[a]?=some true) (c:Nat):cnt w left c=cnt w (left.set a false) c+if edW w a c then 1 else 0:=by
 have ha:=(List.getElem?_eq_some_iff.1 h).1
 unfold cnt
 rw [filt_upd (a:=a) ZO]
 rw [getD_at h,Bool.true_and]
 congr 2
 exact List.filter_congr (fun b hb=>by rw [set_getD];cases left.getD b false <;> cases edW w b c <;> simp)
def aheadL (n:Nat) (f:Nat→Nat):List Int:=(List.range n).map fun c=>((f c:Nat):Int)
theorem aheadL_len (n:Nat) (f:Nat→Nat):(aheadL n f).length=n:=by simp [aheadL]
theorem aheadL_at {n:Nat}{f:Nat→Nat}{c:Nat}(h:c<n):(aheadL n f)[c]?=some (f c:Int):=by simp [aheadL,h]
theorem aheadL_set {n:Nat}{f f':Nat→Nat}{b:Nat}{v:Int}(hv:v=(f' b:Int)) (hf:∀ c,c≠b→f c=f' c):(aheadL n f).set b v=aheadL n f':=by
 apply List.ext_getElem?
 intro c
 rw [List.getElem?_set]
 by_cases e:b=c
 · subst e
   rw [if_pos rfl,aheadL_len]
   by_cases h:b<n
   · rw [if_pos h,aheadL_at h,hv]
   · rw [if_neg h,List.getElem?_eq_none (by rw [aheadL_len];omega)]
 · rw [if_neg e]
   by_cases h:c<n
   · rw [aheadL_at h,aheadL_at h,hf c (fun x=>e x.symm)]
   · rw [List.getElem?_eq_none (by rw [aheadL_len];omega),List.getElem?_eq_none (by rw [aheadL_len];omega)]
theorem aheadL_congr {n:Nat}{f f':Nat→Nat}(h:∀ c,f c=f' c):aheadL n f=aheadL n f':=by rw [show f=f' from funext h]
theorem aheadL_zero (n:Nat):aheadL n (fun _=>0)=List.replicate n 0:=by
 apply List.ext_getElem?
 intro i
 unfold aheadL
 rw [List.getElem?_map,List.getElem?_replicate]
 by_cases h:i<n <;> simp [h]
def inT (l:List Int) (c:Nat):Nat:=if (c:Int) ∈ l then 1 else 0
def bld (w:Graph) (i j c:Nat):Nat:=((List.range i).filter fun b=>edW w b c).length+inT ((w.getD i []).take j) c
theorem bld_zero (w:Graph) (c:Nat):bld w 0 0 c=0:=by simp [bld,inT]
theorem bld_next (w:Graph) (i c:Nat):bld w i (w.getD i []).length c=bld w (i+1) 0 c:=by
 unfold bld
 rw [List.take_length,List.take_zero,List.range_succ,List.filter_append,List.length_append]
 unfold inT
 rw [if_neg (show ¬ (c:Int) ∈ ([]:List Int) by simp),Nat.add_zero]
 congr 1
 by_cases h:(c:Int) ∈ w.getD i []
 · rw [if_pos h,List.filter_cons_of_pos (by unfold edW;exact decide_eq_true h)];rfl
 · rw [if_neg h,List.filter_cons_of_neg (by unfold edW;rw [decide_eq_false h];simp)];rfl
theorem bld_all {w:Graph}{mem:List Bool}(h:WOk w mem) (c:Nat):bld w w.length 0 c=cnt w mem c:=by
 unfold bld cnt inT
 rw [List.take_zero,if_neg (show ¬ (c:Int) ∈ ([]:List Int) by simp),Nat.add_zero]
 congr 1
 exact List.filter_congr (fun b hb=>by
  cases he:edW w b c with
  | false=>simp
  | true=>rw [h.mem1 b c (of_decide_eq_true he)];rfl)
theorem bld_le (w:Graph) (i j c:Nat):bld w i j c≤i+1:=by
 unfold bld inT
 have:=List.length_filter_le (fun b=>edW w b c) (List.range i)
 rw [List.length_range] at this
 split <;> omega
theorem cnt_le (w:Graph) (left:List Bool) (c:Nat):cnt w left c≤w.length:=by
 unfold cnt
 have:=List.length_filter_le (fun b=>left.getD b false && edW w b c) (List.range w.length)
 rw [List.length_range] at this
 omega
theorem not_before {l:List Int}(h:l.Pairwise (·<·)) {j:Nat}{x:Int}(hx:l[j]?=some x):¬ x ∈ l.take j∧¬ x ∈ l.drop (j+1):=by
 obtain ⟨hj,rfl⟩:=List.getElem?_eq_some_iff.1 hx
 have h1:=List.pairwise_iff_getElem.1 h
 constructor
 · intro hm
   obtain ⟨k,hk,he⟩:=List.mem_take_iff_getElem.1 hm
   have:=h1 k j ZO hj ZO
   omega
 · intro hm
   obtain ⟨k,hk,he⟩:=List.mem_drop_iff_getElem.1 hm
   have:=h1 j (j+1+k) hj ZO ZO
   omega
theorem inT_take {l:List Int}(h:l.Pairwise (·<·)) {j b:Nat}(hx:l[j]?=some (b:Int)):inT (l.take j) b=0∧inT (l.take (j+1)) b=1∧∀ c,c≠b→inT (l.take j) c=inT (l.take (j+1)) c:=by
 have hj:=(List.getElem?_eq_some_iff.1 hx).1
 have ht:l.take (j+1)=l.take j++[(b:Int)]:=by rw [List.take_add_one,hx];rfl
 refine ⟨by unfold inT;rw [if_neg (not_before h hx).1],by unfold inT;rw [ht,if_pos (by simp)],fun c hc=>?_⟩
 unfold inT
 rw [ht]
 have:¬ (c:Int)=(b:Int):=by omega
 simp [this]
theorem inT_drop {l:List Int}(h:l.Pairwise (·<·)) {j b:Nat}(hx:l[j]?=some (b:Int)):inT (l.drop j) b=1∧inT (l.drop (j+1)) b=0∧∀ c,c≠b→inT (l.drop j) c=inT (l.drop (j+1)) c:=by
 have hj:=(List.getElem?_eq_some_iff.1 hx).1
 have ht:l.drop j=(b:Int) :: l.drop (j+1):=by
  obtain ⟨_,he⟩:=List.getElem?_eq_some_iff.1 hx
  rw [← he];exact List.drop_eq_getElem_cons hj
 refine ⟨by unfold inT;rw [ht,if_pos (by simp)],by unfold inT;rw [if_neg (not_before h hx).2],fun c hc=>?_⟩
 unfold inT
 rw [ht]
 have:¬ (c:Int)=(b:Int):=by omega
 simp [this]
def pr (c:Nat):Int×Int:=((c:Int),(c:Int))
def wt (n:Nat) (p:Nat→Bool):List (Int×Int):=((List.range n).filter p).map pr
theorem wt_sorted (n:Nat) (p:Nat→Bool):(wt n p).Pairwise lt2:=by
 unfold wt
 rw [List.pairwise_map]
 refine (List.pairwise_lt_range.sublist List.filter_sublist).imp ?_
 intro a b h
 left
 show (a:Int)<(b:Int)
 omega
theorem wt_mem {n:Nat}{p:Nat→Bool}{x:Int×Int} : x ∈ wt n p↔∃ c,c<n∧p c=true∧x=pr c:=by
 unfold wt
 simp only [List.mem_map,List.mem_filter,List.mem_range]
 exact ⟨fun ⟨c,⟨h1,h2⟩,h3⟩=>⟨c,h1,h2,h3.symm⟩,fun ⟨c,h1,h2,h3⟩=>⟨c,⟨h1,h2⟩,h3.symm⟩⟩
theorem lt2_irr {a b:Int×Int}(h:lt2 a b) (k:lt2 b a):a=b:=by unfold lt2 at *;omega
theorem lt2_nd {l:List (Int×Int)}(h:l.Pairwise lt2):l.Nodup:=h.imp (fun {a b} h e=>by subst e;unfold lt2 at h;omega)
theorem wt_has {n:Nat}{p:Nat→Bool}{b:Nat}(hb:b<n):qhas (wt n p) (b:Int)=p b:=by
 rw [Bool.eq_iff_iff,qhas,List.any_eq_true]
 constructor
 · rintro ⟨x,hx,e⟩
   obtain ⟨c,hc,hp,rfl⟩:=wt_mem.1 hx
   have:(c:Int)=(b:Int):=by simpa [pr] using e
   rw [← show c=b by omega];exact hp
 · intro h
   exact ⟨pr b,wt_mem.2 ⟨b,hb,h,rfl⟩,by simp [pr]⟩
theorem wt_ins {n:Nat}{p p':Nat→Bool}{b:Nat}(hb:b<n) (h0:p b=false) (h1:p' b=true) (h:∀ c,c≠b→p c=p' c):qins ((b:Int),(b:Int)) (wt n p)=wt n p':=by
 have hs:(qins ((b:Int),(b:Int)) (wt n p)).Pairwise lt2:=qins_sorted (wt_sorted n p) (fun y hy=>by
  obtain ⟨c,hc,hp,rfl⟩:=wt_mem.1 hy
  show (c:Int)≠(b:Int)
  intro e
  rw [show c=b by omega,h0] at hp;cases hp)
 refine List.Perm.eq_of_pairwise (le:=lt2) (fun a b _ _ h1 h2=>lt2_irr h1 h2) hs (wt_sorted n p') ?_
 refine (qins_perm _ _).trans ?_
 rw [List.perm_ext_iff_of_nodup (((qins_perm _ _).nodup_iff).1 (lt2_nd hs)) (lt2_nd (wt_sorted n p'))]
 intro x
 rw [List.mem_cons,wt_mem,wt_mem]
 constructor
 · rintro (rfl | ⟨c,hc,hp,rfl⟩)
   · exact ⟨b,hb,h1,rfl⟩
   · refine ⟨c,hc,?_,rfl⟩
     rw [← h c (by rintro rfl;rw [h0] at hp;cases hp)];exact hp
 · rintro ⟨c,hc,hp,rfl⟩
   by_cases e:c=b
   · subst e;exact .inl rfl
   · exact .inr ⟨c,hc,by rw [h c e];exact hp,rfl⟩
theorem wt_congr {n:Nat}{p p':Nat→Bool}(h:∀ c,c<n→p c=p' c):wt n p=wt n p':=by
 unfold wt
 rw [List.filter_congr (fun c hc=>h c (List.mem_range.1 hc))]
theorem wt_len (n:Nat) (p:Nat→Bool):(wt n p).length≤n:=by
 unfold wt
 rw [List.length_map]
 exact Nat.le_trans (List.length_filter_le _ _) (by simp)
def wtJ (w:Graph) (left:List Bool) (l:List Int):List (Int×Int):=wt w.length fun c=>left.getD c false && decide (cnt w left c+inT l c=0)
def ahJ (w:Graph) (left:List Bool) (l:List Int):List Int:=aheadL w.length fun c=>cnt w left c+inT l c
theorem wtJ_nil (w:Graph) {left:List Bool}(hl:left.length=w.length):wtJ w left []=wt w.length (fre (edW w) left):=wt_congr (fun c _=>by rw [fre_cnt hl];simp [inT])
theorem wt_nxt {w:Graph}{left:List Bool}(hl:left.length=w.length):(wt w.length (fre (edW w) left)).head?=(nxt (edW w) left).map pr:=by
 unfold wt nxt
 rw [List.head?_map,List.head?_filter,hl]
theorem wt_take {w:Graph}{left:List Bool}(hl:left.length=w.length) {a:Nat}(hn:nxt (edW w) left=some a):wt w.length (fre (edW w) left)=pr a :: wtJ w (left.set a false) (w.getD a []):=by
 have ha:=nxt_left hn
 have hfa:fre (edW w) left a=true:=List.find?_some hn
 have hal:=(List.getElem?_eq_some_iff.1 ha).1
 have hh:=wt_nxt hl
 rw [hn] at hh
 have hins:=wt_ins (n:=w.length) (p:=fun c=>(left.set a false).getD c false && decide (cnt w (left.set a false) c+inT (w.getD a []) c=0)) (p':=fre (edW w) left) (b:=a) ZO (by rw [set_getD];simp) hfa (fun c hc=>by
  rw [fre_cnt hl,set_getD,cnt_set hl ha,show (c != a)=true by simp [hc],Bool.and_true]
  congr 3
  unfold inT edW
  by_cases hm:(c:Int) ∈ w.getD a [] <;> simp [hm])
 rw [← hins] at hh ⊢
 show _=pr a :: wt _ _
 have hp:=qins_perm (pr a) (wt w.length fun c=>(left.set a false).getD c false && decide (cnt w (left.set a false) c+inT (w.getD a []) c=0))
 cases hq:qins (pr a) (wt w.length fun c=>(left.set a false).getD c false && decide (cnt w (left.set a false) c+inT (w.getD a []) c=0)) with
 | nil=>rw [show qins ((a:Int),(a:Int)) _=_ from hq] at hh;cases hh
 | cons y T=>
  rw [show qins ((a:Int),(a:Int)) _=_ from hq] at hh
  obtain rfl:y=pr a:=by simpa using hh
  show qins (pr a) _=_
  rw [hq] at hp ⊢
  congr 1
  have hs:(pr a :: T).Pairwise lt2:=by rw [← hq];show (qins ((a:Int),(a:Int)) _).Pairwise lt2;rw [hins];exact wt_sorted _ _
  exact List.Perm.eq_of_pairwise (le:=lt2) (fun a b _ _ h1 h2=>lt2_irr h1 h2) (List.pairwise_cons.1 hs).2 (wt_sorted _ _) hp.cons_inv
theorem Run.clear {ed:Nat→Nat→Bool}{left0 left:List Bool}{out:List Nat}(h:Run ed left0 out left):∀ c:Nat,left0[c]?=some true→left[c]?=some true∨∀ b:Nat,left[b]?=some true→ed b c=false:=by
 induction h with
 | nil=>exact fun c hc=>.inl hc
 | @snoc out left a h hn ih=>
  have hfa:=fre_iff.1 (List.find?_some hn)
  have hsub:∀ b:Nat,(left.set a false)[b]?=some true→left[b]?=some true:=by
   intro b hb
   rw [List.getElem?_set] at hb
   split at hb
   · split at hb <;> cases hb
   · exact hb
  intro c hc
  by_cases e:c=a
  · subst e;exact .inr (fun b hb=>hfa.2 b (hsub b hb))
  · rcases ih c hc with h1 | h1
    · left;rw [List.getElem?_set,if_neg (fun x=>e x.symm)];exact h1
    · exact .inr (fun b hb=>h1 b (hsub b hb))
theorem trues_sel:∀ (mem:List Bool),((List.range mem.length).filter fun a=>mem.getD a false).length=trues mem:=by
  intro mem
  unfold trues
  have h:mem=(List.range mem.length).map fun a=>mem.getD a false:=by
    apply List.ext_getElem?
    intro i
    rw [List.getElem?_map]
    by_cases hi:i<mem.length
    · rw [List.getElem?_range hi,List.getElem?_eq_getElem hi];simp [List.getD_eq_getElem?_getD,hi]
    · rw [List.getElem?_eq_none ZO,List.getElem?_eq_none (by simp;omega)];rfl
  conv=>rhs;rw [h]
  rw [List.filter_map,List.length_map]
  rfl
end Go.Proofs.YtogaiijhicfoaaaGreatG


/-
  Package cycle: order's closures, drain.
-/
namespace Go.Proofs.YtogaiijhicfoaaaGreatG
set_option maxRecDepth 100000
set_option maxHeartbeats 4000000
open Go.RowKit Go.Proofs.YtogaiijhicfoaaaGreatK Go.Proofs.YtogaiijhicfoaaaGreatT Go.Proofs.YtogaiijhicfoaaaGreatL
open Go.Proofs.YtogaiijhicfoaaaGreatQ (Pile queueR QOk qins qhas hd1 hd2 hd3 queue_New queue_Put queue_Take ptrV)

theorem pack2 {B:Base}{Φ Φ' Φ'':List Res}{r1 r2:Res}(h1:Pick Φ r1 Φ') (h2:Pick Φ' r2 Φ''):Leads B Φ (bun [r1,r2] :: Φ''):=fun w h=>St.pack (Ψ:=[r1,r2]) (h.perm (h1.perm.trans (h2.perm.cons _)))
theorem unpack2 {B:Base}{Φ Φ':List Res}{r1 r2:Res}(h1:Pick Φ (bun [r1,r2]) Φ'):Leads B Φ (r1 :: r2 :: Φ'):=fun w h=>St.unpack (Ψ:=[r1,r2]) (h.perm h1.perm)
theorem ahJ_at {w:Graph}{left:List Bool}{l:List Int}{b:Nat}{u:Int}(hb:b<w.length) (hu:(ahJ w left l)[b]?=some u):u=((cnt w left b+inT l b:Nat):Int):=by
 unfold ahJ at hu
 rw [aheadL_at hb] at hu
 exact (Option.some.inj hu).symm
theorem ahJ_step (w:Graph) (left:List Bool) {l:List Int}(hl:l.Pairwise (·<·)) {j b:Nat}(hx:l[j]?=some (b:Int)) {v:Int}(hv:v=(cnt w left b:Int)):(ahJ w left (l.drop j)).set b v=ahJ w left (l.drop (j+1)):=by
 obtain ⟨h1,h2,h3⟩:=inT_drop hl hx
 exact aheadL_set (by rw [hv,h2];rfl) (fun c hc=>by rw [h3 c hc])
theorem wtJ_put (w:Graph) {left:List Bool}{l:List Int}(hl:l.Pairwise (·<·)) {j b:Nat}(hx:l[j]?=some (b:Int)) (hb:b<w.length) (h0:cnt w left b=0) (hlb:left.getD b false=true):qhas (wtJ w left (l.drop j)) (b:Int)=false∧qins ((b:Int),(b:Int)) (wtJ w left (l.drop j))=wtJ w left (l.drop (j+1)):=by
 obtain ⟨h1,h2,h3⟩:=inT_drop hl hx
 constructor
 · unfold wtJ
   rw [wt_has hb,h1,decide_eq_false ZO,Bool.and_false]
 · exact wt_ins hb (by rw [h1,decide_eq_false ZO,Bool.and_false]) (by rw [h2,hlb,decide_eq_true ZO];rfl) (fun c hc=>by rw [h3 c hc])
theorem wtJ_skip (w:Graph) {left:List Bool}{l:List Int}(hl:l.Pairwise (·<·)) {j b:Nat}(hx:l[j]?=some (b:Int)) (h0:cnt w left b≠0):wtJ w left (l.drop j)=wtJ w left (l.drop (j+1)):=by
 obtain ⟨h1,h2,h3⟩:=inT_drop hl hx
 refine wt_congr (fun c _=>?_)
 by_cases e:c=b
 · subst e;rw [decide_eq_false ZO,decide_eq_false ZO]
 · rw [h3 c e]
theorem step_left {w:Graph}{mem left:List Bool}{out:List Nat}(hok:WOk w mem) (hrun:Run (edW w) mem out left) {a b:Nat}(hn:nxt (edW w) left=some a) (hx:(b:Int) ∈ w.getD a []):(left.set a false).getD b false=true:=by
 obtain ⟨c,hc,hmb⟩:=hok.mem2 a b hx
 obtain rfl:b=c:=by omega
 have ha:=nxt_left hn
 have he:edW w a b=true:=decide_eq_true hx
 have hfa:=fre_iff.1 (List.find?_some hn)
 have hne:b≠a:=by rintro rfl;have:=hfa.2 b ha;rw [he] at this;cases this
 rw [set_getD]
 rcases hrun.clear b (getD_true hmb) with h | h
 · rw [getD_at h];simp [hne]
 · have:=h a ha;rw [he] at this;cases this

theorem order1 {B:Base}{w:World}(b6 g6:Nat) (ah:List Int) (W0:World) (c:Nat) {v:Int}(hv:ah[c]?=some v) (hl:ah.length≤1000)
 (hS:St B [blk b6 42 [.slice (some ⟨g6,0,none⟩) ah.length ah.length],row (Kd.int .i64) W0 3 (.slice (some ⟨g6,0,none⟩) ah.length ah.length) ah] w) :
 CW 270 #[.int .i64 (c:Int),.pointer (some ⟨b6,0,none⟩)] w
  (Ret B (fun _:Unit=>True) (fun _=>.bool (decide (v=0))) (fun _=>[blk b6 42 [.slice (some ⟨g6,0,none⟩) ah.length ah.length],row (Kd.int .i64) W0 3 (.slice (some ⟨g6,0,none⟩) ah.length ah.length) ah])):=by
 have hcl:=(List.getElem?_eq_some_iff.1 hv).1
 refine ZX Tryz.func270 hS ?_
 refine Zh (Zi (Zp J (Zn (Za (Zh (Zi (Zld ?_)))))))
 refine Zo J (ZR J J ZP ZO J J (fun g6 hg6=>?_))
 first | subst hg6 | (injection hg6 with hg6;injection hg6 with hg6;subst hg6)
 refine ZR1 J ZP ZO J (fun u7 hu7=>?_)
 refine Zy J J (Zza ?_)
 exact ⟨(),trivial,by rw [Option.some.inj (hv.symm.trans hu7)];rfl,Lh⟩
theorem order3 {B:Base}{w:World}(a:Int) {H:List Res}(hS:St B H w) :
 CW 273 #[.int .i64 a] w (Ret B (fun _:Unit=>True) (fun _=>.bool true) (fun _=>H)):=by
 refine ZX Tryz.func273 hS ?_
 refine Zh (Zi (Zp J (Zn (Za (Zh (Zi (Zza ?_)))))))
 exact ⟨(),trivial,rfl,fun _ h=>h⟩
abbrev ordR (b14 b2 b6 b11 q p g6:Nat) (A9:Option Addr) (c9:Nat) (out:List Nat) (A:Option Addr) (cp:Nat) (W:Graph) (ah:List Int) (W0:World) (s:Pile):List Res:=
  [blk b14 42 [.slice A9 out.length c9],row (Kd.int .i64) W0 3 (.slice A9 out.length c9) (out.map Int.ofNat),blk b2 38 [.slice A W.length cp],blk b6 42 [.slice (some ⟨g6,0,none⟩) W.length W.length],row (Kd.int .i64) W0 3 (.slice (some ⟨g6,0,none⟩) W.length W.length) ah,blk b11 127 [ptrV q]]++queueR q p s

theorem order2 {B:Base}{w:World}(b14 b2 b6 b11 q p g6:Nat) (A9:Option Addr) (c9:Nat) (out:List Nat) (A:Option Addr) (cp:Nat) (W:Graph) (W0:World) (s:Pile) (left mem:List Bool) (a:Nat)
 (hS:St B (ordR b14 b2 b6 b11 q p g6 A9 c9 out A cp W (ahJ W (left.set a false) (W.getD a [])) W0 s) w) (hok:WOk W mem) (hrun:Run (edW W) mem out left) (hn:nxt (edW W) left=some a) (hq:QOk s (wtJ W (left.set a false) (W.getD a []))) (hC:kII.C B.e A W) :
 CW 272 #[.int .i64 (a:Int),.pointer (some ⟨b14,0,none⟩),.pointer (some ⟨b2,0,none⟩),.pointer (some ⟨b6,0,none⟩),.pointer (some ⟨b11,0,none⟩)] w
  (Ret B (fun z:(Option Addr×Nat)×Pile=>QOk z.2 (wtJ W (left.set a false) [])) (fun _=>.tuple #[]) (fun z=>ordR b14 b2 b6 b11 q p g6 z.1.1 z.1.2 (out++[a]) A cp W (ahJ W (left.set a false) []) W0 z.2)):=by
 have hnn:=hok.small
 have hln:=hrun.len
 have hml:=hok.len
 have htl:=trues_le mem
 have hal:=(List.getElem?_eq_some_iff.1 (nxt_left hn)).1
 have hrow:=hok.row a
 have hahl:∀ l,(ahJ W (left.set a false) l).length=W.length:=fun l=>aheadL_len _ _
 have hmo:(out++[a]).map Int.ofNat=out.map Int.ofNat++[(a:Int)]:=by simp
 have hol:(out.map Int.ofNat).length=out.length:=by simp
 have hml1:(out++[a]).length=out.length+1:=by simp
 refine ZX Tryz.func272 hS ?_
 refine Zh (Zi (Zld ?_))
 refine Zo J (oBuildSlice1 J J J J J ZP J (fun b10=>?_))
 refine oApp1 _ J J J J ZP ZP J ZO J (fun g11 cp11=>?_)
 refine Zst ?_
 refine Zn (Za (Zh (Zi (Zld ?_))))
 refine Zo J (oIdx J J (hC) J ZO J J (fun e14 u14 cs14 hu14 hk14 hc14=>?_))
 obtain ⟨A0,c0,rfl,hle14,g0⟩:=hk14
 obtain rfl:u14=W.getD a []:=(getD_at hu14).symm
 have m14:=g0.1
 refine Zlx hc14 ?_
 refine Zv J J (Zo J (Zn (Za (Zk ?_))))
 refine wLoop (ι:=Nat×Pile) (fun z=>[(0,.int .i64 (a:Int)),(1,.pointer (some ⟨b14,0,none⟩)),(2,.pointer (some ⟨b2,0,none⟩)),(3,.pointer (some ⟨b6,0,none⟩)),(4,.pointer (some ⟨b11,0,none⟩)),(15,.slice A0 (W.getD a []).length c0),(16,.int .i64 ((W.getD a []).length:Int)),(17,.int .i64 (z.1:Int))]) (fun z=>ordR b14 b2 b6 b11 q p g6 (some ⟨g11,0,none⟩) cp11 (out++[a]) A cp W (ahJ W (left.set a false) ((W.getD a []).drop z.1)) W0 z.2) (fun z=>z.1≤(W.getD a []).length∧QOk z.2 (wtJ W (left.set a false) ((W.getD a []).drop z.1))) (fun z=>(W.getD a []).length-z.1) (0,s) ?_ cv (by dsimp only [ordR];rw [hmo,hml1,List.drop_zero,← hol];exact (Leads.has ZQ)) ?_
 exact ⟨Nat.zero_le _,by rw [List.drop_zero];exact hq⟩
 rintro ⟨j,s1⟩ ⟨hj,hq1⟩
 dsimp only at hj hq1
 try dsimp only
 refine Zh (Zi (Zx J J (Zn (Za (Zh (wC (fun h18=>?_) (fun h18=>?_)))))))
 refine Zj (Za (Zh (Zk (Zh (Zi (oIdx J J (g0) J ZO J J (fun e19 u19 cs19 hu19 hk19 hc19=>?_)))))))
 obtain rfl:=hk19
 obtain ⟨b,rfl,hmb⟩:=hok.mem2 a u19 (List.mem_of_getElem? hu19)
 have hbl:=getD_lt hmb
 have hid:=inT_drop hrow hu19
 have hah1:=hahl ((W.getD a []).drop j)
 have hah2:=hahl ((W.getD a []).drop (j+1))
 refine Zlx hc19 ?_
 refine Zp J (Zn (Za (Zh (Zi (Zld ?_)))))
 refine Zo J (ZR J J ZP ZO J J (fun g23 hg23=>?_))
 first | subst hg23 | (injection hg23 with hg23;injection hg23 with hg23;subst hg23)
 refine ZR1 J ZP ZO J (fun u24 hu24=>?_)
 have hu24':=ahJ_at ZO hu24
 rw [hid.1] at hu24'
 subst hu24'
 refine oSub J J (by have:=cnt_le W (left.set a false) b;omega) ?_
 refine ZR J J ZP ZO J J (fun g26 hg26=>?_)
 first | subst hg26 | (injection hg26 with hg26;injection hg26 with hg26;subst hg26)
 refine oStR _ J J J J ZP (by first | omega | (simp only [List.length_set];omega)) ?_
 refine Zn (Za (Zh (Zi (Zld ?_))))
 rw [ahJ_step W (left.set a false) hrow hu19 ZO]
 refine Zo J (ZR J J ZP ZO J J (fun g29 hg29=>?_))
 first | subst hg29 | (injection hg29 with hg29;injection hg29 with hg29;subst hg29)
 refine ZR1 J ZP ZO J (fun u30 hu30=>?_)
 have hu30':=ahJ_at ZO hu30
 rw [hid.2.1,Nat.add_zero] at hu30'
 subst hu30'
 refine Zy J J (Zn (Za (wC (fun h31=>?_) (fun h31=>?_))))
 have hput:=wtJ_put W hrow hu19 ZO ZO (step_left hok hrun hn (List.mem_of_getElem? hu19))
 have hwl:(wtJ W (left.set a false) ((W.getD a []).drop j)).length≤W.length:=wt_len _ _
 refine Zi (Zld ?_)
 refine Zo J (Zo J ?_)
 (refine ZC0 rfl ZK (fun w hS=>frame hS ZQ (fun B' hB hS'=>queue_Put (p:=p) (s:=s1) hS' hq1 _ _ ZO)) ?_;rintro s2 hq2)
 rw [hput.1,if_neg (by simp),hput.2] at hq2
 refine Zn (Zzi ?_)
 refine Zo J (Zn (Za ?_))
 exact ⟨rfl,(j+1,s2),⟨by show j+1≤_;omega,hq2⟩,by show (W.getD a []).length-(j+1)<(W.getD a []).length-j;omega,cv,Lh⟩
 have hsk:=wtJ_skip W (left:=left.set a false) hrow hu19 ZO
 rw [hsk] at hq1
 refine Zj (Zzi ?_)
 refine Zo J (Zn (Za ?_))
 exact ⟨rfl,(j+1,s1),⟨by show j+1≤_;omega,hq1⟩,by show (W.getD a []).length-(j+1)<(W.getD a []).length-j;omega,cv,Lh⟩
 refine Zm (Zb (Zb (Ze (fin_n ?_))))
 refine ⟨rfl,_,ResL.nil,?_⟩
 obtain rfl:j=(W.getD a []).length:=by omega
 rw [List.drop_length] at hq1 ⊢
 exact ⟨((some ⟨g11,0,none⟩,cp11),s1),hq1,rfl,Lh⟩
end Go.Proofs.YtogaiijhicfoaaaGreatG


/-
  Package cycle: drain, order.
-/
namespace Go.Proofs.YtogaiijhicfoaaaGreatG
set_option maxRecDepth 100000
set_option maxHeartbeats 4000000
open Go.RowKit Go.Proofs.YtogaiijhicfoaaaGreatK Go.Proofs.YtogaiijhicfoaaaGreatT Go.Proofs.YtogaiijhicfoaaaGreatL
open Go.Proofs.YtogaiijhicfoaaaGreatQ (Pile queueR QOk qins qhas hd1 hd2 hd3 queue_New queue_Put queue_Take ptrV)

abbrev takeV (q:Nat):Value:=.func (.func 114) #[ptrV q] #[]
abbrev doV (b14 b2 b6 b11:Nat):Value:=.func (.func 272) #[] #[.pointer (some ⟨b14,0,none⟩),.pointer (some ⟨b2,0,none⟩),.pointer (some ⟨b6,0,none⟩),.pointer (some ⟨b11,0,none⟩)]
theorem wtJ_cases (W:Graph) {left:List Bool}(hl:left.length=W.length):(hd3 (wtJ W left [])=false∧nxt (edW W) left=none)∨∃ a,nxt (edW W) left=some a∧wtJ W left []=pr a :: wtJ W (left.set a false) (W.getD a []):=by
 rw [wtJ_nil W hl]
 cases hn:nxt (edW W) left with
 | none=>
  left
  refine ⟨?_,rfl⟩
  have:=wt_nxt hl
  rw [hn] at this
  cases hw:wt W.length (fre (edW W) left) with
  | nil=>rfl
  | cons x T=>rw [hw] at this;cases this
 | some a=>exact .inr ⟨a,rfl,wt_take hl hn⟩
theorem ahJ_take {W:Graph}{left:List Bool}(hl:left.length=W.length) {a:Nat}(hn:nxt (edW W) left=some a):ahJ W left []=ahJ W (left.set a false) (W.getD a []):=aheadL_congr (fun c=>by
 rw [cnt_set hl (nxt_left hn)]
 unfold inT edW
 by_cases hm:(c:Int) ∈ W.getD a [] <;> simp [hm])

theorem drain_any {B:Base}{w:World}(b14 b2 b6 b11 q p g6:Nat) (A9:Option Addr) (c9:Nat) (out:List Nat) (A:Option Addr) (cp:Nat) (W:Graph) (W0:World) (s:Pile) (left mem:List Bool)
 (hS:St B (ordR b14 b2 b6 b11 q p g6 A9 c9 out A cp W (ahJ W left []) W0 s) w) (hok:WOk W mem) (hrun:Run (edW W) mem out left) (hq:QOk s (wtJ W left [])) (hC:kII.C B.e A W) :
 CW 271 #[takeV q,doV b14 b2 b6 b11] w
  (Ret B (fun z:(Option Addr×Nat)×(List Nat×List Bool)×Pile=>Run (edW W) mem z.2.1.1 z.2.1.2∧nxt (edW W) z.2.1.2=none) (fun _=>.tuple #[]) (fun z=>ordR b14 b2 b6 b11 q p g6 z.1.1 z.1.2 z.2.1.1 A cp W (ahJ W z.2.1.2 []) W0 z.2.2)):=by
 have hml:=hok.len
 refine ZX Tryz.func271 hS ?_
 refine Zk (wLoop (ι:=(Option Addr×Nat)×(List Nat×List Bool)×Pile) (fun z=>[(0,takeV q),(1,doV b14 b2 b6 b11)]) (fun z=>ordR b14 b2 b6 b11 q p g6 z.1.1 z.1.2 z.2.1.1 A cp W (ahJ W z.2.1.2 []) W0 z.2.2) (fun z=>Run (edW W) mem z.2.1.1 z.2.1.2∧QOk z.2.2 (wtJ W z.2.1.2 [])) (fun z=>trues z.2.1.2) ((A9,c9),(out,left),s) ?_ cv Lh ?_)
 exact ⟨hrun,hq⟩
 rintro ⟨⟨A1,c1⟩,⟨out1,left1⟩,s1⟩ ⟨hrun1,hq1⟩
 dsimp only at hrun1 hq1
 have hl1:left1.length=W.length:=by have:=hrun1.len;omega
 try dsimp only
 refine Zk (Zh (Zi (Zo J ?_)))
 (refine oCallV rfl rfl rfl ZK (fun w hS=>frame hS ZQ (fun B' hB hS'=>queue_Take (p:=p) (s:=s1) hS' hq1)) ?_;rintro s2 hq2)
 refine Zo J (oExt J ZP ?_)
 refine oExt J ZP ?_
 refine oExt J ZP ?_
 refine Zp J (Zp J (Zp J (Zn (Za (Zh (Zh (Zi (Zo J (Zno ?_)))))))))
 refine Zn (Za (wC (fun h14=>?_) (fun h14=>?_)))
 have hnx:nxt (edW W) left1=none:=by
  rcases wtJ_cases W hl1 with h | ⟨a,h1,h2⟩
  · exact h.2
  · rw [h2] at h14;cases h14
 refine Zl (Zc (Zf (Zc (Zf (Zw ?_)))))
 refine ⟨rfl,_,ResL.nil,?_⟩
 exact ⟨((A1,c1),(out1,left1),s2),⟨hrun1,hnx⟩,rfl,Lh⟩
 obtain ⟨a,hnx,hW⟩:∃ a,nxt (edW W) left1=some a∧wtJ W left1 []=pr a :: wtJ W (left1.set a false) (W.getD a []):=by
  rcases wtJ_cases W hl1 with h | h
  · rw [h.1] at h14;cases h14
  · exact h
 rw [hW] at hq2 ⊢
 rw [ahJ_take hl1 hnx]
 refine Zj (Za (Zi (Zo J (Zo J ?_))))
 (refine oCallV rfl rfl rfl ZK (fun w hS=>frame hS ZQ (fun B' hB hS'=>order2 b14 b2 b6 b11 q p g6 A1 c1 out1 A cp W W0 s2 left1 mem a hS' hok hrun1 hnx hq2 (Kd.C_grow hB hC))) ?_;rintro ⟨⟨A2,c2⟩,s3⟩ hq3)
 dsimp only at hq3
 refine Zn (Zd (Za ?_))
 exact ⟨rfl,((A2,c2),(out1++[a],left1.set a false),s3),⟨.snoc hrun1 hnx,hq3⟩,trues_lt (nxt_left hnx),cv,Lh⟩
end Go.Proofs.YtogaiijhicfoaaaGreatG


/-
  Package cycle: order.
-/
namespace Go.Proofs.YtogaiijhicfoaaaGreatG
set_option maxRecDepth 100000
set_option maxHeartbeats 4000000
open Go.RowKit Go.Proofs.YtogaiijhicfoaaaGreatK Go.Proofs.YtogaiijhicfoaaaGreatT Go.Proofs.YtogaiijhicfoaaaGreatL
open Go.Proofs.YtogaiijhicfoaaaGreatQ (Pile queueR QOk qins qhas hd1 hd2 hd3 queue_New queue_Put queue_Take ptrV lt2)

def kahn (W:Graph) (mem:List Bool):List Nat:=gr (edW W) (trues mem) mem
def kok (W:Graph) (mem:List Bool):Bool:=decide ((kahn W mem).length=trues mem)
def kL (W:Graph) (mem:List Bool):List Int:=if kok W mem then (kahn W mem).map Int.ofNat else []
theorem bld_at {W:Graph}{i j b:Nat}{u:Int}(hb:b<W.length) (hu:(aheadL W.length (bld W i j))[b]?=some u):u=(bld W i j b:Int):=by
 rw [aheadL_at hb] at hu
 exact (Option.some.inj hu).symm
theorem bld_step {W:Graph}{i j b:Nat}(hl:(W.getD i []).Pairwise (·<·)) (hx:(W.getD i [])[j]?=some (b:Int)):(aheadL W.length (bld W i j)).set b ((bld W i j b:Int)+1)=aheadL W.length (bld W i (j+1)):=by
 obtain ⟨h1,h2,h3⟩:=inT_take hl hx
 exact aheadL_set (by unfold bld;rw [h1,h2];omega) (fun c hc=>by unfold bld;rw [h3 c hc])
def freL (W:Graph) (mem:List Bool):List Nat:=(List.range W.length).filter (fre (edW W) mem)
theorem freL_sel {W:Graph}{mem:List Bool}(h:WOk W mem):selTo (memb mem fun a=>decide (cnt W mem a=0)) mem.length=(freL W mem).map Int.ofNat:=by
 unfold selTo freL
 rw [h.len]
 congr 1
 exact List.filter_congr (fun c _=>by rw [fre_cnt h.len.symm];rfl)
theorem nat_at {l:List Nat}{k:Nat}{u:Int}(h:(l.map Int.ofNat)[k]?=some u):∃ x:Nat,l[k]?=some x∧u=(x:Int):=by
 rw [List.getElem?_map] at h
 cases hx:l[k]? with
 | none=>rw [hx] at h;cases h
 | some x=>rw [hx] at h;exact ⟨x,rfl,(Option.some.inj h).symm⟩
theorem qins_last {x:Int×Int}{L:List (Int×Int)}(h:∀ y ∈ L,lt2 y x):qins x L=L++[x]:=by
 induction L with
 | nil=>rfl
 | cons y L ih=>
  simp only [qins]
  rw [if_neg (by have:=h y List.mem_cons_self;unfold lt2 at *;omega),ih (fun z hz=>h z (List.mem_cons_of_mem _ hz))];rfl
theorem freL_take {W:Graph}{mem:List Bool}{k x:Nat}(hx:(freL W mem)[k]?=some x):qhas (((freL W mem).take k).map pr) (x:Int)=false∧qins ((x:Int),(x:Int)) (((freL W mem).take k).map pr)=((freL W mem).take (k+1)).map pr:=by
 have hp:(freL W mem).Pairwise (·<·):=List.pairwise_lt_range.sublist List.filter_sublist
 obtain ⟨hk,rfl⟩:=List.getElem?_eq_some_iff.1 hx
 have hlt:∀ y ∈ (freL W mem).take k,y<(freL W mem)[k]:=by
  intro y hy
  obtain ⟨i,hi,rfl⟩:=List.mem_take_iff_getElem.1 hy
  exact List.pairwise_iff_getElem.1 hp i k ZO hk ZO
 constructor
 · unfold qhas
   rw [List.any_eq_false]
   intro y hy
   obtain ⟨c,hc,rfl⟩:=List.mem_map.1 hy
   have:=hlt c hc
   show ¬ ((c:Int) == _)=true
   rw [beq_iff_eq];omega
 · rw [List.take_add_one,List.getElem?_eq_getElem hk,List.map_append]
   exact qins_last (fun y hy=>by
    obtain ⟨c,hc,rfl⟩:=List.mem_map.1 hy
    have:=hlt c hc
    left
    show (c:Int)<_
    omega)
theorem freL_len (W:Graph) (mem:List Bool):(freL W mem).length≤W.length:=Nat.le_trans (List.length_filter_le _ _) (by simp)
theorem sel_all (mem:List Bool):(selTo (memb mem fun _=>true) mem.length).length=trues mem:=by
 unfold selTo
 rw [List.length_map,← trues_sel]
 congr 1
 exact List.filter_congr (fun c _=>by unfold memb;rw [Bool.and_true])
theorem kahn_end {W:Graph}{mem left:List Bool}{out:List Nat}(hrun:Run (edW W) mem out left) (hn:nxt (edW W) left=none):kahn W mem=out:=(hrun.done hn).symm
theorem kahn_bad {W:Graph}{mem left:List Bool}{out:List Nat}(hrun:Run (edW W) mem out left) (hn:nxt (edW W) left=none) (h:out.length<trues mem):kok W mem=false∧kL W mem=[]:=by
 have h1:kok W mem=false:=by unfold kok;rw [kahn_end hrun hn];exact decide_eq_false ZO
 exact ⟨h1,by unfold kL;rw [h1];rfl⟩
theorem kahn_good {W:Graph}{mem left:List Bool}{out:List Nat}(hrun:Run (edW W) mem out left) (hn:nxt (edW W) left=none) (h:¬ out.length<trues mem):kok W mem=true∧kL W mem=out.map Int.ofNat:=by
 have h0:=hrun.len
 have h1:kok W mem=true:=by unfold kok;rw [kahn_end hrun hn];exact decide_eq_true ZO
 exact ⟨h1,by unfold kL;rw [h1,if_pos rfl,kahn_end hrun hn]⟩
theorem o1 {B:Base}{w:World}(W:Graph) (mem:List Bool) (b6 g6:Nat) (W0:World) (a:Nat) (hn:W.length≤1000) (ha:a<W.length)
 (hS:St B [bun [blk b6 42 [.slice (some ⟨g6,0,none⟩) W.length W.length],row (Kd.int .i64) W0 3 (.slice (some ⟨g6,0,none⟩) W.length W.length) (aheadL W.length (cnt W mem))]] w) :
 CW 270 (#[]++[Value.int .i64 (a:Int)].toArray++#[.pointer (some ⟨b6,0,none⟩)]) w (Ret B (fun _:Unit=>True) (fun _=>.bool (decide (cnt W mem a=0))) (fun _=>[bun [blk b6 42 [.slice (some ⟨g6,0,none⟩) W.length W.length],row (Kd.int .i64) W0 3 (.slice (some ⟨g6,0,none⟩) W.length W.length) (aheadL W.length (cnt W mem))]])):=by
 have hl:=aheadL_len W.length (cnt W mem)
 have h1:=order1 (B:=B) (w:=w) b6 g6 (aheadL W.length (cnt W mem)) W0 a (aheadL_at ha) ZO (by rw [hl];exact hS.unpack)
 rw [hl] at h1
 refine h1.mono ?_
 rintro e w' ⟨i,hi,he,hw⟩
 refine ⟨i,hi,?_,St.pack hw⟩
 rw [show decide (cnt W mem a=0)=decide ((cnt W mem a:Int)=0) from decide_eq_decide.2 ZO]
 exact he

theorem order_any {B:Base}{w:World}(hS:St B [] w) (W:Graph) (mem:List Bool) (hok:WOk W mem) (A:Option Addr) (cp:Nat) (hC:kII.C B.e A W) (A1:Option Addr) (cp1:Nat) (hC1:Kd.bool.C B.e A1 mem) (W0:World) :
 CW 233 #[.slice A W.length cp,.slice A1 mem.length cp1] w
  (Ret B (fun _:Option Addr×Nat=>True) (fun z=>.tuple #[.slice z.1 (kL W mem).length z.2,.bool (kok W mem)]) (fun z=>[row (Kd.int .i64) W0 3 (.slice z.1 (kL W mem).length z.2) (kL W mem)])):=by
 have hn:=hok.small
 have hml:=hok.len
 have htl:=trues_le mem
 have hfl:=freL_len W mem
 refine ZX Tryz.func233 hS ?_
 refine Zh (Zi (oBox J ZP (fun b2=>?_)))
 refine Zp J (Zp J (Zn (Za (Zh (Zi (Zld ?_))))))
 refine Zv J J (oMake (kd:=Kd.int .i64) (W:=W0) (0:Int) J J J J J J ZO J (fun g6=>?_))
 rw [show List.replicate W.length (0:Int)=aheadL W.length (bld W 0 0) by rw [← aheadL_zero];exact aheadL_congr (fun c=>(bld_zero W c).symm)]
 refine oAlloc J ZP (fun b6=>?_)
 refine Zst ?_
 refine Zn (Za (Zh (Zh (Zi (Zld ?_)))))
 refine Zv J J (Zo J (Zn (Za (Zk (wLoop (ι:=Nat) (fun i=>[(1,.slice A1 mem.length cp1),(2,.pointer (some ⟨b2,0,none⟩)),(6,.pointer (some ⟨b6,0,none⟩)),(18,.slice A W.length cp),(19,.int .i64 (W.length:Int)),(20,.int .i64 (i:Int))]) (fun i=>[blk b2 38 [.slice A W.length cp],blk b6 42 [.slice (some ⟨g6,0,none⟩) W.length W.length],row (Kd.int .i64) W0 3 (.slice (some ⟨g6,0,none⟩) W.length W.length) (aheadL W.length (bld W i 0))]) (fun i=>i≤W.length) (fun i=>W.length-i) 0 ?_ cv Lh ?_)))))
 exact Nat.zero_le _
 rintro i hi
 try dsimp only
 refine Zh (Zi (Zx J J (Zn (Za (Zh (wC (fun h21=>?_) (fun h21=>?_)))))))
 refine Zj (Za (Zh (Zk (Zh (Zi (oIdx J J (hC) J ZO J J (fun e22 u22 cs22 hu22 hk22 hc22=>?_)))))))
 obtain ⟨A0,c0,rfl,hle22,g0⟩:=hk22
 obtain rfl:u22=W.getD i []:=(getD_at hu22).symm
 have m0:=g0.1
 have hrow:=hok.row i
 refine Zlx hc22 ?_
 refine Zp J (Zn (Za (Zh (Zi (Zo J (Zv J J (Zo J (Zn (Za (Zk (wLoop (ι:=Nat) (fun j=>[(1,.slice A1 mem.length cp1),(2,.pointer (some ⟨b2,0,none⟩)),(6,.pointer (some ⟨b6,0,none⟩)),(18,.slice A W.length cp),(19,.int .i64 (W.length:Int)),(20,.int .i64 (i:Int)),(24,.slice A0 (W.getD i []).length c0),(25,.int .i64 ((W.getD i []).length:Int)),(26,.int .i64 (j:Int))]) (fun j=>[blk b2 38 [.slice A W.length cp],blk b6 42 [.slice (some ⟨g6,0,none⟩) W.length W.length],row (Kd.int .i64) W0 3 (.slice (some ⟨g6,0,none⟩) W.length W.length) (aheadL W.length (bld W i j))]) (fun j=>j≤(W.getD i []).length) (fun j=>(W.getD i []).length-j) 0 ?_ cv Lh ?_)))))))))))
 exact Nat.zero_le _
 rintro j hj
 try dsimp only
 refine Zh (Zi (Zx J J (Zn (Za (Zh (wC (fun h27=>?_) (fun h27=>?_)))))))
 refine Zj (Za (Zh (Zk (Zh (Zi (oIdx J J (g0) J ZO J J (fun e28 u28 cs28 hu28 hk28 hc28=>?_)))))))
 obtain rfl:=hk28
 obtain ⟨b,rfl,hmb⟩:=hok.mem2 i u28 (List.mem_of_getElem? hu28)
 have hbl:=getD_lt hmb
 have hal:=aheadL_len W.length (bld W i j)
 have hbb:=bld_le W i j b
 refine Zlx hc28 ?_
 refine Zp J (Zn (Za (Zi (Zld ?_))))
 refine Zo J (ZR J J ZP ZO J J (fun g32 hg32=>?_))
 first | subst hg32 | (injection hg32 with hg32;injection hg32 with hg32;subst hg32)
 refine ZR1 J ZP ZO J (fun u33 hu33=>?_)
 obtain rfl:=bld_at ZO hu33
 refine oAdd J J ZO ?_
 refine ZR J J ZP ZO J J (fun g35 hg35=>?_)
 first | subst hg35 | (injection hg35 with hg35;injection hg35 with hg35;subst hg35)
 refine oStR _ J J J J ZP (by first | omega | (simp only [List.length_set];omega)) ?_
 refine Zn (Zd (Za (Zi ?_)))
 rw [bld_step hrow hu28]
 refine Zsu ?_
 refine Zo J (Zn (Za ?_))
 exact ⟨rfl,j+1,by omega,by omega,cv,Lh⟩
 obtain rfl:j=(W.getD i []).length:=by omega
 rw [aheadL_congr (bld_next W i)]
 refine Zm (Zb (Zb (Ze (Zzi ?_))))
 refine Zo J (Zn (Za ?_))
 exact ⟨rfl,i+1,by omega,by omega,cv,Lh⟩
 obtain rfl:i=W.length:=by omega
 rw [aheadL_congr (bld_all hok)]
 refine Zm (Zb (Zb (Ze (Za (Zh (Zi ?_))))))
 (refine ZC0 rfl ZK (fun w hS=>frame hS ZQ (fun B' hB hS'=>queue_New hS')) ?_;rintro ⟨q,p,s0⟩ hq0)
 dsimp only at hq0 ⊢
 refine oAlloc J ZP (fun b11=>?_)
 refine Zst ?_
 refine Zn (Za (Zh (Zh (Zi (Zo J (oMakeFunc J (oConv (pack2 (r1:=blk b6 42 [.slice (some ⟨g6,0,none⟩) W.length W.length]) (r2:=row (Kd.int .i64) W0 3 (.slice (some ⟨g6,0,none⟩) W.length W.length) (aheadL W.length (cnt W mem))) ZP ZP) ?_)))))))
 (refine ZC0 rfl ZK (fun w hS=>frame hS ZQ (fun B' hB hS'=>members_any (R:=bun [blk b6 42 [.slice (some ⟨g6,0,none⟩) W.length W.length],row (Kd.int .i64) W0 3 (.slice (some ⟨g6,0,none⟩) W.length W.length) (aheadL W.length (cnt W mem))]) hS' mem A1 cp1 (Kd.C_grow hB hC1) ZO 270 #[.pointer (some ⟨b6,0,none⟩)] (fun a=>decide (cnt W mem a=0)) ZK (fun B'' w a hB2 ha hS2=>o1 W mem b6 g6 W0 a hn ZO hS2) W0)) ?_;rintro ⟨A41,c41⟩ -)
 refine oConv (unpack2 ZP) ?_
 rw [freL_sel hok]
 refine Zv J J (Zo J (Zn (Za (Zk (wLoop (ι:=Nat×Pile) (fun z=>[(1,.slice A1 mem.length cp1),(2,.pointer (some ⟨b2,0,none⟩)),(6,.pointer (some ⟨b6,0,none⟩)),(11,.pointer (some ⟨b11,0,none⟩)),(41,.slice A41 ((freL W mem).map Int.ofNat).length c41),(42,.int .i64 (((freL W mem).map Int.ofNat).length:Int)),(43,.int .i64 (z.1:Int))]) (fun z=>[blk b2 38 [.slice A W.length cp],blk b6 42 [.slice (some ⟨g6,0,none⟩) W.length W.length],row (Kd.int .i64) W0 3 (.slice (some ⟨g6,0,none⟩) W.length W.length) (aheadL W.length (cnt W mem)),blk b11 127 [ptrV q],row (Kd.int .i64) W0 3 (.slice A41 ((freL W mem).map Int.ofNat).length c41) ((freL W mem).map Int.ofNat)]++queueR q p z.2) (fun z=>z.1≤((freL W mem).map Int.ofNat).length∧QOk z.2 (((freL W mem).take z.1).map pr)) (fun z=>((freL W mem).map Int.ofNat).length-z.1) (0,s0) ?_ cv Lh ?_)))))
 exact ⟨Nat.zero_le _,hq0⟩
 rintro ⟨k,s1⟩ ⟨hk,hq1⟩
 dsimp only at hk hq1
 have hfm:((freL W mem).map Int.ofNat).length=(freL W mem).length:=List.length_map _
 try dsimp only
 refine Zh (Zi (Zx J J (Zn (Za (Zh (wC (fun h44=>?_) (fun h44=>?_)))))))
 refine Zj (Za (Zh (Zk (Zh (Zi (ZR J J ZP ZO J J (fun g45 hg45=>?_)))))))
 first | subst hg45 | (injection hg45 with hg45;injection hg45 with hg45;subst hg45)
 refine ZR1 J ZP ZO J (fun u46 hu46=>?_)
 obtain ⟨x,hx,rfl⟩:=nat_at hu46
 have hft:=freL_take hx
 refine Zp J (Zn (Za (Zi (Zld ?_))))
 refine Zo J (Zo J ?_)
 (refine ZC0 rfl ZK (fun w hS=>frame hS ZQ (fun B' hB hS'=>queue_Put (p:=p) (s:=s1) hS' hq1 _ _ (by rw [List.length_map,List.length_take];omega))) ?_;rintro s2 hq2)
 rw [hft.1,if_neg (by simp),hft.2] at hq2
 refine Zn (Zzi ?_)
 refine Zo J (Zn (Za ?_))
 exact ⟨rfl,(k+1,s2),⟨by show k+1≤_;omega,hq2⟩,by show _-(k+1)<_-k;omega,cv,Lh⟩
 obtain rfl:k=((freL W mem).map Int.ofNat).length:=by omega
 rw [List.length_map,List.take_length] at hq1
 rw [show aheadL W.length (cnt W mem)=ahJ W mem [] from aheadL_congr (fun c=>by simp [inT])]
 have hq2:QOk s1 (wtJ W mem []):=by rw [wtJ_nil W hml.symm];exact hq1
 refine Zm (Zb (Zb (Ze (Za (Zh (Zi (oAlloc J ZP (fun b14=>?_))))))))
 refine Zn (Za (Zh (Zi (Zld ?_))))
 refine oMakeFuncB J J (oMakeFunc J (oConv (show Leads _ _ (ordR b14 b2 b6 b11 q p g6 none 0 [] A cp W (ahJ W mem []) W0 s1++[row (Kd.int .i64) W0 3 (.slice A41 ((freL W mem).map Int.ofNat).length c41) ((freL W mem).map Int.ofNat)]) from (Leads.nilrow (kd:=Kd.int .i64) (W:=W0) (e:=3)).trans Lh) ?_))
 (refine ZC0 rfl ZK (fun w hS=>frame hS ZQ (fun B' hB hS'=>drain_any b14 b2 b6 b11 q p g6 none 0 [] A cp W W0 s1 mem mem hS' hok .nil hq2 (Kd.C_grow hB hC))) ?_;rintro ⟨⟨A9,c9⟩,⟨out,left⟩,s3⟩ ⟨hrun,hnx⟩)
 dsimp only at hrun hnx ⊢
 refine Zn (Za (Zh (Zh (wDrawG J [0,1,2] [(3,[0,1],[]),(4,[0,1],[])] [5] 24 ZK J J (fun w0=>?_)))))
 refine Zld ?_
 refine Zv J J (Zo J (Z4 (Z5 J (oConv bun_nil ?_))))
 (refine ZC0 rfl ZK (fun w hS=>frame hS ZQ (fun B' hB hS'=>members_any (R:=bun []) hS' mem A1 cp1 (Kd.C_grow hB hC1) ZO 273 #[] (fun a=>true) ZK (fun B'' w a hB2 ha hS2=>order3 (a:Int) hS2) W0)) ?_;rintro ⟨A59,c59⟩ -)
 have hsa:=sel_all mem
 refine ZG ?_ J (fun w0=>?_)
 refine Z8 J J J J (fun w0=>?_) ?_
 refine Zld ?_
 exact Z9 rfl
 refine Z8 J J J J (fun w0=>?_) ?_
 refine Zv J J ?_
 exact Z9 rfl
 exact AgainG.nil
 refine Z4 (Z5 J (Zv J J (ZG ?_ J (fun w0=>?_))))
 refine Z8 J J J J (fun w0=>?_) ?_
 refine Zld ?_
 exact Z9 rfl
 refine Z8 J J J J (fun w0=>?_) ?_
 refine Zv J J ?_
 exact Z9 rfl
 exact AgainG.nil
 refine Z6 (Zx J J (Zn (Za (wC (fun h61=>?_) (fun h61=>?_)))))
 have hb:=kahn_bad hrun hnx ZO
 refine Zh (Zi (Zzo ?_))
 refine ⟨rfl,_,(ResL.cons (ResR.tmp rfl) (ResL.cons (ResR.tmp rfl) ResL.nil)),?_⟩
 exact ⟨(none,0),trivial,by rw [hb.1,hb.2];rfl,by rw [hb.2];exact Leads.nilrow.trans Lh⟩
 have hb:=kahn_good hrun hnx ZO
 have ho2:(out.map Int.ofNat).length=out.length:=List.length_map _
 refine Zj (Za (Zh (Zi (Zld ?_))))
 refine Zp J (Zp J (Zn (Za (Zl (Zw ?_)))))
 refine ⟨rfl,_,(ResL.cons (ResR.tmp rfl) (ResL.cons (ResR.tmp rfl) ResL.nil)),?_⟩
 exact ⟨(A9,c9),trivial,by rw [hb.1,hb.2,ho2];rfl,by rw [hb.2,ho2];exact (Leads.has ZQ)⟩
end Go.Proofs.YtogaiijhicfoaaaGreatG


/-
  Package cycle: Order, Back; the reference's Back.
-/
namespace Go.Proofs.YtogaiijhicfoaaaGreatG
set_option maxRecDepth 100000
set_option maxHeartbeats 4000000
open Go.RowKit Go.Proofs.YtogaiijhicfoaaaGreatK Go.Proofs.YtogaiijhicfoaaaGreatT Go.Proofs.YtogaiijhicfoaaaGreatL

theorem withinP_out {g:Graph}{ib:List Bool}{b:Nat}(h:¬ b<g.length):(withinP g ib).getD b []=[]:=by
 rw [List.getD_eq_getElem?_getD,List.getElem?_eq_none (by rw [withinP_len];omega)];rfl
theorem memF_getD {g:Graph}{ib:List Bool}{x:Int}(h:memF g ib x=true):∃ c:Nat,x=(c:Int)∧(memL g ib).getD c false=true:=by
 have h0:=h
 unfold memF at h
 simp only [Bool.and_eq_true,decide_eq_true_eq] at h
 obtain ⟨c,rfl⟩:=Int.eq_ofNat_of_zero_le h.1.1.1
 exact ⟨c,rfl,by rw [memL_getD ZO];exact h0⟩
theorem wok {g:Graph}(hsm:SmallG g) (ib:List Bool):WOk (withinP g ib) (memL g ib):=by
 refine ⟨by rw [withinP_len,memL_len],by rw [withinP_len];exact hsm.1,fun b=>?_,fun b x hx=>?_,fun b x hx=>?_⟩
 · by_cases h:b<g.length
   · rw [withinP_at h];exact wp_nodup g ib b
   · rw [withinP_out h];exact List.Pairwise.nil
 · by_cases h:b<g.length
   · rw [withinP_at h] at hx
     rw [memL_getD h];exact (wp_mem hx).1
   · rw [withinP_out h] at hx;cases hx
 · by_cases h:b<g.length
   · rw [withinP_at h] at hx
     exact memF_getD (wp_mem hx).2.1
   · rw [withinP_out h] at hx;cases hx
theorem fre_congr {ed ed':Nat→Nat→Bool}{left:List Bool}{c:Nat}(hc:c<left.length) (h:∀ b a,b<left.length→a<left.length→ed b a=ed' b a):fre ed left c=fre ed' left c:=by
 unfold fre
 congr 1
 rw [Bool.eq_iff_iff,List.all_eq_true,List.all_eq_true]
 constructor
 · intro hh b hb;rw [← h b c (List.mem_range.1 hb) hc];exact hh b hb
 · intro hh b hb;rw [h b c (List.mem_range.1 hb) hc];exact hh b hb
theorem find_congr {α:Type}{p q:α→Bool} : ∀ {l:List α},(∀ a ∈ l,p a=q a)→l.find? p=l.find? q
 | [],_=>rfl
 | x :: l,h=>by
  rw [List.find?_cons,List.find?_cons,h x List.mem_cons_self,find_congr (fun a ha=>h a (List.mem_cons_of_mem _ ha))]
theorem gr_congr {ed ed':Nat→Nat→Bool}{n:Nat}(h:∀ b a,b<n→a<n→ed b a=ed' b a):∀ (f:Nat) (left:List Bool),left.length=n→gr ed f left=gr ed' f left
 | 0,_,_=>rfl
 | f+1,left,hl=>by
  have hn:nxt ed left=nxt ed' left:=find_congr (fun a ha=>fre_congr (List.mem_range.1 ha) (fun b a hb ha=>h b a (hl ▸ hb) (hl ▸ ha)))
  unfold gr
  rw [hn]
  cases nxt ed' left with
  | none=>rfl
  | some a=>simp only;rw [gr_congr h f (left.set a false) (by rw [List.length_set];exact hl)]
theorem kahn_seq (g:Graph) (ib:List Bool):kahn (withinP g ib) (memL g ib)=seqN g ib:=gr_congr (n:=g.length) (fun b a hb ha=>by
 rw [Bool.eq_iff_iff,edR_iff ha hb]
 unfold edW
 rw [decide_eq_true_eq,withinP_at hb]) _ _ (memL_len g ib)
theorem kok_ok (g:Graph) (ib:List Bool):kok (withinP g ib) (memL g ib)=okO g ib:=by unfold kok okO;rw [kahn_seq]
theorem kL_ord (g:Graph) (ib:List Bool):kL (withinP g ib) (memL g ib)=ordL g ib:=by unfold kL ordL;rw [kok_ok,kahn_seq]

theorem orderP {B:Base}{w:World}(hS:St B [] w) (g:Graph) (A:Option Addr) (cp:Nat) (hC:kII.C B.e A g) (hsm:SmallG g) (ib:List Bool) (A1:Option Addr) (cp1:Nat) (hC1:Kd.bool.C B.e A1 ib) (hib:ib.length≤1000) (W0:World) :
 CW 197 #[.slice A g.length cp,.slice A1 ib.length cp1] w
  (Ret B (fun _:Option Addr×Nat=>True) (fun z=>.tuple #[.slice z.1 (ordL g ib).length z.2,.bool (okO g ib)]) (fun z=>[row (Kd.int .i64) W0 3 (.slice z.1 (ordL g ib).length z.2) (ordL g ib)])):=by
 have hn:=hsm.1
 refine ZX Tryz.func197 hS ?_
 refine Zh (Zi (Zp J (Zp J (Zn (Za (Zzu ?_))))))
 (refine ZC0 rfl ZK (fun w hS=>frame hS ZQ (fun B' hB hS'=>within_any hS' g A cp (Kd.C_grow hB hC) hsm ib A1 cp1 (Kd.C_grow hB hC1) hib B.e)) ?_;rintro ⟨⟨A8,c8,hs8⟩,A6,c6⟩ hl8)
 dsimp only at hl8 ⊢
 refine oExt J ZP ?_
 refine ZS0 (t:=9) (v':=.slice A8 (withinP g ib).length c8) rfl (by rw [withinP_len]) ?_
 refine oExt J ZP ?_
 refine ZS0 (t:=10) (v':=.slice A6 (memL g ib).length c6) rfl (by rw [memL_len]) ?_
 (refine ZD J (fun w B' hB hR hS'=>order_any hS' (withinP g ib) (memL g ib) (wok hsm ib) A8 c8 (grid_C (hR _ _ ZP) (hR _ _ ZP) (by rw [withinP_len];exact hl8) hB) A6 c6 (row_C (kd:=Kd.bool) (W:=B.e) (e:=4) (A:=A6) (n:=g.length) (cp:=c6) (xs:=memL g ib) (hR _ _ ZP) hB).2.2.1 W0) ?_;rintro ⟨A11,c11⟩ -)
 rw [kL_ord,kok_ok]
 dsimp only
 refine oExt J ZP ?_
 refine oExt J ZP ?_
 refine Zp J (Zp J (Zn (Za (Zl (Zw ?_)))))
 refine ⟨rfl,_,(ResL.cons (ResR.tmp rfl) (ResL.cons (ResR.tmp rfl) ResL.nil)),?_⟩
 exact ⟨(A11,c11),trivial,rfl,Lh⟩
inductive Pth (ed:Nat→Nat→Bool):Nat→Nat→Prop
  | one {a b:Nat} : ed a b=true→Pth ed a b
  | snoc {a b c:Nat} : Pth ed a b→ed b c=true→Pth ed a c
theorem Pth.trans {ed:Nat→Nat→Bool}{a b c:Nat}(h:Pth ed a b) (k:Pth ed b c):Pth ed a c:=by
 induction k with
 | one h1=>exact .snoc h h1
 | snoc _ h2 ih=>exact .snoc ih h2
theorem Pth.mono {ed ed':Nat→Nat→Bool}(hf:∀ a b,ed a b=true→ed' a b=true) {a b:Nat}(h:Pth ed a b):Pth ed' a b:=by
 induction h with
 | one h1=>exact .one (hf _ _ h1)
 | snoc _ h2 ih=>exact .snoc ih (hf _ _ h2)
theorem cyc {P:Nat→Nat→Prop}(ht:∀ a b c,P a b→P b c→P a c):∀ L:List Nat,L≠[]→(∀ a ∈ L,∃ b ∈ L,P b a)→∃ a ∈ L,P a a
 | [],h,_=>absurd rfl h
 | a :: L,_,h=>by
  by_cases haa:P a a
  · exact ⟨a,List.mem_cons_self,haa⟩
  · obtain ⟨c,hc,hca⟩:=h a List.mem_cons_self
    have hcL:c ∈ L:=by
     rcases List.mem_cons.1 hc with rfl | h1
     · exact absurd hca haa
     · exact h1
    obtain ⟨x,hx,hxx⟩:=cyc ht L (List.ne_nil_of_mem hcL) (fun y hy=>by
     obtain ⟨b,hb,hby⟩:=h y (List.mem_cons_of_mem _ hy)
     rcases List.mem_cons.1 hb with rfl | hb
     · exact ⟨c,hcL,ht _ _ _ hca hby⟩
     · exact ⟨b,hb,hby⟩)
    exact ⟨x,List.mem_cons_of_mem _ hx,hxx⟩
section
variable {ed : Nat → Nat → Bool} {mem : List Bool}
theorem Run.out {left:List Bool}{out:List Nat}(h:Run ed mem out left):(∀ c:Nat,mem[c]?=some true→left[c]?=some true∨c ∈ out)∧(∀ c ∈ out,mem[c]?=some true∧left[c]?=some false)∧out.Nodup:=by
 induction h with
 | nil=>exact ⟨fun c hc=>.inl hc,by simp,List.nodup_nil⟩
 | @snoc out left a h hn ih=>
  obtain ⟨h1,h2,h3⟩:=ih
  have ha:=nxt_left hn
  have hal:=(List.getElem?_eq_some_iff.1 ha).1
  have hml:=h.len.1
  refine ⟨fun c hc=>?_,fun c hc=>?_,?_⟩
  · by_cases e:a=c
    · subst e;exact .inr (by simp)
    · rcases h1 c hc with k | k
      · left;rw [List.getElem?_set,if_neg e];exact k
      · exact .inr (List.mem_append_left _ k)
  · rcases List.mem_append.1 hc with k | k
    · obtain ⟨k1,k2⟩:=h2 c k
      refine ⟨k1,?_⟩
      by_cases e:a=c
      · subst e;rw [List.getElem?_set,if_pos rfl,if_pos hal]
      · rw [List.getElem?_set,if_neg e];exact k2
    · obtain rfl:=List.mem_singleton.1 k
      refine ⟨?_,by rw [List.getElem?_set,if_pos rfl,if_pos hal]⟩
      have:∀ {l l':List Bool}{o:List Nat},Run ed l o l'→∀ c:Nat,l'[c]?=some true→l[c]?=some true:=by
       intro l l' o hr
       induction hr with
       | nil=>exact fun c h=>h
       | snoc _ _ ih=>
        intro c hc
        rw [List.getElem?_set] at hc
        split at hc
        · split at hc <;> cases hc
        · exact ih c hc
      exact this h c ha
  · rw [List.nodup_append]
    refine ⟨h3,by simp,?_⟩
    intro x hx y hy
    obtain rfl:=List.mem_singleton.1 hy
    rintro rfl
    have:=(h2 x hx).2
    rw [ha] at this;cases this
theorem idx_app {l:List Nat}{a x:Nat}(h:x ∈ l):(l++[a]).idxOf x=l.idxOf x:=by rw [List.idxOf_append,if_pos h]
theorem idx_last {l:List Nat}{a:Nat}(h:¬ a ∈ l):(l++[a]).idxOf a=l.length:=by rw [List.idxOf_append,if_neg h];simp
theorem Run.ahead (hmem:∀ b a,ed b a=true→mem[b]?=some true) {left:List Bool}{out:List Nat}(h:Run ed mem out left):∀ a ∈ out,∀ b,ed b a=true→b ∈ out∧out.idxOf b<out.idxOf a:=by
 induction h with
 | nil=>intro a h;cases h
 | @snoc out left a h hn ih=>
  intro x hx b hb
  rcases List.mem_append.1 hx with k | k
  · obtain ⟨h1,h2⟩:=ih x k b hb
    exact ⟨List.mem_append_left _ h1,by rw [idx_app h1,idx_app k];exact h2⟩
  · obtain rfl:=List.mem_singleton.1 k
    have hfa:=fre_iff.1 (List.find?_some hn)
    obtain ⟨o1,o2,o3⟩:=h.out
    have hbo:b ∈ out:=by
     rcases o1 b (hmem b x hb) with k | k
     · have:=hfa.2 b k;rw [hb] at this;cases this
     · exact k
    have hxo:¬ x ∈ out:=fun h=>by have:=(o2 x h).2;rw [hfa.1] at this;cases this
    exact ⟨List.mem_append_left _ hbo,by rw [idx_app hbo,idx_last hxo];exact List.idxOf_lt_length_iff.2 hbo⟩
theorem run_ex (ed:Nat→Nat→Bool):∀ (n:Nat) {mem left:List Bool}{out:List Nat},Run ed mem out left→trues left≤n→∃ out' left',Run ed mem out' left'∧nxt ed left'=none
 | 0,_,left,out,h,hn=>⟨out,left,h,nxt_trues ZO⟩
 | n+1,_,left,out,h,hn=>by
  cases hx:nxt ed left with
  | none=>exact ⟨out,left,h,hx⟩
  | some a=>exact run_ex ed n (.snoc h hx) (by have:=trues_lt (nxt_left hx);omega)
theorem gr_run (ed:Nat→Nat→Bool) (mem:List Bool):∃ left,Run ed mem (gr ed (trues mem) mem) left∧nxt ed left=none:=by
 obtain ⟨out,left,h1,h2⟩:=run_ex ed _ (Run.nil (ed:=ed) (left0:=mem)) (Nat.le_refl _)
 rw [← h1.done h2]
 exact ⟨left,h1,h2⟩
theorem Pth.mem1 (hmem:∀ b a,ed b a=true→mem[b]?=some true∧mem[a]?=some true) {a b:Nat}(h:Pth ed a b):mem[a]?=some true∧mem[b]?=some true:=by
 induction h with
 | one h=>exact hmem _ _ h
 | snoc _ h ih=>exact ⟨ih.1,(hmem _ _ h).2⟩
theorem order_iff (hmem:∀ b a,ed b a=true→mem[b]?=some true∧mem[a]?=some true):(gr ed (trues mem) mem).length=trues mem↔∀ a,¬ Pth ed a a:=by
 obtain ⟨left,hr,hn⟩:=gr_run ed mem
 have hl:=hr.len
 obtain ⟨o1,o2,o3⟩:=hr.out
 constructor
 · intro h a hp
   have h0:trues left=0:=by omega
   have hin:∀ c:Nat,mem[c]?=some true→c ∈ gr ed (trues mem) mem:=fun c hc=>by
    rcases o1 c hc with k | k
    · have:=trues_set k;omega
    · exact k
   have key:∀ {x y:Nat},Pth ed x y→(gr ed (trues mem) mem).idxOf x<(gr ed (trues mem) mem).idxOf y:=by
    intro x y hxy
    induction hxy with
    | one h=>exact (hr.ahead (fun b a h=>(hmem b a h).1) _ (hin _ (hmem _ _ h).2) _ h).2
    | snoc _ h ih=>exact Nat.lt_trans ih (hr.ahead (fun b a h=>(hmem b a h).1) _ (hin _ (hmem _ _ h).2) _ h).2
   exact Nat.lt_irrefl _ (key hp)
 · intro h
   apply Classical.byContradiction
   intro hne
   have h0:0<trues left:=by omega
   obtain ⟨a0,ha0⟩:=trues_pos h0
   have hL:∀ a ∈ (List.range left.length).filter (fun a=>left.getD a false),∃ b ∈ (List.range left.length).filter (fun a=>left.getD a false),Pth ed b a:=by
    intro a ha
    obtain ⟨h1,h2⟩:=List.mem_filter.1 ha
    have hal:=getD_true h2
    have hnf:¬ fre ed left a=true:=fun hf=>by
     have:=List.find?_eq_none.1 hn a h1
     exact this hf
    rw [fre_iff] at hnf
    have:∃ b:Nat,left[b]?=some true∧ed b a=true:=by
     apply Classical.byContradiction
     intro hx
     exact hnf ⟨hal,fun b hb=>by
      cases he:ed b a with
      | false=>rfl
      | true=>exact absurd ⟨b,hb,he⟩ hx⟩
    obtain ⟨b,hb,he⟩:=this
    exact ⟨b,List.mem_filter.2 ⟨List.mem_range.2 (List.getElem?_eq_some_iff.1 hb).1,by rw [getD_at hb]⟩,.one he⟩
   obtain ⟨x,_,hx⟩:=cyc (P:=Pth ed) (fun _ _ _=>Pth.trans) ((List.range left.length).filter (fun a=>left.getD a false)) (List.ne_nil_of_mem (List.mem_filter.2 ⟨List.mem_range.2 (List.getElem?_eq_some_iff.1 ha0).1,by rw [getD_at ha0]⟩)) hL
   exact h x hx
end
def edE (g:Graph) (ib:List Bool) (b a:Nat):Bool:=decide ((a:Int) ∈ endsOf (withinR g ib) b)
theorem edE_iff {g:Graph}{ib:List Bool}{b a:Nat} : edE g ib b a=true↔b<g.length∧a<g.length∧(a:Int) ∈ g.getD b []∧memF g ib (b:Int)=true∧memF g ib (a:Int)=true:=by
 unfold edE endsOf
 rw [decide_eq_true_eq,List.mem_filter,inG_iff,withinR_len]
 by_cases hb:b<g.length
 · rw [withinR_getD hb,List.mem_filter]
   unfold inP
   rw [Bool.and_eq_true]
   constructor
   · rintro ⟨⟨h1,h2,h3⟩,h4,h5⟩;exact ⟨hb,by omega,h1,h2,h3⟩
   · rintro ⟨_,h1,h2,h3,h4⟩;exact ⟨⟨h2,h3,h4⟩,by omega,by omega⟩
 · rw [List.getD_eq_getElem?_getD,List.getElem?_eq_none (by rw [withinR_len];omega)]
   simp [hb]
theorem memL_mem {g:Graph}{ib:List Bool}{a:Nat}(h:memF g ib (a:Int)=true):(memL g ib)[a]?=some true:=by
 obtain ⟨c,hc,hm⟩:=memF_getD h
 obtain rfl:a=c:=by omega
 exact getD_true hm
theorem edE_mem {g:Graph}{ib:List Bool}(b a:Nat) (h:edE g ib b a=true):(memL g ib)[b]?=some true∧(memL g ib)[a]?=some true:=by
 obtain ⟨_,_,_,h1,h2⟩:=edE_iff.1 h
 exact ⟨memL_mem h1,memL_mem h2⟩
theorem seq_edE (g:Graph) (ib:List Bool):seqN g ib=gr (edE g ib) (trues (memL g ib)) (memL g ib):=gr_congr (n:=g.length) (fun b a hb ha=>by
 unfold edR edE
 rw [edge_ends (by rw [withinR_len];exact hb) (by rw [withinR_len];exact ha)]) _ _ (memL_len g ib)
theorem ok_iff (g:Graph) (ib:List Bool):okO g ib=true↔∀ a,¬ Pth (edE g ib) a a:=by
 unfold okO
 rw [decide_eq_true_eq,seq_edE]
 exact order_iff edE_mem
theorem rp_pth {g:Graph}{ib:List Bool}{a:Nat}{x:Int} : RP (withinR g ib) ((withinR g ib).getD a []) x↔∃ c:Nat,x=(c:Int)∧Pth (edE g ib) a c:=by
 constructor
 · intro h
   induction h with
   | @start x h1 h2=>
    obtain ⟨c,rfl⟩:=Int.eq_ofNat_of_zero_le (inG_iff.1 h2).1
    exact ⟨c,rfl,.one (decide_eq_true (List.mem_filter.2 ⟨h1,h2⟩))⟩
   | @step b x h1 h2 ih=>
    obtain ⟨c,hc,hp⟩:=ih
    obtain rfl:b=c:=by omega
    obtain ⟨d,rfl⟩:=Int.eq_ofNat_of_zero_le (inG_iff.1 (ends_in h2)).1
    exact ⟨d,rfl,.snoc hp (decide_eq_true h2)⟩
 · rintro ⟨c,rfl,hp⟩
   induction hp with
   | one h=>obtain ⟨h1,h2⟩:=List.mem_filter.1 (of_decide_eq_true h);exact .start h1 h2
   | snoc _ h ih=>exact .step ih (of_decide_eq_true h)
theorem on_mem {g:Graph}{ib:List Bool}{x:Int} : x ∈ onL g ib↔∃ c:Nat,x=(c:Int)∧Pth (edE g ib) c c:=by
 unfold onL selTo
 simp only [List.mem_map,List.mem_filter,List.mem_range,Bool.and_eq_true,onP_iff,rp_pth]
 constructor
 · rintro ⟨c,⟨_,_,d,hd,hp⟩,rfl⟩
   obtain rfl:c=d:=by omega
   exact ⟨c,rfl,hp⟩
 · rintro ⟨c,rfl,hp⟩
   have hm:c<g.length∧memF g ib (c:Int)=true:=by
    cases hp with
    | one h=>have:=edE_iff.1 h;exact ⟨this.1,this.2.2.2.1⟩
    | snoc _ h=>have:=edE_iff.1 h;exact ⟨this.2.1,this.2.2.2.2⟩
   exact ⟨c,⟨hm.1,hm.2,c,rfl,hp⟩,rfl⟩
theorem on_nil {g:Graph}{ib:List Bool} : onL g ib=[]↔okO g ib=true:=by
 rw [ok_iff]
 constructor
 · intro h a hp
   have:=on_mem.2 ⟨a,rfl,hp⟩
   rw [h] at this;cases this
 · intro h
   exact List.eq_nil_iff_forall_not_mem.2 (fun x hx=>by obtain ⟨c,_,hp⟩:=on_mem.1 hx;exact h c hp)
structure IsO (g:Graph) (ib:List Bool) (out:List Nat):Prop where
  nodup:out.Nodup
  mem:∀ c ∈ out,memF g ib (c:Int)=true
theorem seq_is (g:Graph) (ib:List Bool):IsO g ib (seqN g ib):=by
 obtain ⟨left,hr,hn⟩:=gr_run (edE g ib) (memL g ib)
 rw [← seq_edE] at hr
 obtain ⟨o1,o2,o3⟩:=hr.out
 exact ⟨o3,fun c hc=>by rw [memL_at (o2 c hc).1]⟩
theorem seq_all {g:Graph}{ib:List Bool}(h:okO g ib=true) {c:Nat}(hc:memF g ib (c:Int)=true):c ∈ seqN g ib:=by
 obtain ⟨left,hr,hn⟩:=gr_run (edE g ib) (memL g ib)
 rw [← seq_edE] at hr
 obtain ⟨o1,o2,o3⟩:=hr.out
 have hl:=hr.len
 have h1:(seqN g ib).length=trues (memL g ib):=of_decide_eq_true h
 rcases o1 c (memL_mem hc) with k | k
 · have:=trues_set k;omega
 · exact k
theorem seq_on {g:Graph}{ib:List Bool}{a b:Nat}(he:edE g ib a b=true) (hb:b ∈ seqN g ib):(seqN g ib).idxOf a<(seqN g ib).idxOf b:=by
 obtain ⟨left,hr,hn⟩:=gr_run (edE g ib) (memL g ib)
 rw [← seq_edE] at hr
 exact (hr.ahead (fun b a h=>(edE_mem b a h).1) b hb a he).2
def nearF (n lo hi:Int):Int:=if n<lo then lo else if hi<n then hi else n
def nr (n:Int):Int:=nearF n 0 1048576
theorem nr_ge (n:Int):0≤nr n∧nr n≤1048576:=by unfold nr nearF;split <;> (try split) <;> omega
def maxI (a b:Int):Int:=if a<b then b else a
def minI (a b:Int):Int:=if b<a then b else a
def mx (L:List Int):Int:=L.foldl maxI 0
theorem fold_le {L:List Int} : ∀ {a z:Int},L.foldl maxI a≤z↔a≤z∧∀ x ∈ L,x≤z:=by
 induction L with
 | nil=>intro a z;simp
 | cons x L ih=>
  intro a z
  rw [List.foldl_cons,ih]
  constructor
  · rintro ⟨h1,h2⟩
    unfold maxI at h1
    refine ⟨by split at h1 <;> omega,fun y hy=>?_⟩
    rcases List.mem_cons.1 hy with rfl | hy
    · split at h1 <;> omega
    · exact h2 y hy
  · rintro ⟨h1,h2⟩
    have:=h2 x List.mem_cons_self
    exact ⟨by unfold maxI;split <;> omega,fun y hy=>h2 y (List.mem_cons_of_mem _ hy)⟩
theorem mx_le {L:List Int}{z:Int} : mx L≤z↔0≤z∧∀ x ∈ L,x≤z:=fold_le
theorem mx_ge (L:List Int):0≤mx L∧∀ x ∈ L,x≤mx L:=mx_le.1 (Int.le_refl _)
theorem mx_ext {L L':List Int}(h:∀ x,x ∈ L↔x ∈ L'):mx L=mx L':=by
 apply Int.le_antisymm
 · exact mx_le.2 ⟨(mx_ge L').1,fun x hx=>(mx_ge L').2 x ((h x).1 hx)⟩
 · exact mx_le.2 ⟨(mx_ge L).1,fun x hx=>(mx_ge L).2 x ((h x).2 hx)⟩
theorem mx_snoc (L:List Int) (x:Int):mx (L++[x])=maxI (mx L) x:=by unfold mx;rw [List.foldl_append];rfl
section
variable (g : Graph) (ib : List Bool) (own : List Int) (rest step : Int)
def costs (last:List Int) (L:List Int):List Int:=L.map fun b=>nr step+last.getD b.toNat 0
def addO (a:Nat) (m:Int):Int:=if a<own.length then m+nr (own.getD a 0) else m
def cell (last:List Int) (a:Nat):Int:=if memF g ib (a:Int) then minI (addO own a (mx (costs step last (endsOf g a)))) 1099511627776 else nr rest
def rnd (last:List Int):List Int:=(List.range g.length).map (cell g ib own rest step last)
def rnds:Nat→List Int
  | 0=>List.replicate g.length 0
  | k+1=>rnd g ib own rest step (rnds k)
def DL:List Int:=rnds g ib own rest step (g.length+1)
theorem rnd_len (last:List Int):(rnd g ib own rest step last).length=g.length:=by simp [rnd]
theorem rnds_len:∀ k,(rnds g ib own rest step k).length=g.length
 | 0=>by simp [rnds]
 | k+1=>rnd_len _ _ _ _ _ _
variable {g ib own rest step}
theorem rnd_at {last:List Int}{a:Nat}(h:a<g.length):(rnd g ib own rest step last).getD a 0=cell g ib own rest step last a:=by
 rw [List.getD_eq_getElem?_getD];simp [rnd,h]
theorem minI_le (a b:Int):minI a b≤b:=by unfold minI;split <;> omega
theorem costs_congr {last last':List Int}{L:List Int}(h:∀ b ∈ L,last.getD b.toNat 0=last'.getD b.toNat 0):costs step last L=costs step last' L:=List.map_congr_left (fun b hb=>by rw [h b hb])
def InD (l:List Int):Prop:=∀ a,0≤l.getD a 0∧l.getD a 0≤1099511627776
theorem cell_in {last:List Int}(h:InD last) (a:Nat):0≤cell g ib own rest step last a∧cell g ib own rest step last a≤1099511627776:=by
 unfold cell
 split
 · have h1:=(mx_ge (costs step last (endsOf g a))).1
   have h2:0≤addO own a (mx (costs step last (endsOf g a))):=by
    unfold addO
    have:=nr_ge (own.getD a 0)
    split <;> omega
   exact ⟨by unfold minI;split <;> omega,minI_le _ _⟩
 · have:=nr_ge rest;omega
theorem rnds_in:∀ k,InD (rnds g ib own rest step k)
 | 0=>fun a=>by
  unfold rnds
  rw [List.getD_eq_getElem?_getD,List.getElem?_replicate]
  split <;> simp
 | k+1=>fun a=>by
  by_cases h:a<g.length
  · show 0≤(rnd g ib own rest step (rnds g ib own rest step k)).getD a 0∧_≤_
    rw [show (rnds g ib own rest step (k+1)).getD a 0=cell g ib own rest step (rnds g ib own rest step k) a from rnd_at h,rnd_at h]
    exact cell_in (rnds_in k) a
  · rw [List.getD_eq_getElem?_getD,List.getElem?_eq_none (by rw [rnds_len];omega)];simp
theorem ends_nat {b:Int}{a:Nat}(h:b ∈ endsOf g a):∃ c:Nat,b=(c:Int)∧c<g.length:=by
 obtain ⟨h1,h2⟩:=inG_iff.1 (ends_in h)
 obtain ⟨c,rfl⟩:=Int.eq_ofNat_of_zero_le h1
 exact ⟨c,rfl,by omega⟩
theorem ends_edge {a c:Nat}(ha:a<g.length) (hma:memF g ib (a:Int)=true) (h:(c:Int) ∈ endsOf g a) (hmc:memF g ib (c:Int)=true):edE g ib a c=true:=by
 obtain ⟨h1,h2⟩:=inG_iff.1 (ends_in h)
 exact edE_iff.2 ⟨ha,by omega,(List.mem_filter.1 h).1,hma,hmc⟩
theorem rnds_fix (hok:okO g ib=true):∀ a,a<g.length→∀ k,(seqN g ib).length+1≤k→(rnds g ib own rest step (k+1)).getD a 0=(rnds g ib own rest step k).getD a 0:=by
 have hnon:∀ a,a<g.length→memF g ib (a:Int)=false→∀ k,1≤k→(rnds g ib own rest step k).getD a 0=nr rest:=by
  intro a ha hm k hk
  cases k with
  | zero=>omega
  | succ k=>
   rw [show (rnds g ib own rest step (k+1)).getD a 0=cell g ib own rest step (rnds g ib own rest step k) a from rnd_at ha]
   unfold cell;rw [hm];rfl
 have hmem:∀ r a,a<g.length→memF g ib (a:Int)=true→(seqN g ib).length-(seqN g ib).idxOf a≤r→∀ k,r+1≤k→(rnds g ib own rest step (k+1)).getD a 0=(rnds g ib own rest step k).getD a 0:=by
  intro r
  induction r with
  | zero=>
   intro a ha hm hr
   have:=List.idxOf_lt_length_iff.2 (seq_all hok hm)
   omega
  | succ r ih=>
   intro a ha hm hr k hk
   cases k with
   | zero=>omega
   | succ k=>
    rw [show (rnds g ib own rest step (k+1+1)).getD a 0=cell g ib own rest step (rnds g ib own rest step (k+1)) a from rnd_at ha,show (rnds g ib own rest step (k+1)).getD a 0=cell g ib own rest step (rnds g ib own rest step k) a from rnd_at ha]
    unfold cell
    rw [hm,if_pos rfl,if_pos rfl]
    rw [costs_congr (last:=rnds g ib own rest step (k+1)) (last':=rnds g ib own rest step k)]
    intro b hb
    obtain ⟨c,rfl,hc⟩:=ends_nat hb
    rw [Int.toNat_natCast]
    cases hmc:memF g ib (c:Int) with
    | false=>rw [hnon c hc hmc _ ZO,hnon c hc hmc _ ZO]
    | true=>
     have hlt:=seq_on (ends_edge ha hm hb hmc) (seq_all hok hmc)
     have:=List.idxOf_lt_length_iff.2 (seq_all hok hmc)
     exact ih c hc hmc ZO k ZO
 intro a ha k hk
 cases hm:memF g ib (a:Int) with
 | false=>rw [hnon a ha hm _ ZO,hnon a ha hm _ ZO]
 | true=>exact hmem _ a ha hm (Nat.le_refl _) k ZO
theorem seq_len (g:Graph) (ib:List Bool):(seqN g ib).length≤g.length:=by
 obtain ⟨left,hr,hn⟩:=gr_run (edE g ib) (memL g ib)
 rw [← seq_edE] at hr
 have h1:=hr.len
 have h2:=trues_le (memL g ib)
 rw [memL_len] at h2
 omega
theorem DL_fix (hok:okO g ib=true) {a:Nat}(ha:a<g.length):(DL g ib own rest step).getD a 0=cell g ib own rest step (DL g ib own rest step) a:=by
 have h:=rnds_fix (own:=own) (rest:=rest) (step:=step) hok a ha (g.length+1) (by have:=seq_len g ib;omega)
 unfold DL
 rw [← h]
 exact rnd_at ha
theorem DL_len:(DL g ib own rest step).length=g.length:=rnds_len _ _ _ _ _ _
theorem DL_in:InD (DL g ib own rest step):=rnds_in _
def dpc (D:List Int) (rest:Int) (i a:Nat):Int:=if memF g ib (a:Int) && decide ((seqN g ib).idxOf a<i) then nr rest else D.getD a 0
def dpL (g:Graph) (ib:List Bool) (D:List Int) (rest:Int) (i:Nat):List Int:=(List.range g.length).map (dpc (g:=g) (ib:=ib) D rest i)
theorem dpL_len (D:List Int) (i:Nat):(dpL g ib D rest i).length=g.length:=by simp [dpL]
theorem dpL_at {D:List Int}{i a:Nat}(h:a<g.length):(dpL g ib D rest i)[a]?=some (dpc (g:=g) (ib:=ib) D rest i a):=by simp [dpL,h]
theorem dpL_getD {D:List Int}{i a:Nat}(h:a<g.length):(dpL g ib D rest i).getD a 0=dpc (g:=g) (ib:=ib) D rest i a:=getD_at (dpL_at h)
theorem dpL_start (hok:okO g ib=true):dpL g ib (DL g ib own rest step) rest (seqN g ib).length=List.replicate g.length (nr rest):=by
 apply List.ext_getElem?
 intro a
 by_cases ha:a<g.length
 · rw [dpL_at ha,List.getElem?_replicate,if_pos ha]
   unfold dpc
   cases hm:memF g ib (a:Int) with
   | true=>rw [decide_eq_true (List.idxOf_lt_length_iff.2 (seq_all hok hm))];rfl
   | false=>
    rw [DL_fix hok ha]
    unfold cell
    rw [hm];rfl
 · rw [List.getElem?_eq_none (by rw [dpL_len];omega),List.getElem?_eq_none (by simp;omega)]
theorem dpL_zero:dpL g ib (DL g ib own rest step) rest 0=DL g ib own rest step:=by
 apply List.ext_getElem?
 intro a
 by_cases ha:a<g.length
 · rw [dpL_at ha]
   have h1:=List.getElem?_eq_getElem (show a<(DL g ib own rest step).length by rw [DL_len];exact ha)
   rw [h1]
   unfold dpc
   rw [getD_at h1]
   simp
 · rw [List.getElem?_eq_none (by rw [dpL_len];omega),List.getElem?_eq_none (by rw [DL_len];omega)]
theorem seq_idx {i x:Nat}(hx:(seqN g ib)[i]?=some x):(seqN g ib).idxOf x=i:=by
 obtain ⟨hi,rfl⟩:=List.getElem?_eq_some_iff.1 hx
 have h1:(seqN g ib).idxOf (seqN g ib)[i]<(seqN g ib).length:=List.idxOf_lt_length_iff.2 (List.getElem_mem hi)
 have h2:=List.pairwise_iff_getElem.1 (seq_is g ib).nodup
 rcases Nat.lt_trichotomy ((seqN g ib).idxOf (seqN g ib)[i]) i with k | k | k
 · exact absurd (List.getElem_idxOf h1) (h2 _ _ h1 hi k)
 · exact k
 · exact absurd (List.getElem_idxOf h1).symm (h2 _ _ hi h1 k)
theorem dpL_step (hok:okO g ib=true) {i x:Nat}(hx:(seqN g ib)[i]?=some x) :
 (dpL g ib (DL g ib own rest step) rest (i+1)).set x (minI (addO own x (mx (costs step (dpL g ib (DL g ib own rest step) rest (i+1)) (endsOf g x)))) 1099511627776)=dpL g ib (DL g ib own rest step) rest i:=by
 have hmx:=(seq_is g ib).mem x (List.mem_of_getElem? hx)
 have hxi:=seq_idx hx
 have hxn:x<g.length:=by unfold memF at hmx;simp only [Bool.and_eq_true,decide_eq_true_eq] at hmx;omega
 have hc:costs step (dpL g ib (DL g ib own rest step) rest (i+1)) (endsOf g x)=costs step (DL g ib own rest step) (endsOf g x):=costs_congr (fun b hb=>by
  obtain ⟨c,rfl,hc⟩:=ends_nat hb
  rw [Int.toNat_natCast,dpL_getD hc]
  unfold dpc
  cases hmc:memF g ib (c:Int) with
  | false=>rfl
  | true=>
   have:=seq_on (ends_edge hxn hmx hb hmc) (seq_all hok hmc)
   rw [decide_eq_false ZO];rfl)
 rw [hc]
 apply List.ext_getElem?
 intro a
 rw [List.getElem?_set,dpL_len]
 by_cases e:x=a
 · subst e
   rw [if_pos rfl,if_pos hxn,dpL_at hxn]
   unfold dpc
   rw [hxi,decide_eq_false ZO,Bool.and_false,DL_fix hok hxn]
   unfold cell
   rw [hmx];rfl
 · rw [if_neg e]
   by_cases ha:a<g.length
   · rw [dpL_at ha,dpL_at ha]
     unfold dpc
     cases hma:memF g ib (a:Int) with
     | false=>rfl
     | true=>
      have hne:(seqN g ib).idxOf a≠i:=by
       intro h
       have h1:=List.idxOf_lt_length_iff.2 (seq_all hok hma)
       have h2:=List.getElem_idxOf h1
       obtain ⟨hi,he⟩:=List.getElem?_eq_some_iff.1 hx
       apply e
       rw [← he,← h2]
       congr 1
       exact h.symm
      have:decide ((seqN g ib).idxOf a<i+1)=decide ((seqN g ib).idxOf a<i):=decide_eq_decide.2 ZO
      rw [this]
   · rw [List.getElem?_eq_none (by rw [dpL_len];omega),List.getElem?_eq_none (by rw [dpL_len];omega)]
end
theorem num_Near {B:Base}{w:World}(hS:St B [] w) (n lo hi:Int) :
 CW 166 #[.int .i64 n,.int .i64 lo,.int .i64 hi] w (Ret B (fun _:Unit=>True) (fun _=>.int .i64 (nearF n lo hi)) (fun _=>[])):=by
 refine ZX Tryz.func166 hS ?_
 refine Zh (Zi (Zp J (Zn (Za (Zh (Zk (Zh (Zi (Zo J (Zo J (Zx J J (Zp J (Zn (Za (wC (fun h7=>?_) (fun h7=>?_))))))))))))))))
 refine Zh (Zi (Zo J (Zzs ?_)))
 exact ⟨(),trivial,by unfold nearF;rw [if_pos h7];rfl,Lh⟩
 refine Zh (Zi (Zo J (Zo J (Z1 J J (Zp J (Zn (Za (wC (fun h12=>?_) (fun h12=>?_)))))))))
 refine Zh (Zi (Zo J (Zzs ?_)))
 exact ⟨(),trivial,by unfold nearF;rw [if_neg h7,if_pos h12];rfl,Lh⟩
 refine Zj (Zd (Za (Zh (Zi (Zo J (Zza ?_))))))
 exact ⟨(),trivial,by unfold nearF;rw [if_neg h7,if_neg h12];rfl,Lh⟩
theorem ref_Near {B:Base}{w:World}(hS:St B [] w) (n lo hi:Int) :
 CW 169 #[.int .i64 n,.int .i64 lo,.int .i64 hi] w (Ret B (fun _:Unit=>True) (fun _=>.int .i64 (nearF n lo hi)) (fun _=>[])):=by
 refine ZX Tryz.func169 hS ?_
 refine Zh (Zi (Zp J (Zn (Za (Zh (Zh (Zi (Zo J (Zo J (Zx J J (Zn (Za (wC (fun h9=>?_) (fun h9=>?_))))))))))))))
 refine Zh (Zi (Zo J (Zze ?_)))
 exact ⟨(),trivial,by unfold nearF;rw [if_pos h9];rfl,Lh⟩
 refine Zj (Za (Zh (Zh (Zi (Zo J (Zo J (Z1 J J (Zn (Za (wC (fun h13=>?_) (fun h13=>?_)))))))))))
 refine Zh (Zi (Zo J (Zze ?_)))
 exact ⟨(),trivial,by unfold nearF;rw [if_neg h9,if_pos h13];rfl,Lh⟩
 refine Zj (Za (Zh (Zi (Zo J (Zza ?_)))))
 exact ⟨(),trivial,by unfold nearF;rw [if_neg h9,if_neg h13];rfl,Lh⟩
theorem deep_near {B:Base}{w:World}(hS:St B [] w) (n:Int) :
 CW 198 #[.int .i64 n] w (Ret B (fun _:Unit=>True) (fun _=>.int .i64 (nr n)) (fun _=>[])):=by
 refine ZX Tryz.func198 hS ?_
 refine Zh (Zi (Zp J (Zn (Zzn ?_))))
 (refine ZC0 rfl ZK (fun w hS=>frame hS ZQ (fun B' hB hS'=>num_Near hS' n 0 1048576)) ?_;rintro ⟨⟩ -)
 refine Zp J (Zzx ?_)
 exact ⟨(),trivial,rfl,Lh⟩
def bwL (l:List Int):List (List Value):=(List.range l.length).map fun j=>[.int .i64 ((l.length-1-j:Nat):Int),.int .i64 (l.getD (l.length-1-j) 0)]
theorem bwL_len (l:List Int):(bwL l).length=l.length:=by simp [bwL]
theorem bwL_at {l:List Int}{j:Nat}(h:j<(bwL l).length):(bwL l)[j]=[.int .i64 ((l.length-1-j:Nat):Int),.int .i64 (l.getD (l.length-1-j) 0)]:=by simp [bwL]
theorem back_any {B:Base}{w:World}(hS:St B [] w) (A:Option Addr) (n cp:Nat) :
 CW 199 #[.slice A n cp] w (Ret B (fun _:Nat=>True) (fun p=>.func (.func 234) #[] #[.pointer (some ⟨p,0,none⟩)]) (fun p=>[blk p 42 [.slice A n cp]])):=by
 refine ZX Tryz.func199 hS ?_
 refine Zh (Zi (oBox J ZP (fun b1=>?_)))
 refine Zp J (Zn (Za (Zh (Zi (oMakeFunc J (Zza ?_))))))
 exact ⟨b1,trivial,rfl,Lh⟩
theorem back1 {B:Base}(l:List Int) (A:Option Addr) (cp p:Nat) (hC:(Kd.int .i64).C B.e A l) :
 IterC Tryz.prog 234 #[.pointer (some ⟨p,0,none⟩)] B (bwL l) [blk p 42 [.slice A l.length cp]]:=by
 intro lp AI Ax r0 w hbody hA hS
 have hl1:=hC.1
 have hbl:=bwL_len l
 show CW 234 #[.func (.yield lp) #[] #[],.pointer (some ⟨p,0,none⟩)] w _
 refine ZX Tryz.func234 hS ?_
 refine Zh (Zi (Zld ?_))
 refine Zv J J (oSub J J ZO ?_)
 refine ZS0 (t:=6) (v':=.int .i64 ((l.length:Int)-1-((0:Nat):Int))) J (by congr 1;omega) ?_
 refine Zp J (Zn (Za (Zk (wLoop (ι:=Nat×Res) (fun z=>[(0,.func (.yield lp) #[] #[]),(1,.pointer (some ⟨p,0,none⟩)),(3,.int .i64 ((l.length:Int)-1-(z.1:Int)))]) (fun z=>[z.2,blk p 42 [.slice A l.length cp]]) (fun z=>z.1≤l.length∧AI z.1 z.2) (fun z=>l.length-z.1) (0,r0) ?_ cv Lh ?_))))
 exact ⟨Nat.zero_le _,hA⟩
 rintro ⟨j,r⟩ ⟨hj,hA⟩
 dsimp only at hj hA
 try dsimp only
 refine Zh (Zh (Zi (Zo J (Z2 J J (Zn (Za (wC (fun h8=>?_) (fun h8=>?_))))))))
 have hjl:j<l.length:=by omega
 refine Zj (Za (Zh (Zk (Zh (Zi (Zo J ?_))))))
 refine ZS0 (t:=3) (v':=.int .i64 ((l.length-1-j:Nat):Int)) J (by congr 1;omega) ?_
 refine Zo J (Zld ?_)
 refine Zo J (oIdx J J (hC) J ZO J J (fun e15 u15 cs15 hu15 hk15 hc15=>?_))
 obtain rfl:=hk15
 have hgd:l.getD (l.length-1-j) 0=u15:=getD_at hu15
 have hY:∀ Fr W1,St B (r :: Fr) W1→YieldAt Fence.wide 0 Tryz.prog lp ([.int .i64 ((l.length-1-j:Nat):Int),.int .i64 u15]:List Value).toArray W1 (YEnd B j AI Ax Fr):=by
  intro Fr W1 h1
  have:=hbody j ZO r Fr W1 hA h1
  rwa [bwL_at,hgd] at this
 refine Zlx hc15 ?_
 refine oYield J J J (fun w hS=>hY _ w (hS.perm (Pick.perm ZP))) ?_
 rintro ⟨bb,r'⟩ hr'
 dsimp only at hr' ⊢
 refine Zno ?_
 refine Zn (Za (wC (fun h18=>?_) (fun h18=>?_)))
 refine Zl (Zf (Zc (Zc (Zf (Zw ?_)))))
 refine ⟨rfl,_,ResL.nil,?_⟩
 exact ⟨r',.inr ⟨j,by omega,by rw [if_neg (by simpa using h18)] at hr';exact hr'⟩,rfl,Lh⟩
 refine Zj (Zd (Za (Zi (Zo J (oSub J J ZO ?_)))))
 refine ZS0 (t:=10) (v':=.int .i64 ((l.length:Int)-1-((j+1:Nat):Int))) J (by congr 1;omega) ?_
 refine Zp J (Zn (Za ?_))
 exact ⟨rfl,(j+1,r'),⟨by show j+1≤_;omega,by rw [if_pos (by simpa using h18)] at hr';exact hr'⟩,by show l.length-(j+1)<l.length-j;omega,cv,Lh⟩
 refine Zm (Zb (Zb (Ze (fin_n ?_))))
 refine ⟨rfl,_,ResL.nil,?_⟩
 have hj:j=(bwL l).length:=by omega
 exact ⟨r,.inl (hj ▸ hA),rfl,Lh⟩
def bestF (v:Int→Int):List Int→Int
  | []=>0
  | x :: l=>l.foldl (fun m y=>if v m<v y then y else m) x
theorem bestF_mem {v:Int→Int}{l:List Int}(h:l≠[]):bestF v l ∈ l:=by
 cases l with
 | nil=>exact absurd rfl h
 | cons x l=>
  have:∀ (l:List Int) (m:Int),l.foldl (fun m y=>if v m<v y then y else m) m=m∨l.foldl (fun m y=>if v m<v y then y else m) m ∈ l:=by
   intro l
   induction l with
   | nil=>intro m;left;rfl
   | cons y l ih=>
    intro m
    rw [List.foldl_cons]
    rcases ih (if v m<v y then y else m) with h | h
    · rw [h]
      split
      · right;exact List.mem_cons_self
      · left;rfl
    · right;exact List.mem_cons_of_mem _ h
  rcases this l x with h | h
  · show l.foldl _ x ∈ _;rw [h];exact List.mem_cons_self
  · exact List.mem_cons_of_mem _ h
def DLo (g:Graph) (ib:List Bool) (own:List Int) (rest step:Int):List Int:=if okO g ib then DL g ib own rest step else []
def fillL (n:Nat) (v:Int) (i:Nat):List Int:=(List.range n).map fun a=>if a<i then v else 0
theorem fillL_len (n:Nat) (v:Int) (i:Nat):(fillL n v i).length=n:=by simp [fillL]
theorem fillL_zero (n:Nat) (v:Int):fillL n v 0=List.replicate n 0:=by
 apply List.ext_getElem?
 intro i
 unfold fillL
 rw [List.getElem?_map,List.getElem?_replicate]
 by_cases h:i<n <;> simp [h]
theorem fillL_all (n:Nat) (v:Int):fillL n v n=List.replicate n v:=by
 apply List.ext_getElem?
 intro i
 unfold fillL
 rw [List.getElem?_map,List.getElem?_replicate]
 by_cases h:i<n <;> simp [h]
theorem fillL_set {n:Nat}{v:Int}{i:Nat}(h:i<n):(fillL n v i).set i v=fillL n v (i+1):=by
 apply List.ext_getElem?
 intro a
 rw [List.getElem?_set,fillL_len]
 unfold fillL
 by_cases e:i=a
 · subst e;rw [if_pos rfl,if_pos h];simp [h]
 · rw [if_neg e,List.getElem?_map,List.getElem?_map]
   by_cases ha:a<n
   · simp only [List.getElem?_range ha,Option.map_some]
     have:(a<i)↔(a<i+1):=by omega
     simp only [this]
   · rw [List.getElem?_eq_none (by simp;omega)];rfl
theorem costs_cl {g:Graph}{step:Int}{last:List Int}{a:Nat} : mx (costs step last (cl g a))=mx (costs step last (endsOf g a)):=mx_ext (fun x=>by
 unfold costs
 rw [List.mem_map,List.mem_map]
 constructor
 · rintro ⟨b,hb,h⟩;exact ⟨b,cl_mem.1 hb,h⟩
 · rintro ⟨b,hb,h⟩;exact ⟨b,cl_mem.2 hb,h⟩)
theorem ord_ok {g:Graph}{ib:List Bool}(h:okO g ib=true):ordL g ib=(seqN g ib).map Int.ofNat:=by unfold ordL;rw [h,if_pos rfl]
theorem dpL_in {g:Graph}{ib:List Bool}{own:List Int}{rest step:Int}{i:Nat} : InD (dpL g ib (DL g ib own rest step) rest i):=fun a=>by
 by_cases h:a<g.length
 · rw [dpL_getD h]
   unfold dpc
   split
   · have:=nr_ge rest;omega
   · exact DL_in a
 · rw [List.getD_eq_getElem?_getD,List.getElem?_eq_none (by rw [dpL_len];omega)];simp
theorem mx_in {step:Int}{last:List Int}(h:InD last) (L:List Int):mx (costs step last L)≤1099512676352:=mx_le.2 ⟨by omega,fun x hx=>by
 obtain ⟨b,_,rfl⟩:=List.mem_map.1 hx
 have h1:=nr_ge step
 have h2:=h b.toNat
 show nr step+_≤_
 omega⟩

theorem depthsP {B:Base}{w:World}(hS:St B [] w) (g:Graph) (A:Option Addr) (cp:Nat) (hC:kII.C B.e A g) (hsm:SmallG g) (ib:List Bool) (A1:Option Addr) (cp1:Nat) (hC1:Kd.bool.C B.e A1 ib) (hib:ib.length≤1000) (own:List Int) (A2:Option Addr) (cp2:Nat) (hC2:(Kd.int .i64).C B.e A2 own) (rest step:Int) (W0:World) :
 CW 155 #[.slice A g.length cp,.slice A1 ib.length cp1,.slice A2 own.length cp2,.int .i64 rest,.int .i64 step] w
  (Ret B (fun _:Option Addr×Nat=>True) (fun z=>.tuple #[.slice z.1 (DLo g ib own rest step).length z.2,.bool (okO g ib)]) (fun z=>[row (Kd.int .i64) W0 3 (.slice z.1 (DLo g ib own rest step).length z.2) (DLo g ib own rest step)])):=by
 have hn:=hsm.1
 have m2:=hC2.1
 (refine enterM Tryz.func155 J J hS ?_;simp only [List.zipIdx_cons,List.zipIdx_nil,List.map_cons,List.map_nil,Nat.reduceAdd,Nat.zero_add])
 refine Zh (Zi (oBox J ZP (fun b7=>?_)))
 refine oBox J ZP (fun b9=>?_)
 refine Zp J (Zp J (Zn (Za (Zzu ?_))))
 (refine ZC0 rfl ZK (fun w hS=>frame hS ZQ (fun B' hB hS'=>orderP hS' g A cp (Kd.C_grow hB hC) hsm ib A1 cp1 (Kd.C_grow hB hC1) hib B.e)) ?_;rintro ⟨A25,c25⟩ -)
 refine Zo J (oExt J ZP ?_)
 refine oExt J ZP ?_
 refine Zp J (Zp J (Zn (Za (wFreeze [row (Kd.int .i64) B.e 3 (.slice A25 (ordL g ib).length c25) (ordL g ib)] ZQ (fun B1 hB1 hq1=>?_)))))
 have hCl:=(row_C (kd:=Kd.int .i64) (W:=B.e) (e:=3) (A:=A25) (n:=(ordL g ib).length) (cp:=c25) (xs:=ordL g ib) (hq1 _ _ ZP) hB1).2.2.1
 have hC:=Kd.C_grow hB1 hC
 have hC1:=Kd.C_grow hB1 hC1
 have hC2:=Kd.C_grow hB1 hC2
 refine Zh (Zh (Zi (Zo J (Zno ?_))))
 refine Zn (Za (wC (fun h29=>?_) (fun h29=>?_)))
 have hok:okO g ib=false:=decide_eq_false h29
 refine Zh (Zi (Zp J (Zp J (Zn (Za (Zl (Zc (finM_r (Ds:=[]) J ZQ (ResL.cons (ResR.tmp J) (ResL.cons (ResR.tmp J) ResL.nil)) ?_))))))))
 exact ⟨(none,0),trivial,by unfold DLo;rw [hok];rfl,by unfold DLo;rw [hok];exact Leads.nilrow.trans Lh⟩
 have hok:okO g ib=true:=decide_eq_true (Classical.not_not.1 h29)
 refine Zj (Za (Zh (Zi (Zo J (Zv J J (oMake (kd:=Kd.int .i64) (W:=W0) (0:Int) J J J J J J ZO J (fun g32=>?_)))))))
 rw [← fillL_zero g.length (nr rest)]
 refine oAlloc J ZP (fun b14=>?_)
 refine Zst ?_
 refine Zn (Za (Zh (Zh (Zi (Zld ?_)))))
 refine Zv J J (Zo J (Zn (Za (Zk (wLoop (ι:=Nat) (fun i=>[(0,.slice A g.length cp),(1,.slice A1 ib.length cp1),(3,.int .i64 rest),(7,.pointer (some ⟨b7,0,none⟩)),(9,.pointer (some ⟨b9,0,none⟩)),(12,.slice A25 (ordL g ib).length c25),(14,.pointer (some ⟨b14,0,none⟩)),(34,.int .i64 (g.length:Int)),(35,.int .i64 (i:Int))]) (fun i=>[blk b7 42 [.slice A2 own.length cp2],blk b9 3 [.int .i64 step],blk b14 42 [.slice (some ⟨g32,0,none⟩) g.length g.length],row (Kd.int .i64) W0 3 (.slice (some ⟨g32,0,none⟩) g.length g.length) (fillL g.length (nr rest) i)]) (fun i=>i≤g.length) (fun i=>g.length-i) 0 ?_ cv Lh ?_)))))
 exact Nat.zero_le _
 rintro i hi
 have hfl:=fillL_len g.length (nr rest) i
 try dsimp only
 refine Zh (Zi (Zx J J (Zn (Za (Zh (wC (fun h36=>?_) (fun h36=>?_)))))))
 refine Zj (Za (Zh (Zk (Zh (Zi (Zo J (Zp J (Zn (Za (wDrawG J [0,1,2] [(3,[0,1],[])] [4,5] 24 ZK J J (fun w0=>?_)))))))))))
 refine Zld ?_
 refine Zo J (Zo J (Z4 (Z5 J ?_)))
 (refine ZC0 rfl ZK (fun w hS=>frame hS ZQ (fun B' hB hS'=>deep_near hS' rest)) ?_;rintro ⟨⟩ -)
 refine ZG ?_ J (fun w0=>?_)
 refine Z8 J J J J (fun w0=>?_) ?_
 refine Zld ?_
 exact Z9 rfl
 refine Z8 J J J J (fun w0=>?_) ?_
 refine Zo J ?_
 exact Z9 rfl
 exact AgainG.nil
 refine Z6 (ZR J J ZP ZO J J (fun g42 hg42=>?_))
 first | subst hg42 | (injection hg42 with hg42;injection hg42 with hg42;subst hg42)
 refine oStR _ J J J J ZP (by first | omega | (simp only [List.length_set];omega)) ?_
 refine Zn (Zd (Za (Zi ?_)))
 rw [fillL_set ZO]
 refine Zsu ?_
 refine Zo J (Zn (Za ?_))
 exact ⟨rfl,i+1,by omega,by omega,cv,Lh⟩
 obtain rfl:i=g.length:=by omega
 rw [fillL_all,← dpL_start (own:=own) (rest:=rest) (step:=step) hok]
 refine Zm (Zb (Zb (Ze (Zzn ?_))))
 (refine ZC0 rfl ZK (fun w hS=>frame hS ZQ (fun B' hB hS'=>clean_any hS' g A cp (Kd.C_grow hB hC) hsm B1.e)) ?_;rintro ⟨A45,c45,hs45⟩ hl45)
 dsimp only at hl45 ⊢
 refine ZS0 (t:=45) (v':=.slice A45 (cleanG g).length c45) rfl (by rw [cleanG_len]) ?_
 refine oAlloc J ZP (fun b16=>?_)
 refine Zst ?_
 refine Zn (Za (wFreeze [row kHdr B1.e 42 (.slice A45 g.length c45) hs45,bun (rws (Kd.int .i64) B1.e 3 hs45 (cleanG g))] ZQ (fun B2 hB2 hq2=>?_)))
 have hC45:=grid_C (hq2 _ _ ZP) (hq2 _ _ ZP) (by rw [cleanG_len];exact hl45) hB2
 have hC2:=Kd.C_grow hB2 hC2
 have hCl:=Kd.C_grow hB2 hCl
 have hsl:=seq_len g ib
 rw [ord_ok hok] at hCl ⊢
 refine Zh (Zh (Zi (Zo J ?_)))
 (refine ZC0 rfl ZK (fun w hS=>frame hS ZQ (fun B' hB hS'=>back_any hS' A25 ((seqN g ib).map Int.ofNat).length c25)) ?_;rintro p47 -)
 refine Zn (Za (Zk ?_))
 refine wRange rfl rfl ZK (back1 ((seqN g ib).map Int.ofNat) A25 c25 p47 hCl) (by rintro _ h;obtain ⟨y,_,rfl⟩:=List.mem_map.1 h;rfl) rfl (ι:=Nat) (κ:=Unit) (fun j z=>z=j) (fun z=>[blk b7 42 [.slice A2 own.length cp2],blk b9 3 [.int .i64 step],blk b14 42 [.slice (some ⟨g32,0,none⟩) g.length g.length],row (Kd.int .i64) W0 3 (.slice (some ⟨g32,0,none⟩) g.length g.length) (dpL g ib (DL g ib own rest step) rest ((seqN g ib).length-z)),blk b16 38 [.slice A45 (cleanG g).length c45]]) (fun x z=>False) (fun x z=>[]) 0 rfl (by rw [Nat.sub_zero];exact (Leads.has ZQ)) ?_ ?_ ?_
 intro lp2 B' R1 R2 j hj
 rintro z hB rfl
 have hC45:=Kd.C_grow hB hC45
 have hC2:=Kd.C_grow hB hC2
 have hj':z<(seqN g ib).length:=by rw [bwL_len,List.length_map] at hj;exact hj
 have hx:=List.getElem?_eq_getElem (show (seqN g ib).length-1-z<(seqN g ib).length by omega)
 rw [bwL_at]
 rw [show ((seqN g ib).map Int.ofNat).getD (((seqN g ib).map Int.ofNat).length-1-z) 0=(((seqN g ib)[(seqN g ib).length-1-z]:Nat):Int) by rw [List.length_map];exact getD_at (by rw [List.getElem?_map,hx];rfl)]
 generalize (seqN g ib)[(seqN g ib).length-1-z]=x at *
 have hmx:=(seq_is g ib).mem x (List.mem_of_getElem? hx)
 have hxn:x<g.length:=by unfold memF at hmx;simp only [Bool.and_eq_true,decide_eq_true_eq] at hmx;omega
 have hds:=dpL_step (own:=own) (rest:=rest) (step:=step) hok hx
 rw [show (seqN g ib).length-1-z+1=(seqN g ib).length-z by omega,show (seqN g ib).length-1-z=(seqN g ib).length-(z+1) by omega] at hds
 have hcll:=cl_len hsm x
 have hdl:=dpL_len (g:=g) (ib:=ib) (rest:=rest) (DL g ib own rest step) ((seqN g ib).length-z)
 have hdi:=dpL_in (g:=g) (ib:=ib) (own:=own) (rest:=rest) (step:=step) (i:=(seqN g ib).length-z)
 dsimp only [hand]
 refine Zi (Zp J (Zn (aq_n ZP ?_)))
 refine Zk (Zh (Zi (Zp J (Zn (Za (Zh (Zh (Zi (Zld ?_)))))))))
 refine Zo J ?_
 refine oIdx rfl rfl (hC45) rfl (by rw [cleanG_len];exact hxn) rfl rfl (fun e52 u52 cs52 hu52 hk52 hc52=>?_)
 obtain ⟨A0,c0,rfl,hle52,g0⟩:=hk52
 obtain rfl:=cl_at hu52
 refine Zlx hc52 ?_
 refine Zv J J (Zo J (Zn (Za (Zk (wLoop (ι:=Nat) (fun i=>[(7,.pointer (some ⟨b7,0,none⟩)),(9,.pointer (some ⟨b9,0,none⟩)),(14,.pointer (some ⟨b14,0,none⟩)),(16,.pointer (some ⟨b16,0,none⟩)),(18,.int .i64 (x:Int)),(19,.int .i64 (mx (costs step (dpL g ib (DL g ib own rest step) rest ((seqN g ib).length-z)) ((cl g x).take i)))),(53,.slice A0 (cl g x).length c0),(54,.int .i64 ((cl g x).length:Int)),(55,.int .i64 (i:Int))]) (fun i=>[R2,blk b7 42 [.slice A2 own.length cp2],blk b9 3 [.int .i64 step],blk b14 42 [.slice (some ⟨g32,0,none⟩) g.length g.length],row (Kd.int .i64) W0 3 (.slice (some ⟨g32,0,none⟩) g.length g.length) (dpL g ib (DL g ib own rest step) rest ((seqN g ib).length-z)),blk b16 38 [.slice A45 (cleanG g).length c45]]) (fun i=>i≤(cl g x).length) (fun i=>(cl g x).length-i) 0 ?_ cv Lh ?_)))))
 exact Nat.zero_le _
 rintro i hi
 try dsimp only
 refine Zh (Zi (Zx J J (Zn (Za (Zh (wC (fun h56=>?_) (fun h56=>?_)))))))
 refine Zj (Za (Zh (Zk (Zh (Zi (oIdx J J (g0) J ZO J J (fun e57 u57 cs57 hu57 hk57 hc57=>?_)))))))
 obtain rfl:=hk57
 refine Zlx hc57 ?_
 obtain ⟨c,rfl,hcn⟩:=ends_nat (cl_mem.1 (List.mem_of_getElem? hu57))
 refine Zp J (Zn (Za (wDrawG J [0,1,3,4,5,6] [(2,[0,3,4,5,6],[7])] [8,9] 24 ZK J J (fun w0=>?_))))
 refine Zo J (Zld ?_)
 refine Zld ?_
 refine Zo J (ZR J J ZP ZO J J (fun g64 hg64=>?_))
 first | subst hg64 | (injection hg64 with hg64;injection hg64 with hg64;subst hg64)
 refine ZR1 J ZP ZO J (fun u65 hu65=>?_)
 obtain rfl:u65=(dpL g ib (DL g ib own rest step) rest ((seqN g ib).length-z)).getD c 0:=(getD_at hu65).symm
 have hdb:=hdi c
 have hns:=nr_ge step
 refine Z4 (Z5 J ?_)
 (refine ZC0 rfl ZK (fun w hS=>frame hS ZQ (fun B' hB hS'=>deep_near hS' step)) ?_;rintro ⟨⟩ -)
 refine ZG ?_ J (fun w0=>?_)
 refine Z8 J J J J (fun w0=>?_) ?_
 refine Zo J ?_
 exact Z9 rfl
 refine Z8 J J J J (fun w0=>?_) ?_
 refine Zld ?_
 exact Z9 rfl
 refine Z8 J J J J (fun w0=>?_) ?_
 refine Zo J ?_
 exact Z9 rfl
 refine Z8 J J J J (fun w0=>?_) ?_
 refine ZR J J ZP ZO J J (fun g64 hg64=>?_)
 first | subst hg64 | (injection hg64 with hg64;injection hg64 with hg64;subst hg64)
 exact Z9 rfl
 refine Z8 J J J J (fun w0=>?_) ?_
 refine ZR1 J ZP ZO J (fun u65 hu65=>?_)
 obtain rfl:u65=(dpL g ib (DL g ib own rest step) rest ((seqN g ib).length-z)).getD c 0:=(getD_at hu65).symm
 exact Z9 rfl
 exact AgainG.nil
 refine oAdd J J ZO ?_
 refine Z6 (oMaxI J J ?_)
 refine ZS0 (t:=67) (v':=.int .i64 (mx (costs step (dpL g ib (DL g ib own rest step) rest ((seqN g ib).length-z)) ((cl g x).take (i+1))))) rfl (by rw [List.take_add_one,hu57];unfold costs;rw [List.map_append,show (some (c:Int)).toList=[(c:Int)] from rfl,List.map_singleton,mx_snoc,Int.toNat_natCast];rfl) ?_
 refine Zp J (Zn (Zzi ?_))
 refine Zo J (Zn (Za ?_))
 exact ⟨rfl,i+1,by omega,by omega,cv,Lh⟩
 obtain rfl:i=(cl g x).length:=by omega
 rw [List.take_length,costs_cl]
 have hmi:=mx_in (step:=step) hdi (endsOf g x)
 have hmg:=(mx_ge (costs step (dpL g ib (DL g ib own rest step) rest ((seqN g ib).length-z)) (endsOf g x))).1
 refine Zm (Zb (Zb (Ze (Za (Zh (Zh (Zi (Zo J (Zld ?_)))))))))
 refine Zv J J (Zx J J (Zn (Za (wC (fun h72=>?_) (fun h72=>?_)))))
 refine Zi (Zo J (Zld ?_))
 refine Zo J (oIdx J J (hC2) J ZO J J (fun e76 u76 cs76 hu76 hk76 hc76=>?_))
 obtain rfl:=hk76
 refine Zlx hc76 ?_
 (refine ZC0 rfl ZK (fun w hS=>frame hS ZQ (fun B' hB hS'=>deep_near hS' u76)) ?_;rintro ⟨⟩ -)
 have hno:=nr_ge u76
 refine oAdd J J ZO ?_
 refine ZS0 (t:=79) (v':=.int .i64 (addO own x (mx (costs step (dpL g ib (DL g ib own rest step) rest ((seqN g ib).length-z)) (endsOf g x))))) J (by unfold addO;rw [if_pos ZO,getD_at hu76]) ?_
 refine Zp J (Zn (Za (Zi (Zld ?_))))
 refine Zo J (Zo J (oMinI J J (ZS0 (t:=83) (v':=.int .i64 (minI (addO own x (mx (costs step (dpL g ib (DL g ib own rest step) rest ((seqN g ib).length-z)) (endsOf g x)))) 1099511627776)) J J (ZR J J ZP ZO J J (fun g84 hg84=>?_)))))
 first | subst hg84 | (injection hg84 with hg84;injection hg84 with hg84;subst hg84)
 refine oStR _ J J J J ZP (by first | omega | (simp only [List.length_set];omega)) ?_
 refine Zn (Zd (rq_n ?_))
 exact ⟨z+1,rfl,by rw [← hds];exact (Leads.has ZQ)⟩
 refine Zj (Za (Zi (Zld ?_)))
 refine Zo J (Zo J ?_)
 refine ZS0 (t:=82) (v':=.int .i64 (addO own x (mx (costs step (dpL g ib (DL g ib own rest step) rest ((seqN g ib).length-z)) (endsOf g x))))) J (by unfold addO;rw [if_neg ZO]) ?_
 refine oMinI J J (ZS0 (t:=83) (v':=.int .i64 (minI (addO own x (mx (costs step (dpL g ib (DL g ib own rest step) rest ((seqN g ib).length-z)) (endsOf g x)))) 1099511627776)) J J (ZR J J ZP ZO J J (fun g84 hg84=>?_)))
 first | subst hg84 | (injection hg84 with hg84;injection hg84 with hg84;subst hg84)
 refine oStR _ J J J J ZP (by first | omega | (simp only [List.length_set];omega)) ?_
 refine Zn (Zd (rq_n ?_))
 exact ⟨z+1,rfl,by rw [← hds];exact (Leads.has ZQ)⟩
 rintro z Dm2 h
 rw [bwL_len,List.length_map] at h
 subst h
 rw [Nat.sub_self,dpL_zero]
 try dsimp only
 refine Zd (Za (Zh (Zi (Zld ?_))))
 refine Zp J (Zp J (Zn (Za (Zl (finM_r (Ds:=[Dm2]) J ZQ (ResL.cons (ResR.tmp J) (ResL.cons (ResR.tmp J) ResL.nil)) ?_)))))
 exact ⟨(some ⟨g32,0,none⟩,g.length),trivial,by unfold DLo;rw [hok,if_pos rfl,DL_len];rfl,by unfold DLo;rw [hok,if_pos rfl,DL_len];exact (Leads.has ZQ)⟩
 rintro _ _ _ h;exact h.elim
def vD (D:List Int) (y:Int):Int:=D.getD y.toNat 0
def bestO (D:List Int) (l:List Int):Int:=if l=[] then -1 else bestF (vD D) l
theorem bestF_max {v:Int→Int}{l:List Int} : ∀ x ∈ l,v x≤v (bestF v l):=by
 have key:∀ (l:List Int) (m:Int),v m≤v (l.foldl (fun m y=>if v m<v y then y else m) m)∧∀ x ∈ l,v x≤v (l.foldl (fun m y=>if v m<v y then y else m) m):=by
  intro l
  induction l with
  | nil=>intro m;exact ⟨Int.le_refl _,fun x hx=>by cases hx⟩
  | cons y l ih=>
   intro m
   rw [List.foldl_cons]
   have:=ih (if v m<v y then y else m)
   have h2:v m≤v (if v m<v y then y else m)∧v y≤v (if v m<v y then y else m):=by split <;> omega
   refine ⟨by omega,fun x hx=>?_⟩
   rcases List.mem_cons.1 hx with rfl | hx
   · omega
   · exact this.2 x hx
 cases l with
 | nil=>intro x hx;cases hx
 | cons z l=>
  intro x hx
  rcases List.mem_cons.1 hx with rfl | hx
  · exact (key l x).1
  · exact (key l z).2 x hx
section
variable {g : Graph} {ib : List Bool} {D : List Int}
def bst (g:Graph) (D:List Int) (a:Nat):Int:=bestO D (cl g a)
def wy (g:Graph) (ib:List Bool) (D:List Int):Nat→Nat→List Int
  | 0,_=>[]
  | f+1,a=>(a:Int) :: if memF g ib (a:Int) && decide (0≤bst g D a) then wy g ib D f (bst g D a).toNat else []
theorem bst_spec {a:Nat}(h:0≤bst g D a):∃ c:Nat,bst g D a=(c:Int)∧(c:Int) ∈ endsOf g a∧c<g.length∧∀ x ∈ endsOf g a,vD D x≤vD D (c:Int):=by
 unfold bst bestO at *
 by_cases e:cl g a=[]
 · rw [if_pos e] at h;omega
 · rw [if_neg e] at h ⊢
   have hm:=cl_mem.1 (bestF_mem (v:=vD D) e)
   obtain ⟨c,hc,hl⟩:=ends_nat hm
   exact ⟨c,hc,hc ▸ hm,hl,fun x hx=>by rw [← hc];exact bestF_max x (cl_mem.2 hx)⟩
def rk (g:Graph) (ib:List Bool) (a:Nat):Nat:=if memF g ib (a:Int) then (seqN g ib).length-(seqN g ib).idxOf a else 0
theorem mem_lt {a:Nat}(h:memF g ib (a:Int)=true):a<g.length:=by unfold memF at h;simp only [Bool.and_eq_true,decide_eq_true_eq] at h;omega
theorem rk_lt (hok:okO g ib=true) {a c:Nat}(hm:memF g ib (a:Int)=true) (hc:(c:Int) ∈ endsOf g a):rk g ib c<rk g ib a:=by
 have h1:=List.idxOf_lt_length_iff.2 (seq_all hok hm)
 unfold rk
 rw [if_pos hm]
 by_cases hmc:memF g ib (c:Int)=true
 · rw [if_pos hmc]
   have h2:=seq_on (ends_edge (mem_lt hm) hm hc hmc) (seq_all hok hmc)
   have h3:=List.idxOf_lt_length_iff.2 (seq_all hok hmc)
   omega
 · rw [if_neg hmc];omega
theorem rk_le (a:Nat):rk g ib a≤g.length:=by
 have:=seq_len g ib
 unfold rk
 split <;> omega
theorem wy_go {f a c:Nat}(hm:memF g ib (a:Int)=true) (h:bst g D a=(c:Int)):wy g ib D (f+1) a=(a:Int) :: wy g ib D f c:=by
 rw [wy,if_pos (by rw [hm,h];simp),h,Int.toNat_natCast]
variable {own : List Int} {rest step : Int}
structure Meek (own:List Int) (rest step:Int):Prop where
  own:∀ x ∈ own,0≤x∧x≤5000
  rest:0≤rest∧rest≤100
  step:0≤step∧step≤100
theorem Meek.at (h:Meek own rest step) (a:Nat):0≤own.getD a 0∧own.getD a 0≤5000:=by
 rw [List.getD_eq_getElem?_getD]
 cases e:own[a]? with
 | none=>simp
 | some x=>exact h.own x (List.mem_of_getElem? e)
end
theorem on_ok (g:Graph) (ib:List Bool):okO g ib=decide (onL g ib=[]):=by
 apply Bool.eq_iff_iff.2
 rw [decide_eq_true_eq,ok_iff]
 constructor
 · intro h
   apply List.eq_nil_iff_forall_not_mem.2
   intro x hx
   obtain ⟨c,_,hp⟩:=on_mem.1 hx
   exact h c hp
 · intro h a hp
   have:=on_mem.2 ⟨a,rfl,hp⟩
   rw [h] at this;cases this
theorem ref_nr {B:Base}{w:World}(hS:St B [] w) (n:Int) :
 CW 169 #[.int .i64 n,.int .i64 0,.int .i64 1048576] w (Ret B (fun _:Unit=>True) (fun _=>.int .i64 (nr n)) (fun _=>[])):=ref_Near hS n 0 1048576
theorem refRound {B:Base}{w:World}(hS:St B [] w) (g:Graph) (A:Option Addr) (cp:Nat) (hC:kII.C B.e A g) (hsm:SmallG g) (ib:List Bool) (A1:Option Addr) (cp1:Nat) (hC1:Kd.bool.C B.e A1 ib) (own:List Int) (A2:Option Addr) (cp2:Nat) (hC2:(Kd.int .i64).C B.e A2 own) (rest step:Int) (last:List Int) (A3:Option Addr) (cp3:Nat) (hC3:(Kd.int .i64).C B.e A3 last) (hl3:last.length=g.length) (hin:InD last) (W0:World) :
 CW 156 #[.slice A g.length cp,.slice A1 ib.length cp1,.slice A2 own.length cp2,.int .i64 rest,.int .i64 step,.slice A3 last.length cp3] w
  (Ret B (fun _:Option Addr×Nat=>True) (fun z=>.slice z.1 g.length z.2) (fun z=>[row (Kd.int .i64) W0 3 (.slice z.1 g.length z.2) (rnd g ib own rest step last)])):=by
 have hn:=hsm.1
 have m2:=hC2.1
 have hrl:=rnd_len g ib own rest step last
 refine ZX Tryz.func156 hS ?_
 refine Zh (Zi (Zp J (Zn (Za (Zh (Zi (Zp J (Zn (Za (Zh (Zh (Zi (Zp J (Zn (Za (Zk (wLoop (ι:=Nat×Option Addr×Nat) (fun z=>[(0,.slice A g.length cp),(1,.slice A1 ib.length cp1),(2,.slice A2 own.length cp2),(3,.int .i64 rest),(4,.int .i64 step),(5,.slice A3 last.length cp3),(13,.slice z.2.1 ((rnd g ib own rest step last).take z.1).length z.2.2),(14,.int .i64 (z.1:Int))]) (fun z=>[row (Kd.int .i64) W0 3 (.slice z.2.1 ((rnd g ib own rest step last).take z.1).length z.2.2) ((rnd g ib own rest step last).take z.1)]) (fun z=>z.1≤g.length) (fun z=>g.length-z.1) (0,none,0) ?_ cv (Leads.nilrow.trans Lh) ?_)))))))))))))))))
 exact Nat.zero_le _
 rintro ⟨i,A6,c6⟩ hi
 dsimp only at hi
 have hti:((rnd g ib own rest step last).take i).length=i:=by rw [List.length_take];omega
 try dsimp only
 refine Zh (Zh (Zi (Zo J (Zo J (Zv J J (Zx J J (Zn (Za (wC (fun h20=>?_) (fun h20=>?_))))))))))
 have hil:i<g.length:=by omega
 have htk:=take_at (l:=rnd g ib own rest step last) (a:=i) (u:=cell g ib own rest step last i) (by simp [rnd,hil])
 obtain ⟨u,hui⟩:∃ u,g[i]?=some u:=⟨_,List.getElem?_eq_getElem hil⟩
 obtain ⟨eg,csg,hE⟩:=hC.elm hui
 have hEK:=hE.K
 obtain ⟨Ag,cg,rfl,hleg,gg⟩:=hEK
 have hue:endsOf g i=u.filter (inG g):=by unfold endsOf;rw [getD_at hui]
 have hul:u.length≤1000:=hsm.2 u (List.mem_of_getElem? hui)
 refine Zj (Za (Zh (Zk (Zh (Zzv ?_)))))
 (refine ZC0 rfl ZK (fun w hS=>frame hS ZQ (fun B' hB hS'=>member_any hS' A cp g A1 cp1 ib (Kd.C_grow hB hC1) (i:Int))) ?_;rintro ⟨⟩ -)
 refine Zno ?_
 refine Zn (Za (wC (fun h27=>?_) (fun h27=>?_)))
 refine Zh (Zi (Zo J (Zo J ?_)))
 (refine ZC0 rfl ZK (fun w hS=>frame hS ZQ (fun B' hB hS'=>ref_nr hS' rest)) ?_;rintro ⟨⟩ -)
 refine ZS0 (t:=30) (v':=.int .i64 (cell g ib own rest step last i)) J (by unfold cell;rw [if_neg (by simpa using h27)]) ?_
 refine oBuildSlice1 J J J J J ZP J (fun b31=>?_)
 refine oApp1 (cell g ib own rest step last i) J J J J ZP ZP J ZO J (fun g32 cp32=>?_)
 rw [show ((rnd g ib own rest step last).take i).length+1=((rnd g ib own rest step last).take (i+1)).length by rw [← htk,List.length_append];rfl,htk]
 refine Zp J (Zn (Za (Zm (Zb (Ze (Za (Zi (Zo J (Zsu ?_)))))))))
 refine Zp J (Zn (Za ?_))
 exact ⟨rfl,(i+1,some ⟨g32,0,none⟩,cp32),by show i+1≤_;omega,by show g.length-(i+1)<g.length-i;omega,cv,Lh⟩
 refine Zj (Za (Zh (Zi (Zp J (Zn (Za (Zh (Zh (Zi (Zp J (Zn (Za (Zk (wLoop (ι:=Nat) (fun k=>[(0,.slice A g.length cp),(1,.slice A1 ib.length cp1),(2,.slice A2 own.length cp2),(3,.int .i64 rest),(4,.int .i64 step),(5,.slice A3 last.length cp3),(13,.slice A6 ((rnd g ib own rest step last).take i).length c6),(14,.int .i64 (i:Int)),(15,.int .i64 (mx (costs step last ((u.take k).filter (inG g))))),(16,.int .i64 (k:Int))]) (fun k=>[row (Kd.int .i64) W0 3 (.slice A6 ((rnd g ib own rest step last).take i).length c6) ((rnd g ib own rest step last).take i)]) (fun k=>k≤u.length) (fun k=>u.length-k) 0 ?_ cv Lh ?_))))))))))))))
 exact Nat.zero_le _
 rintro k hk
 try dsimp only
 refine Zh (Zh (Zi (Zo J (Zo J (Zo J (oIdxE J J (hE) ZO J J ?_))))))
 have hc36:=(hE).cell
 refine Zlx hc36 ?_
 refine Zv J J (Zx J J (Zn (Za (wC (fun h39=>?_) (fun h39=>?_)))))
 obtain ⟨x,hx⟩:∃ x,u[k]?=some x:=⟨_,List.getElem?_eq_getElem ZO⟩
 have hft:=filter_take (P:=inG g) hx
 obtain ⟨e2,cs2,hE2⟩:=gg.elm hx
 obtain rfl:=hE2.K
 refine Zj (Za (Zh (Zk (Zh (Zi (Zo J (Zo J (oIdxE J J (hE) ZO J J ?_))))))))
 have hc44:=(hE).cell
 refine Zlx hc44 ?_
 refine Zo J (oIdxE J J (hE2) ZO J J ?_)
 have hc47:=(hE2).cell
 refine Zlx hc47 ?_
 refine Z2 J J (Zo J (ZS (ZT 50) (fun h50=>?_) (fun h50=>?_)))
 refine Zq J J (Zo J (Zq J J (Zo J (Zq J J (oIdxE J J (hE) ZO J J ?_)))))
 have hc53:=(hE).cell
 refine Zq J J (Zlx hc53 ?_)
 refine Zq J J (Zo J (Zq J J (oIdxE J J (hE2) ZO J J ?_)))
 have hc56:=(hE2).cell
 refine Zq J J (Zlx hc56 ?_)
 refine Zq J J (Zo J (Zq J J (Zv J J (Zq J J (Zx J J (Zt J J (Zn (Za (wC (fun h61=>?_) (fun h61=>?_))))))))))
 obtain ⟨c,rfl⟩:=Int.eq_ofNat_of_zero_le (show 0≤x by omega)
 obtain ⟨e3,cs3,hE3⟩:=hC3.elm (show last[c]?=some (last.getD c 0) by rw [List.getD_eq_getElem?_getD,List.getElem?_eq_getElem (show c<last.length by omega)];rfl)
 obtain rfl:=hE3.K
 have hlc:=hin c
 have hns:=nr_ge step
 refine wDrawG J [0,1,3,4,5,6,7,8,9,10,11,12] [(2,[0,3,4,5,6,7,8,9,10,11,12],[13])] [14,15] 24 ZK J J (fun w0=>?_)
 refine Zo J (Zo J (Zo J (Zo J (Zo J (oIdxE J J (hE) ZO J J ?_)))))
 have hc68:=(hE).cell
 refine Zlx hc68 ?_
 refine Zo J (oIdxE J J (hE2) ZO J J ?_)
 have hc71:=(hE2).cell
 refine Zlx hc71 ?_
 refine oIdxE J J (hE3) ZO J J ?_
 have hc73:=(hE3).cell
 refine Zlx hc73 ?_
 refine Z4 (Z5 J ?_)
 (refine ZC0 rfl ZK (fun w hS=>frame hS ZQ (fun B' hB hS'=>ref_nr hS' step)) ?_;rintro ⟨⟩ -)
 refine ZG ?_ J (fun w0=>?_)
 refine Z8 J J J J (fun w0=>?_) ?_
 refine Zo J ?_
 exact Z9 rfl
 refine Z8 J J J J (fun w0=>?_) ?_
 refine Zo J ?_
 exact Z9 rfl
 refine Z8 J J J J (fun w0=>?_) ?_
 refine Zo J ?_
 exact Z9 rfl
 refine Z8 J J J J (fun w0=>?_) ?_
 refine Zo J ?_
 exact Z9 rfl
 refine Z8 J J J J (fun w0=>?_) ?_
 refine oIdxE J J (hE) ZO J J ?_
 have hc68:=(hE).cell
 exact Z9 rfl
 refine Z8 J J J J (fun w0=>?_) ?_
 refine Zlx hc68 ?_
 exact Z9 rfl
 refine Z8 J J J J (fun w0=>?_) ?_
 refine Zo J ?_
 exact Z9 rfl
 refine Z8 J J J J (fun w0=>?_) ?_
 refine oIdxE J J (hE2) ZO J J ?_
 have hc71:=(hE2).cell
 exact Z9 rfl
 refine Z8 J J J J (fun w0=>?_) ?_
 refine Zlx hc71 ?_
 exact Z9 rfl
 refine Z8 J J J J (fun w0=>?_) ?_
 refine oIdxE J J (hE3) ZO J J ?_
 have hc73:=(hE3).cell
 exact Z9 rfl
 refine Z8 J J J J (fun w0=>?_) ?_
 refine Zlx hc73 ?_
 exact Z9 rfl
 exact AgainG.nil
 refine oAdd J J ZO ?_
 refine Z6 (oMaxI J J ?_)
 rw [if_pos (by rw [inG_iff];omega)] at hft
 refine ZS0 (t:=76) (v':=.int .i64 (mx (costs step last ((u.take (k+1)).filter (inG g))))) rfl (by rw [hft];unfold costs;rw [List.map_append,List.map_singleton,mx_snoc,Int.toNat_natCast];rfl) ?_
 refine Zp J (Zn (Zzd ?_))
 refine Zp J (Zn (Za ?_))
 exact ⟨rfl,k+1,by omega,by omega,cv,Lh⟩
 refine Zj (Zzd ?_)
 refine Zp J (Zn (Za ?_))
 rw [if_neg (by rw [inG_iff];omega),List.append_nil] at hft
 exact ⟨rfl,k+1,by omega,by omega,by rw [hft];exact cv,Lh⟩
 refine Zr J J J J (Zr J J J J (Zr J J J J (Zr J J J J (Zr J J J J (Zr J J J J (Zr J J J J (Zr J J J J (Zr J J J J (Zr J J J J (Zu J J (Zn (Za (wCondF J (Zj (Zzd ?_)))))))))))))))
 refine Zp J (Zn (Za ?_))
 rw [if_neg (by rw [inG_iff];omega),List.append_nil] at hft
 exact ⟨rfl,k+1,by omega,by omega,by rw [hft];exact cv,Lh⟩
 obtain rfl:k=u.length:=by omega
 rw [List.take_length,← hue]
 have hmi:=mx_in (step:=step) hin (endsOf g i)
 have hmg:=(mx_ge (costs step last (endsOf g i))).1
 refine Zm (Zb (Zb (Ze (Za (Zh (Zh (Zi (Zo J (Zo J (Zv J J (Zx J J (Zn (Za (wC (fun h80=>?_) (fun h80=>?_)))))))))))))))
 refine Zi (Zo J (Zo J (Zo J (oIdx J J (hC2) J ZO J J (fun e84 u84 cs84 hu84 hk84 hc84=>?_)))))
 obtain rfl:=hk84
 refine Zlx hc84 ?_
 (refine ZC0 rfl ZK (fun w hS=>frame hS ZQ (fun B' hB hS'=>ref_nr hS' u84)) ?_;rintro ⟨⟩ -)
 have hno:=nr_ge u84
 refine oAdd J J ZO ?_
 refine ZS0 (t:=87) (v':=.int .i64 (addO own i (mx (costs step last (endsOf g i))))) J (by unfold addO;rw [if_pos ZO,getD_at hu84]) ?_
 refine Zp J (Zn (Za (Zi (Zo J (Zo J (oMinI J J ?_))))))
 have hcl:cell g ib own rest step last i=minI (addO own i (mx (costs step last (endsOf g i)))) 1099511627776:=by unfold cell;rw [if_pos (by simpa using h27)]
 refine ZS0 (t:=90) (v':=.int .i64 (cell g ib own rest step last i)) rfl (by rw [hcl];rfl) ?_
 refine oBuildSlice1 J J J J J ZP J (fun b91=>?_)
 refine oApp1 (cell g ib own rest step last i) J J J J ZP ZP J ZO J (fun g92 cp92=>?_)
 rw [show ((rnd g ib own rest step last).take i).length+1=((rnd g ib own rest step last).take (i+1)).length by rw [← htk,List.length_append];rfl,htk]
 refine Zp J (Zn (Zzd ?_))
 refine Zp J (Zn (Za ?_))
 exact ⟨rfl,(i+1,some ⟨g92,0,none⟩,cp92),by show i+1≤_;omega,by show g.length-(i+1)<g.length-i;omega,cv,Lh⟩
 refine Zj (Za (Zi (Zo J (Zo J ?_))))
 refine ZS0 (t:=89) (v':=.int .i64 (addO own i (mx (costs step last (endsOf g i))))) J (by unfold addO;rw [if_neg ZO]) ?_
 refine oMinI J J ?_
 have hcl:cell g ib own rest step last i=minI (addO own i (mx (costs step last (endsOf g i)))) 1099511627776:=by unfold cell;rw [if_pos (by simpa using h27)]
 refine ZS0 (t:=90) (v':=.int .i64 (cell g ib own rest step last i)) rfl (by rw [hcl];rfl) ?_
 refine oBuildSlice1 J J J J J ZP J (fun b91=>?_)
 refine oApp1 (cell g ib own rest step last i) J J J J ZP ZP J ZO J (fun g92 cp92=>?_)
 rw [show ((rnd g ib own rest step last).take i).length+1=((rnd g ib own rest step last).take (i+1)).length by rw [← htk,List.length_append];rfl,htk]
 refine Zp J (Zn (Zzd ?_))
 refine Zp J (Zn (Za ?_))
 exact ⟨rfl,(i+1,some ⟨g92,0,none⟩,cp92),by show i+1≤_;omega,by show g.length-(i+1)<g.length-i;omega,cv,Lh⟩
 obtain rfl:i=g.length:=by omega
 rw [hti,← hrl,List.take_length,hrl]
 refine Zm (Zzf ?_)
 exact ⟨(A6,c6),trivial,rfl,Lh⟩
theorem refDepths {B:Base}{w:World}(hS:St B [] w) (g:Graph) (A:Option Addr) (cp:Nat) (hC:kII.C B.e A g) (hsm:SmallG g) (ib:List Bool) (A1:Option Addr) (cp1:Nat) (hC1:Kd.bool.C B.e A1 ib) (own:List Int) (A2:Option Addr) (cp2:Nat) (hC2:(Kd.int .i64).C B.e A2 own) (rest step:Int) (W0:World) :
 CW 97 #[.slice A g.length cp,.slice A1 ib.length cp1,.slice A2 own.length cp2,.int .i64 rest,.int .i64 step] w
  (Ret B (fun _:Option Addr×Nat=>True) (fun z=>.tuple #[.slice z.1 (DLo g ib own rest step).length z.2,.bool (okO g ib)]) (fun z=>[row (Kd.int .i64) W0 3 (.slice z.1 (DLo g ib own rest step).length z.2) (DLo g ib own rest step)])):=by
 have hn:=hsm.1
 have hok:=on_ok g ib
 refine ZX Tryz.func97 hS ?_
 refine Zh (Zi (Zp J (Zp J (Zn (Za (Zh (Zzu ?_)))))))
 (refine ZC0 rfl ZK (fun w hS=>frame hS ZQ (fun B' hB hS'=>refOn hS' g A cp (Kd.C_grow hB hC) hsm ib A1 cp1 (Kd.C_grow hB hC1) B.e)) ?_;rintro ⟨A16,c16⟩ -)
 refine Zv J J (Z1 J J (Zn (Za (wC (fun h18=>?_) (fun h18=>?_)))))
 have hok:okO g ib=false:=by rw [hok,decide_eq_false_iff_not];intro h;rw [h] at h18;simp at h18
 refine Zh (Zi (Zzo ?_))
 refine ⟨rfl,_,(ResL.cons (ResR.tmp rfl) (ResL.cons (ResR.tmp rfl) ResL.nil)),?_⟩
 exact ⟨(none,0),trivial,by unfold DLo;rw [hok];rfl,by unfold DLo;rw [hok];exact Leads.nilrow.trans Lh⟩
 have hok:okO g ib=true:=by rw [hok,decide_eq_true_eq];exact List.eq_nil_of_length_eq_zero ZO
 refine Zj (Za (Zh (Zi (Zo J (Zv J J (oMake (kd:=Kd.int .i64) (W:=W0) (0:Int) J J J J J J ZO J (fun g21=>?_)))))))
 refine Zp J (Zn (Za (Zh (Zh (Zi (Zp J (Zn (Za (Zk (wLoop (ι:=Nat×Option Addr×Nat) (fun z=>[(0,.slice A g.length cp),(1,.slice A1 ib.length cp1),(2,.slice A2 own.length cp2),(3,.int .i64 rest),(4,.int .i64 step),(12,.slice z.2.1 g.length z.2.2),(13,.int .i64 (z.1:Int))]) (fun z=>[row (Kd.int .i64) W0 3 (.slice z.2.1 g.length z.2.2) (rnds g ib own rest step z.1)]) (fun z=>z.1≤g.length+1) (fun z=>g.length+1-z.1) (0,some ⟨g21,0,none⟩,g.length) ?_ cv Lh ?_))))))))))
 exact Nat.zero_le _
 rintro ⟨i,A6,c6⟩ hi
 dsimp only at hi
 have hrl:=rnds_len g ib own rest step i
 try dsimp only
 refine Zh (Zh (Zi (Zo J (Zo J (Zv J J (oLeq J J (Zn (Za (wC (fun h25=>?_) (fun h25=>?_))))))))))
 refine Zj (Za (Zh (Zk (Zi (Zo rfl (Zo rfl (Zo rfl (Zo rfl (Zo rfl (Zo rfl (ZS0 (t:=33) (v':=.slice A6 (rnds g ib own rest step i).length c6) rfl (by rw [hrl]) ?_)))))))))))
 (refine ZD J (fun w B' hB hR hS'=>refRound hS' g A cp (Kd.C_grow hB hC) hsm ib A1 cp1 (Kd.C_grow hB hC1) own A2 cp2 (Kd.C_grow hB hC2) rest step (rnds g ib own rest step i) A6 c6 (row_Cs (hR _ _ ZP)) hrl (rnds_in i) W0) ?_;rintro ⟨A34,c34⟩ -)
 refine Zp J (Zn (Zzd ?_))
 refine Zp J (Zn (Za ?_))
 exact ⟨rfl,(i+1,A34,c34),by show i+1≤_;omega,by show g.length+1-(i+1)<g.length+1-i;omega,cv,Lh⟩
 obtain rfl:i=g.length+1:=by omega
 refine Zm (Zb (Zb (Ze (Za (Zh (Zi (Zo J (Zp J (Zp J (Zn (Za (Zl (Zw ?_)))))))))))))
 refine ⟨rfl,_,(ResL.cons (ResR.tmp rfl) (ResL.cons (ResR.tmp rfl) ResL.nil)),?_⟩
 have hDl:DLo g ib own rest step=rnds g ib own rest step (g.length+1):=by unfold DLo;rw [hok,if_pos rfl];rfl
 exact ⟨(A6,c6),trivial,by rw [hDl,hrl,hok];rfl,by rw [hDl,hrl];exact (Leads.has ZQ)⟩
theorem DLo_ok {g:Graph}{ib:List Bool}{own:List Int}{rest step:Int}(h:okO g ib=true):DLo g ib own rest step=DL g ib own rest step:=by unfold DLo;rw [h,if_pos rfl]
structure WyI (g:Graph) (ib:List Bool) (D:List Int) (k:Nat) (o:List Int) (a f:Nat):Prop where
  lt:a<g.length
  rk:rk g ib a<f
  eq:wy g ib D (g.length+1) k=o++wy g ib D f a
  len:o.length+f≤g.length+1
theorem WyI.init {g:Graph}{ib:List Bool}{D:List Int}{k:Nat}(hk:k<g.length):WyI g ib D k [] k (g.length+1):=⟨hk,by have:=rk_le (g:=g) (ib:=ib) k;omega,rfl,by simp⟩
theorem WyI.go {g:Graph}{ib:List Bool}{D:List Int}{k:Nat}{o:List Int}{a f c:Nat}(h:WyI g ib D k o a (f+1)) (hok:okO g ib=true) (hm:memF g ib (a:Int)=true) (hc:bst g D a=(c:Int)):WyI g ib D k (o++[(a:Int)]) c f:=by
 obtain ⟨c',hc',he,hl,_⟩:=bst_spec (show 0≤bst g D a by omega)
 obtain rfl:c=c':=by omega
 have hr:=rk_lt hok hm he
 exact ⟨hl,by have:=h.rk;omega,by rw [h.eq,wy_go hm hc,List.append_assoc];rfl,by have:=h.len;rw [List.length_append];simp only [List.length_cons,List.length_nil];omega⟩
end Go.Proofs.YtogaiijhicfoaaaGreatG
namespace Go.Proofs.YtogaiijhicfoaaaGreatY
set_option maxRecDepth 100000
set_option maxHeartbeats 4000000
open Go.RowKit Go.Proofs.YtogaiijhicfoaaaGreatK Go.Proofs.YtogaiijhicfoaaaGreatT Go.Proofs.YtogaiijhicfoaaaGreatL Go.Proofs.YtogaiijhicfoaaaGreatV Go.Proofs.YtogaiijhicfoaaaGreatG Go.Proofs.YtogaiijhicfoaaaGreatW Go.Proofs.YtogaiijhicfoaaaGreatU

theorem frmL_len (p:ApiProgram):(frmL p).length=p.fFuns.length:=by unfold frmL;simp
noncomputable def dN (p:ApiProgram) (free:List Bool):List Int:=DLo (graphF p) (memF p free) (frmL p) 1 1
noncomputable def okN (p:ApiProgram) (free:List Bool):Bool:=okO (graphF p) (memF p free)
theorem depsP {B:Base}{w:World}(hS:St B [] w) {p:ApiProgram}(hsm:SmallP p) (free:List Bool) (A:Option Addr) (cp:Nat) (hC:(Kd.slice (Kd.int .i64)).C B.e A (graphF p)) (A1:Option Addr) (cp1:Nat) (hC1:Kd.bool.C B.e A1 (memF p free)) (A2:Option Addr) (cp2:Nat) (hC2:(Kd.int .i64).C B.e A2 (frmL p)) (W0:World) :
 CW 155 #[.slice A p.fFuns.length cp,.slice A1 p.fFuns.length cp1,.slice A2 p.fFuns.length cp2,.int .i64 1,.int .i64 1] w (Ret B (fun _:Option Addr×Nat=>True) (fun z=>.tuple #[.slice z.1 (dN p free).length z.2,.bool (okN p free)]) (fun z=>[row (Kd.int .i64) W0 3 (.slice z.1 (dN p free).length z.2) (dN p free)])):=by
 have hn:=hsm.funs
 have h:=depthsP hS (graphF p) A cp hC (grG_small hsm) (memF p free) A1 cp1 hC1 (by rw [memF_len];omega) (frmL p) A2 cp2 hC2 1 1 W0
 rw [Go.Proofs.YtogaiijhicfoaaaGreatU.graphF_len,memF_len,frmL_len] at h
 exact h
theorem depsR {B:Base}{w:World}(hS:St B [] w) {p:ApiProgram}(hsm:SmallP p) (free:List Bool) (A:Option Addr) (cp:Nat) (hC:(Kd.slice (Kd.int .i64)).C B.e A (graphF p)) (A1:Option Addr) (cp1:Nat) (hC1:Kd.bool.C B.e A1 (memF p free)) (A2:Option Addr) (cp2:Nat) (hC2:(Kd.int .i64).C B.e A2 (frmL p)) (W0:World) :
 CW 97 #[.slice A p.fFuns.length cp,.slice A1 p.fFuns.length cp1,.slice A2 p.fFuns.length cp2,.int .i64 1,.int .i64 1] w (Ret B (fun _:Option Addr×Nat=>True) (fun z=>.tuple #[.slice z.1 (dN p free).length z.2,.bool (okN p free)]) (fun z=>[row (Kd.int .i64) W0 3 (.slice z.1 (dN p free).length z.2) (dN p free)])):=by
 have hn:=hsm.funs
 have h:=refDepths hS (graphF p) A cp hC (grG_small hsm) (memF p free) A1 cp1 hC1 (frmL p) A2 cp2 hC2 1 1 W0
 rw [Go.Proofs.YtogaiijhicfoaaaGreatU.graphF_len,memF_len,frmL_len] at h
 exact h
theorem view_needs {B:Base}{w:World}{p:ApiProgram}{b:Nat}{A C F R:Option Addr}{c d e k:Nat}(hS:St B [blk b 123 [.slice A p.fFuns.length c,.slice C p.fFuns.length d,.slice F p.fFuns.length e,.slice R p.fFuns.length k]] w) (hsm:SmallP p) (free:List Bool) (hG:(Kd.slice (Kd.int .i64)).C B.e A (graphF p)) (hM:Kd.bool.C B.e F (memF p free)) (hO:(Kd.int .i64).C B.e R (frmL p)) (W0:World) :
 CW 96 #[.pointer (some ⟨b,0,none⟩)] w (Ret B (fun _:Option Addr×Nat=>True) (fun z=>.tuple #[.slice z.1 (dN p free).length z.2,.bool (okN p free)]) (fun z=>[blk b 123 [.slice A p.fFuns.length c,.slice C p.fFuns.length d,.slice F p.fFuns.length e,.slice R p.fFuns.length k],row (Kd.int .i64) W0 3 (.slice z.1 (dN p free).length z.2) (dN p free)])):=by
 refine ZX Tryz.func96 hS ?_
 refine Zh (Zi (Zp J (Zp J (Zn (Za (Zh (wDrawG J [0,1,2,3,4,5,6,7,8,9,10,11] [(12,[],[13,14])] [15,16] 24 ZK J J (fun w0=>?_))))))))
 refine Zo J (Z3 J (Zz (n:=0) (m:=0) J J J (Zld ?_)))
 refine Zo J (Z3 J (Zz (n:=2) (m:=2) J J J (Zld ?_)))
 refine Zo J (Z3 J (Zz (n:=3) (m:=3) J J J (Zld ?_)))
 refine Z4 (Z5 J ?_)
 (refine ZC0 rfl ZK (fun w hS=>frame hS ZQ (fun B' hB hS'=>depsP hS' hsm free A c (Kd.C_grow hB hG) F e (Kd.C_grow hB hM) R k (Kd.C_grow hB hO) W0)) ?_;rintro ⟨A16,c16⟩ -)
 refine ZG ?_ J (fun w0=>?_)
 exact AgainG.nil
 refine oExt J ZP ?_
 refine oExt J ZP ?_
 refine Z6 (Zp J (Zp J (Zn (Za (Zl (Zw ?_))))))
 refine ⟨rfl,_,(ResL.cons (ResR.tmp rfl) (ResL.cons (ResR.tmp rfl) ResL.nil)),?_⟩
 exact ⟨(A16,c16),trivial,rfl,Lh⟩
theorem ref27_Needs {B:Base}{w:World}(hS:St B [] w) (p:ApiProgram) (pc:List Value) (hp:kApiProgram.K B.e p pc) (hsm:SmallP p) (free:List Bool) (A':Option Addr) (c':Nat) (hF:Kd.bool.C B.e A' free) (W0:World) :
 CW 40 #[.agg pc.toArray,.slice A' free.length c'] w (Ret B (fun _:Option Addr×Nat=>True) (fun z=>.tuple #[.slice z.1 (dN p free).length z.2,.bool (okN p free)]) (fun z=>[row (Kd.int .i64) W0 3 (.slice z.1 (dN p free).length z.2) (dN p free)])):=by
 obtain ⟨A0,c0,A1,c1,rfl,l0,g0,l1,g1⟩:=kApiProgram_open hp
 refine ZX Tryz.func40 hS ?_
 refine Zh (Zi (oBox J ZP (fun b2=>?_)))
 refine Zp J (Zp J (Zn (Za (Zh (wDrawG J [0,2,3,5] [(1,[2,3,5],[]),(4,[5],[]),(6,[],[]),(7,[],[8,9])] [10,11] 24 ZK J J (fun w0=>?_))))))
 refine Zla ?_
 refine Zla ?_
 refine Zo J (Zla ?_)
 refine Z4 (Z5 J ?_)
 (refine ZC0 rfl ZK (fun w hS=>frame hS ZQ (fun B' hB hS'=>ref26_Graph hS' p _ (gPg hB hp) hsm B.e)) ?_;rintro ⟨A7,c7,hs7⟩ hl7)
 refine ZG ?_ J (fun w0=>?_)
 refine Z8 J J J J (fun w0=>?_) ?_
 refine Zla ?_
 exact Z9 rfl
 refine Z8 J J J J (fun w0=>?_) ?_
 refine Zo J ?_
 exact Z9 rfl
 refine Z8 J J J J (fun w0=>?_) ?_
 refine Zla ?_
 exact Z9 rfl
 exact AgainG.nil
 refine Z4 (Z5 J ?_)
 (refine ZC0 rfl ZK (fun w hS=>frame hS ZQ (fun B' hB hS'=>ref27_members hS' p _ (gPg hB hp) hsm free A' c' (Kd.C_grow hB hF) B.e)) ?_;rintro ⟨A10,c10⟩ -)
 refine ZG ?_ J (fun w0=>?_)
 refine Z8 J J J J (fun w0=>?_) ?_
 refine Zla ?_
 exact Z9 rfl
 exact AgainG.nil
 refine Z4 (Z5 J ?_)
 (refine ZC0 rfl ZK (fun w hS=>frame hS ZQ (fun B' hB hS'=>ref27_frames hS' p _ (gPg hB hp) hsm B.e)) ?_;rintro ⟨A12,c12⟩ -)
 refine ZG ?_ J (fun w0=>?_)
 exact AgainG.nil
 refine Z4 (Z5 J ?_)
 (refine ZD J (fun w B' hB hR hS'=>depsR hS' hsm free A7 c7 (grid_C (kd:=Kd.int .i64) (W:=B.e) (ei:=3) (eo:=42) (W0:=B.e) (n:=p.fFuns.length) (cp:=c7) (hs:=hs7) (A:=A7) (xss:=graphF p) (hR _ _ ZP) (hR _ _ ZP) (by rw [hl7,Go.Proofs.YtogaiijhicfoaaaGreatU.graphF_len]) hB) A10 c10 (row_Cs (W:=B.e) (e:=4) (n:=p.fFuns.length) (cp:=c10) (hR _ _ ZP)) A12 c12 (row_Cs (W:=B.e) (e:=3) (n:=p.fFuns.length) (cp:=c12) (hR _ _ ZP)) W0) ?_;rintro ⟨A13,c13⟩ -)
 refine ZG ?_ J (fun w0=>?_)
 exact AgainG.nil
 refine oExt J ZP ?_
 refine oExt J ZP ?_
 refine Z6 (Zp J (Zp J (Zn (Za (Zl (Zw ?_))))))
 refine ⟨rfl,_,(ResL.cons (ResR.tmp rfl) (ResL.cons (ResR.tmp rfl) ResL.nil)),?_⟩
 exact ⟨(A13,c13),trivial,rfl,Lh⟩
theorem eg_ends {p:ApiProgram}{i:Nat}(hi:i<p.fFuns.length) {x:Int} : x ∈ (graphF p).getD i []↔x ∈ endsOf (graphF p) i:=by
 rw [getD_at (graph_at hi)];exact (ends_graph hi).symm
theorem eg_in {p:ApiProgram}{i:Nat}(hi:i<p.fFuns.length) {x:Int}(h:x ∈ (graphF p).getD i []):∃ c:Nat,x=(c:Int)∧c<p.fFuns.length:=by
 obtain ⟨c,rfl,hc⟩:=ends_nat ((eg_ends hi).1 h)
 exact ⟨c,rfl,by rw [Go.Proofs.YtogaiijhicfoaaaGreatU.graphF_len] at hc;exact hc⟩
theorem dN_ok {p:ApiProgram}{free:List Bool}(h:okN p free=true):dN p free=DL (graphF p) (memF p free) (frmL p) 1 1:=DLo_ok h
theorem dN_in (p:ApiProgram) (free:List Bool) (a:Nat):0≤(dN p free).getD a 0∧(dN p free).getD a 0≤1099511627776:=by
 unfold dN DLo
 split
 · exact DL_in a
 · simp
theorem dN_len {p:ApiProgram}{free:List Bool}(h:okN p free=true):(dN p free).length=p.fFuns.length:=by rw [dN_ok h,DL_len,Go.Proofs.YtogaiijhicfoaaaGreatU.graphF_len]
noncomputable def deepF (p:ApiProgram) (free:List Bool) (x:Int):Bool:=decide (56<1+(dN p free).getD x.toNat 0)
noncomputable def badF (p:ApiProgram) (free:List Bool) (i:Nat):Bool:=(calledL p).getD i false && !(memF p free).getD i false && ((graphF p).getD i []).any (deepF p free)
def plcF (p:ApiProgram) (e:Int) (i:Nat):Int×Int×Int:=(e,(p.fFuns.getD i default).fFile,(p.fFuns.getD i default).fItem)
noncomputable def checkN (p:ApiProgram) (free:List Bool):Int×Int×Int:=
  if 0≤p.fEntry∧p.fEntry<(p.fFuns.length:Int) then
    if okN p free=true then
      if deepF p free p.fEntry=true then (18,-1,-1)
      else match (List.range p.fFuns.length).find? (badF p free) with
        | none=>(0,0,0)
        | some i=>plcF p 18 i
    else plcF p 17 ((onL (graphF p) (memF p free)).getD 0 0).toNat
  else (2,-1,-1)
section
variable {p : ApiProgram} {free less : List Bool} (hs : ∀ a : Nat, less[a]? = some true → free[a]? = some true)
include hs
end
open Go.Proofs.YtogaiijhicfoaaaGreatQ (qins lt2 qins_perm qins_sorted lt2_tr)
abbrev SrtQ (W:List (Int×Int)):Prop:=Go.Proofs.YtogaiijhicfoaaaGreatQ.Sorted W

def frmF (p:ApiProgram) (i:Nat):Int:=frameN (p.fFuns.getD i default).fF
noncomputable def candF (p:ApiProgram) (i:Nat):Bool:=(calledL p).getD i false && !(p.fFuns.getD i default).fF.fNosplit
noncomputable def waitTo (p:ApiProgram):Nat→List (Int×Int)
  | 0=>[]
  | i+1=>if candF p i=true then qins ((i:Int),frmF p i) (waitTo p i) else waitTo p i
theorem wait_mem {p:ApiProgram} : ∀ {i:Nat}{x:Int×Int},x ∈ waitTo p i↔∃ k:Nat,k<i∧x=((k:Int),frmF p k)∧candF p k=true
 | 0,x=>by simp [waitTo]
 | i+1,x=>by
  unfold waitTo
  by_cases h:candF p i=true
  · rw [if_pos h,(qins_perm _ _).mem_iff,List.mem_cons,wait_mem]
    constructor
    · rintro (rfl | ⟨k,h1,h2,h3⟩)
      · exact ⟨i,by omega,rfl,h⟩
      · exact ⟨k,by omega,h2,h3⟩
    · rintro ⟨k,h1,h2,h3⟩
      by_cases e:k=i
      · subst e;exact .inl h2
      · exact .inr ⟨k,by omega,h2,h3⟩
  · rw [if_neg h,wait_mem]
    constructor
    · rintro ⟨k,h1,h2,h3⟩;exact ⟨k,by omega,h2,h3⟩
    · rintro ⟨k,h1,h2,h3⟩
      by_cases e:k=i
      · subst e;exact absurd h3 h
      · exact ⟨k,by omega,h2,h3⟩
theorem wait_sorted (p:ApiProgram):∀ i,SrtQ (waitTo p i)
 | 0=>List.Pairwise.nil
 | i+1=>by
  unfold waitTo
  split
  · refine qins_sorted (wait_sorted p i) (fun y hy=>?_)
    obtain ⟨k,h1,rfl,_⟩:=wait_mem.1 hy
    show (k:Int)≠(i:Int)
    omega
  · exact wait_sorted p i
theorem wait_len (p:ApiProgram):∀ i,(waitTo p i).length≤i
 | 0=>Nat.le_refl _
 | i+1=>by
  have:=wait_len p i
  unfold waitTo
  split
  · rw [(qins_perm _ _).length_eq,List.length_cons];omega
  · omega
theorem wait_new {p:ApiProgram}{i:Nat} : Go.Proofs.YtogaiijhicfoaaaGreatQ.qhas (waitTo p i) (i:Int)=false:=by
 unfold Go.Proofs.YtogaiijhicfoaaaGreatQ.qhas
 rw [List.any_eq_false]
 intro x hx
 obtain ⟨k,h1,rfl,_⟩:=wait_mem.1 hx
 simp only [beq_iff_eq]
 omega
noncomputable def ordN (p:ApiProgram):List Int:=(waitTo p p.fFuns.length).map (·.1)
theorem ord_mem {p:ApiProgram}{x:Int} : x ∈ ordN p↔∃ k:Nat,x=(k:Int)∧k<p.fFuns.length∧candF p k=true:=by
 unfold ordN
 rw [List.mem_map]
 constructor
 · rintro ⟨y,hy,rfl⟩
   obtain ⟨k,h1,rfl,h3⟩:=wait_mem.1 hy
   exact ⟨k,rfl,h1,h3⟩
 · rintro ⟨k,rfl,h1,h2⟩
   exact ⟨_,wait_mem.2 ⟨k,h1,rfl,h2⟩,rfl⟩
theorem ord_nodup (p:ApiProgram):(ordN p).Nodup:=by
 unfold ordN
 refine Go.Proofs.YtogaiijhicfoaaaGreatQ.nodup_map _ ((wait_sorted p _).imp (fun {a b} h e=>by subst e;unfold lt2 at h;omega)) (fun a ha b hb h=>?_)
 obtain ⟨k,_,rfl,_⟩:=wait_mem.1 ha
 obtain ⟨m,_,rfl,_⟩:=wait_mem.1 hb
 have:(k:Int)=(m:Int):=h
 obtain rfl:k=m:=by omega
 rfl
theorem ord_len (p:ApiProgram):(ordN p).length≤p.fFuns.length:=by unfold ordN;rw [List.length_map];exact wait_len p _
theorem qins_at {x:Int×Int} : ∀ {W:List (Int×Int)}{k:Nat},SrtQ W→k≤W.length→(∀ y ∈ W.drop k,lt2 x y)→(∀ y ∈ W.take k,¬ lt2 x y)→qins x W=W.take k++x :: W.drop k
 | [],k,_,_,_,_=>by simp [qins]
 | y :: W,0,hs,_,h1,_=>by
  have:=h1 y (by simp)
  simp only [qins]
  rw [if_pos this]
  simp
 | y :: W,k+1,hs,hk,h1,h2=>by
  have:=h2 y (by simp)
  simp only [qins]
  rw [if_neg this,qins_at (k:=k) (List.pairwise_cons.1 hs).2 (by simpa using hk) (fun z hz=>h1 z (by simpa using hz)) (fun z hz=>h2 z (by simp only [List.take_succ_cons,List.mem_cons];exact .inr hz))]
  simp
def bubL (l:List Int) (x:Int) (k:Nat):List Int:=l.take k++x :: l.drop k
theorem bubL_len {l:List Int}{x:Int}{k:Nat}(h:k≤l.length):(bubL l x k).length=l.length+1:=by
 unfold bubL
 rw [List.length_append,List.length_cons,List.length_take,List.length_drop];omega
theorem bubL_last (l:List Int) (x:Int):bubL l x l.length=l++[x]:=by unfold bubL;simp
theorem bubL_k {l:List Int}{x:Int}{k:Nat}(h:k≤l.length):(bubL l x k)[k]?=some x:=by
 unfold bubL
 rw [List.getElem?_append_right (by rw [List.length_take];omega),List.length_take,show k-min k l.length=0 by omega];rfl
theorem bubL_p {l:List Int}{x:Int}{k:Nat}(h:k+1≤l.length):(bubL l x (k+1))[k]?=l[k]?:=by
 unfold bubL
 rw [List.getElem?_append_left (by rw [List.length_take];omega),List.getElem?_take,if_pos ZO]
theorem bubL_swap {l:List Int}{x y:Int}{k:Nat}(h:l[k]?=some y):((bubL l x (k+1)).set (k+1) y).set k x=bubL l x k:=by
 have hl:k<l.length:=(List.getElem?_eq_some_iff.1 h).1
 have e1:l.take (k+1)=l.take k++[y]:=by rw [List.take_add_one,h];rfl
 have e2:l.drop k=y :: l.drop (k+1):=by
  rw [← List.getElem_cons_drop (h:=hl)]
  congr 1
  exact (List.getElem?_eq_some_iff.1 h).2
 unfold bubL
 rw [e1,e2]
 have lt:(l.take k).length=k:=by rw [List.length_take];omega
 rw [List.set_append_right _ _ (by rw [List.length_append,lt];simp),List.append_assoc,List.set_append_right _ _ (by rw [lt];omega)]
 rw [lt,show k-k=0 by omega,List.length_append,lt,List.length_singleton,show k+1-(k+1)=0 by omega]
 rfl
noncomputable def fineB (p:ApiProgram) (free:List Bool):Bool:=decide ((checkN p free).1=0)
noncomputable def chStep (p:ApiProgram) (z:List Bool×Int) (i:Int):List Bool×Int:=if fineB p (z.1.set i.toNat true)=true then (z.1.set i.toNat true,z.2+1) else (z.1.set i.toNat false,z.2)
noncomputable def chTo (p:ApiProgram) (i:Nat):List Bool×Int:=((ordN p).take i).foldl (chStep p) (nosL p,0)
noncomputable def chN (p:ApiProgram):List Bool×Int:=if fineB p (nosL p)=true then chTo p (ordN p).length else (nosL p,0)
theorem nosL_len (p:ApiProgram):(nosL p).length=p.fFuns.length:=by unfold nosL;simp
theorem ch_zero (p:ApiProgram):chTo p 0=(nosL p,0):=rfl
theorem ch_succ {p:ApiProgram}{i:Nat}{x:Int}(h:(ordN p)[i]?=some x):chTo p (i+1)=chStep p (chTo p i) x:=by
 unfold chTo
 rw [List.take_add_one,h,List.foldl_append];rfl
theorem ch_len (p:ApiProgram):∀ i,(chTo p i).1.length=p.fFuns.length
 | 0=>nosL_len p
 | i+1=>by
  cases h:(ordN p)[i]? with
  | none=>
   have:chTo p (i+1)=chTo p i:=by unfold chTo;rw [List.take_add_one,h];simp
   rw [this];exact ch_len p i
  | some x=>
   rw [ch_succ h]
   unfold chStep
   split <;> (dsimp only;rw [List.length_set];exact ch_len p i)
theorem chN_len (p:ApiProgram):(chN p).1.length=p.fFuns.length:=by
 unfold chN;split
 · exact ch_len p _
 · exact nosL_len p
theorem ch_cnt (p:ApiProgram):∀ i,0≤(chTo p i).2∧(chTo p i).2≤(i:Int)
 | 0=>by rw [ch_zero];simp
 | i+1=>by
  have ih:=ch_cnt p i
  cases h:(ordN p)[i]? with
  | none=>
   have:chTo p (i+1)=chTo p i:=by unfold chTo;rw [List.take_add_one,h];simp
   rw [this];omega
  | some x=>
   rw [ch_succ h]
   unfold chStep
   split <;> (dsimp only;omega)
theorem cand_nos {p:ApiProgram}{k:Nat}(h:candF p k=true) (hk:k<p.fFuns.length):(nosL p)[k]?=some false:=by
 unfold candF at h
 rw [Bool.and_eq_true,Bool.not_eq_true'] at h
 have h2:=h.2
 rw [List.getD_eq_getElem?_getD,List.getElem?_eq_getElem hk] at h2
 unfold nosL
 rw [List.getElem?_map,List.getElem?_eq_getElem hk]
 exact congrArg some h2
theorem ch_keep {p:ApiProgram}{k:Nat} : ∀ (m i:Nat),(∀ j,i≤j→j<i+m→(ordN p)[j]?≠some (k:Int))→(chTo p (i+m)).1[k]?=(chTo p i).1[k]?
 | 0,i,_=>rfl
 | m+1,i,h=>by
  have ih:=ch_keep m i (fun j h1 h2=>h j h1 ZO)
  rw [← ih,show i+(m+1)=(i+m)+1 by omega]
  cases e:(ordN p)[i+m]? with
  | none=>
   have:chTo p (i+m+1)=chTo p (i+m):=by unfold chTo;rw [List.take_add_one,e];simp
   rw [this]
  | some x=>
   have hx:x.toNat≠k:=by
    intro hx
    obtain ⟨c,rfl,_,_⟩:=ord_mem.1 (List.mem_of_getElem? e)
    rw [Int.toNat_natCast] at hx
    subst hx
    exact h (i+m) ZO ZO e
   rw [ch_succ e]
   unfold chStep
   split <;> (dsimp only;rw [List.getElem?_set,if_neg hx])
theorem ord_inj {p:ApiProgram}{i j:Nat}{x:Int}(hi:(ordN p)[i]?=some x) (hj:(ordN p)[j]?=some x):i=j:=by
 have hn:=ord_nodup p
 exact (List.getElem?_inj (List.getElem?_eq_some_iff.1 hi).1 hn).1 (hi.trans hj.symm)
theorem ch_final {p:ApiProgram}{i k:Nat}(h:(ordN p)[i]?=some (k:Int)):(chTo p (ordN p).length).1[k]?=some (fineB p ((chTo p i).1.set k true)):=by
 have hi:=(List.getElem?_eq_some_iff.1 h).1
 obtain ⟨c,hc,hl,hcd⟩:=ord_mem.1 (List.mem_of_getElem? h)
 obtain rfl:k=c:=by omega
 have:=ch_keep (p:=p) (k:=k) ((ordN p).length-(i+1)) (i+1) (fun j h1 _ he=>by have:=ord_inj he h;omega)
 rw [show i+1+((ordN p).length-(i+1))=(ordN p).length by omega] at this
 rw [this,ch_succ h]
 unfold chStep
 rw [Int.toNat_natCast]
 cases hf:fineB p ((chTo p i).1.set k true) with
 | true=>rw [if_pos rfl];dsimp only;rw [List.getElem?_set,if_pos rfl,if_pos (by rw [ch_len];exact hl)]
 | false=>rw [if_neg (by simp)];dsimp only;rw [List.getElem?_set,if_pos rfl,if_pos (by rw [ch_len];exact hl)]
noncomputable def savTo (p:ApiProgram) (i:Nat):Int:=((((ordN p).take i).filter fun x=>(chN p).1.getD x.toNat false).length:Int)
theorem sav_succ {p:ApiProgram}{i:Nat}{x:Int}(h:(ordN p)[i]?=some x):savTo p (i+1)=savTo p i+if (chN p).1.getD x.toNat false=true then 1 else 0:=by
 unfold savTo
 rw [List.take_add_one,h,List.filter_append,List.length_append]
 have h1:(List.filter (fun x:Int=>(chN p).1.getD x.toNat false) [x]).length=if (chN p).1.getD x.toNat false=true then 1 else 0:=by
  rw [List.filter_cons];split <;> rfl
 rw [show (some x).toList=[x] from rfl,h1]
 split <;> omega
theorem sav_le (p:ApiProgram) (i:Nat):0≤savTo p i∧savTo p i≤(i:Int):=by
 unfold savTo
 have h1:(((ordN p).take i).filter fun x=>(chN p).1.getD x.toNat false).length≤((ordN p).take i).length:=List.length_filter_le _ _
 rw [List.length_take] at h1
 omega
theorem sav_all (p:ApiProgram):savTo p (ordN p).length=(chN p).2:=by
 by_cases hf:fineB p (nosL p)=true
 · have hN:chN p=chTo p (ordN p).length:=by unfold chN;rw [if_pos hf]
   have key:∀ i,i≤(ordN p).length→savTo p i=(chTo p i).2:=by
    intro i
    induction i with
    | zero=>intro _;rw [ch_zero];unfold savTo;simp
    | succ i ih=>
     intro hi
     obtain ⟨x,hx⟩:∃ x,(ordN p)[i]?=some x:=⟨_,List.getElem?_eq_getElem ZO⟩
     obtain ⟨k,rfl,hk,hc⟩:=ord_mem.1 (List.mem_of_getElem? hx)
     rw [sav_succ hx,ch_succ hx,ih ZO,hN,Int.toNat_natCast,getD_at (ch_final hx)]
     unfold chStep
     rw [Int.toNat_natCast]
     split <;> rename_i h <;> simp [h]
   rw [key _ (Nat.le_refl _),hN]
 · have hN:chN p=(nosL p,0):=by unfold chN;rw [if_neg hf]
   rw [hN]
   unfold savTo
   rw [List.length_eq_zero_iff.2 (List.filter_eq_nil_iff.2 (fun x hx=>?_))]
   · rfl
   · obtain ⟨k,rfl,hk,hc⟩:=ord_mem.1 (List.mem_of_mem_take hx)
     rw [hN,Int.toNat_natCast,getD_at (cand_nos hc hk)]
     simp
def leastF (n:Int):Int:=if n≤8 then 1 else if n≤64 then 2 else 3
def keptL (n:Nat) (kept:List Bool):List Bool:=(List.range n).map fun i=>kept.getD i false
def chkF (p:ApiProgram) (free:List Bool) (i:Nat):Int:=if free.getD i false=true then 0 else leastF (frmF p i)
def chkL (p:ApiProgram) (free:List Bool):List Int:=(List.range p.fFuns.length).map (chkF p free)
theorem chain_nowhere {B:Base}{w:World}(hS:St B [] w) (e:Int):CW 102 #[.int .i64 e] w (Ret B (fun _:Unit=>True) (fun _=>.agg (rejL (e,-1,-1)).toArray) (fun _=>[])):=by
 refine ZX Tryz.func102 hS ?_
 refine Zh (Zi (oAlloc J ZP (fun b2=>?_)))
 refine Zn (Za (Zh (Zi (Zo J (oBuild (Parts.cons J (Parts.cons J (Parts.cons J Parts.nil))) J J (Built.cons (off:=0) (s:=1) J ZP J ZP (Built.cons (off:=1) (s:=1) J ZP J ZP (Built.cons (off:=2) (s:=1) J ZP J ZP Built.nil))) ?_)))))
 refine Zsa ?_
 refine Zn (Za (Zl (Zw (ZI ?_))))
 exact ⟨(),trivial,rfl,Lh⟩
theorem chain_at {B:Base}{w:World}(hS:St B [] w) (e:Int) (f:ApiFun) (fc:List Value) (hf:kApiFun.K B.e f fc):CW 103 #[.int .i64 e,.agg fc.toArray] w (Ret B (fun _:Unit=>True) (fun _=>.agg (rejL (e,f.fFile,f.fItem)).toArray) (fun _=>[])):=by
 obtain ⟨D0,d0,D1,d1,D2,d2,D3,d3,D4,d4,rfl,m0,q0,m1,q1,m2,q2,m3,q3,m4,q4⟩:=kApiFun_open hf
 refine ZX Tryz.func103 hS ?_
 refine Zh (Zi (oBox J ZP (fun b3=>?_)))
 refine oAlloc J ZP (fun b4=>?_)
 refine Zn (Za (Zh (Zi (Zo J (Zz (n:=0) (m:=0) J J J (Zld ?_))))))
 refine Zz (n:=1) (m:=1) J J J (Zld ?_)
 refine oBuild (Parts.cons J (Parts.cons J (Parts.cons J Parts.nil))) J J (Built.cons (off:=0) (s:=1) J ZP J ZP (Built.cons (off:=1) (s:=1) J ZP J ZP (Built.cons (off:=2) (s:=1) J ZP J ZP Built.nil))) ?_
 refine Zsa ?_
 refine Zn (Za (Zl (Zw (ZI ?_))))
 exact ⟨(),trivial,rfl,Lh⟩
section
variable {c : Cx} {M : Md c} {d : Nat} {ty : TypeId} {pos : String} {af : Array Edge} {rest : List Oper} {E : Env} {D : List Deferred} {H : List Res} {x y : Operand} {t t' : TypeId}
end
theorem find_non {P:Nat→Bool}{n:Nat}(h:∀ i,i<n→P i=false):(List.range n).find? P=none:=List.find?_eq_none.2 (fun i hi=>by rw [h i (List.mem_range.1 hi)];simp)
theorem find_one {P:Nat→Bool}{i:Nat}(h:P i=true) (hs:∀ j,j<i→P j=false):∀ n,i<n→(List.range n).find? P=some i
 | 0,hi=>by omega
 | n+1,hi=>by
  rw [List.range_succ,List.find?_append]
  by_cases e:i=n
  · subst e;rw [find_non hs,Option.none_or,List.find?_cons,h]
  · rw [find_one h hs n ZO,Option.some_or]
theorem plc_at {p:ApiProgram}{e:Int}{i:Nat}{f:ApiFun}(h:p.fFuns[i]?=some f):plcF p e i=(e,f.fFile,f.fItem):=by unfold plcF;rw [List.getD_eq_getElem?_getD,h];rfl
section
variable {p : ApiProgram} {free : List Bool}
theorem chk_arg (h:p.fEntry<0∨(p.fFuns.length:Int)≤p.fEntry):checkN p free=(2,-1,-1):=by unfold checkN;rw [if_neg ZO]
theorem chk_cyc (h1:¬ p.fEntry<0) (h2:¬ (p.fFuns.length:Int)≤p.fEntry) (hok:okN p free=false) {i:Nat}{f:ApiFun}(hx:(onL (graphF p) (memF p free))[0]?=some (i:Int)) (hf:p.fFuns[i]?=some f):checkN p free=(17,f.fFile,f.fItem):=by
 unfold checkN
 rw [if_pos ⟨by omega,by omega⟩,if_neg (by rw [hok];simp),List.getD_eq_getElem?_getD,hx]
 exact plc_at hf
theorem chk_ent (h1:¬ p.fEntry<0) (h2:¬ (p.fFuns.length:Int)≤p.fEntry) (hok:okN p free=true) (hd:deepF p free p.fEntry=true):checkN p free=(18,-1,-1):=by
 unfold checkN
 rw [if_pos ⟨by omega,by omega⟩,if_pos hok,if_pos hd]
theorem chk_bad (h1:¬ p.fEntry<0) (h2:¬ (p.fFuns.length:Int)≤p.fEntry) (hok:okN p free=true) (hd:deepF p free p.fEntry=false) {i:Nat}{f:ApiFun}(hb:badF p free i=true) (hs:∀ j,j<i→badF p free j=false) (hf:p.fFuns[i]?=some f):checkN p free=(18,f.fFile,f.fItem):=by
 have hi:=(List.getElem?_eq_some_iff.1 hf).1
 unfold checkN
 rw [if_pos ⟨by omega,by omega⟩,if_pos hok,if_neg (by rw [hd];simp),find_one hb hs _ hi]
 exact plc_at hf
theorem chk_fine (h1:¬ p.fEntry<0) (h2:¬ (p.fFuns.length:Int)≤p.fEntry) (hok:okN p free=true) (hd:deepF p free p.fEntry=false) (hs:∀ j,j<p.fFuns.length→badF p free j=false):checkN p free=(0,0,0):=by
 unfold checkN
 rw [if_pos ⟨by omega,by omega⟩,if_pos hok,if_neg (by rw [hd];simp),find_non hs]
theorem on_head (hok:okN p free=false):∃ c:Nat,(onL (graphF p) (memF p free))[0]?=some (c:Int)∧c<p.fFuns.length:=by
 cases he:onL (graphF p) (memF p free) with
 | nil=>have:=on_nil.1 he;unfold okN at hok;rw [this] at hok;cases hok
 | cons x l=>
  obtain ⟨c,rfl,hp⟩:=on_mem.1 (show x ∈ onL (graphF p) (memF p free) by rw [he];exact List.mem_cons_self)
  refine ⟨c,rfl,?_⟩
  rw [← Go.Proofs.YtogaiijhicfoaaaGreatU.graphF_len]
  cases hp with
  | one h=>exact (edE_iff.1 h).1
  | snoc _ h=>exact (edE_iff.1 h).2.1
theorem deepF_at {x:Nat}{d:Int}(h:(dN p free)[x]?=some d):deepF p free (x:Int)=decide (56<1+d):=by unfold deepF;rw [Int.toNat_natCast,getD_at h]
theorem bad_1 {i:Nat}{l:List Int}(h:(calledL p)[i]?=some false):badF p free i=false:=by unfold badF;rw [getD_at h];simp
theorem bad_2 {i:Nat}(h:(memF p free)[i]?=some true):badF p free i=false:=by unfold badF;rw [getD_at h];simp
theorem bad_3 {i:Nat}{l:List Int}(hl:(graphF p)[i]?=some l) (h:∀ y ∈ l,deepF p free y=false):badF p free i=false:=by
 unfold badF
 rw [getD_at hl,List.any_eq_false.2 (fun y hy=>by rw [h y hy];simp)];simp
theorem bad_4 {i:Nat}{l:List Int}{y:Int}(hl:(graphF p)[i]?=some l) (h1:(calledL p)[i]?=some true) (h2:(memF p free)[i]?=some false) (hy:y ∈ l) (h:deepF p free y=true):badF p free i=true:=by
 unfold badF
 rw [getD_at hl,getD_at h1,getD_at h2,List.any_eq_true.2 ⟨y,hy,h⟩];rfl
noncomputable def bdY (p:ApiProgram) (free:List Bool) (i:Nat) (y:Int):Bool:=(calledL p).getD i false && !(memF p free).getD i false && deepF p free y
theorem bad_5 {i:Nat}{l:List Int}(hl:(graphF p)[i]?=some l) (h:∀ y ∈ l,bdY p free i y=false):badF p free i=false:=by
 cases hb:badF p free i with
 | false=>rfl
 | true=>
  unfold badF at hb
  rw [getD_at hl,Bool.and_eq_true,List.any_eq_true] at hb
  obtain ⟨h1,y,hy,h2⟩:=hb
  have:=h y hy
  unfold bdY at this
  rw [h1,h2] at this;cases this
end
theorem onPP {B:Base}{w:World}(hS:St B [] w) {p:ApiProgram}(hsm:SmallP p) (free:List Bool) (A:Option Addr) (cp:Nat) (hC:(Kd.slice (Kd.int .i64)).C B.e A (graphF p)) (A1:Option Addr) (cp1:Nat) (hC1:Kd.bool.C B.e A1 (memF p free)) (W0:World) :
 CW 104 #[.slice A p.fFuns.length cp,.slice A1 p.fFuns.length cp1] w (Ret B (fun _:Option Addr×Nat=>True) (fun z=>.slice z.1 (onL (graphF p) (memF p free)).length z.2) (fun z=>[row (Kd.int .i64) W0 3 (.slice z.1 (onL (graphF p) (memF p free)).length z.2) (onL (graphF p) (memF p free))])):=by
 have hn:=hsm.funs
 have h:=on_any hS (graphF p) A cp hC (grG_small hsm) (memF p free) A1 cp1 hC1 (by rw [memF_len];omega) W0
 rw [Go.Proofs.YtogaiijhicfoaaaGreatU.graphF_len,memF_len] at h
 exact h
theorem onRR {B:Base}{w:World}(hS:St B [] w) {p:ApiProgram}(hsm:SmallP p) (free:List Bool) (A:Option Addr) (cp:Nat) (hC:(Kd.slice (Kd.int .i64)).C B.e A (graphF p)) (A1:Option Addr) (cp1:Nat) (hC1:Kd.bool.C B.e A1 (memF p free)) (W0:World) :
 CW 106 #[.slice A p.fFuns.length cp,.slice A1 p.fFuns.length cp1] w (Ret B (fun _:Option Addr×Nat=>True) (fun z=>.slice z.1 (onL (graphF p) (memF p free)).length z.2) (fun z=>[row (Kd.int .i64) W0 3 (.slice z.1 (onL (graphF p) (memF p free)).length z.2) (onL (graphF p) (memF p free))])):=by
 have h:=refOn hS (graphF p) A cp hC (grG_small hsm) (memF p free) A1 cp1 hC1 W0
 rw [Go.Proofs.YtogaiijhicfoaaaGreatU.graphF_len,memF_len] at h
 exact h
theorem onRRh {B:Base}{w:World}(hS:St B [] w) {p:ApiProgram}(hsm:SmallP p) (free:List Bool) (A:Option Addr) (cp:Nat) (hC:(Kd.slice (Kd.int .i64)).C B.e A (graphF p)) (A1:Option Addr) (cp1:Nat) (hC1:Kd.bool.C B.e A1 (memF p free)) (hne:onL (graphF p) (memF p free)≠[]) (W0:World) :
 CW 106 #[.slice A p.fFuns.length cp,.slice A1 p.fFuns.length cp1] w (Ret B (fun _:Nat×Nat=>True) (fun z=>.slice (some ⟨z.1,0,none⟩) (onL (graphF p) (memF p free)).length z.2) (fun z=>[row (Kd.int .i64) W0 3 (.slice (some ⟨z.1,0,none⟩) (onL (graphF p) (memF p free)).length z.2) (onL (graphF p) (memF p free))])):=
 (onRR hS hsm free A cp hC A1 cp1 hC1 W0).mono (fun e w' ⟨⟨A3,c3⟩,h1,h2,h3⟩=>by
  have hq:=h3.get .here
  have hA:∃ g,A3=some ⟨g,0,none⟩:=by
   obtain ⟨cs,ho,hr⟩:=hq
   exact (row_C (kd:=Kd.int .i64) (W:=w') (e:=3) (A:=A3) (n:=(onL (graphF p) (memF p free)).length) (cp:=c3) (xs:=onL (graphF p) (memF p free)) (w:=w') ⟨cs,ho,cat_scalar.2 (cat_scalar.1 hr)⟩ (Grow.refl _)).2.2.2 (List.length_pos_iff.2 hne)
  obtain ⟨g,rfl⟩:=hA
  exact ⟨(g,c3),trivial,h2,h3⟩)
theorem check1 {B:Base}{w:World}{p:ApiProgram}{free:List Bool}(b6:Nat) (A9:Option Addr) (c9:Nat) (hS:St B [blk b6 42 [.slice A9 (dN p free).length c9]] w) (hC:(Kd.int .i64).C B.e A9 (dN p free)) (hl:(dN p free).length≤24) (x:Nat) (hx:x<(dN p free).length) :
 CW 105 #[.int .i64 (x:Int),.pointer (some ⟨b6,0,none⟩)] w (Ret B (fun _:Unit=>True) (fun _=>.bool (deepF p free (x:Int))) (fun _=>[blk b6 42 [.slice A9 (dN p free).length c9]])):=by
 obtain ⟨d,hd⟩:∃ d,(dN p free)[x]?=some d:=⟨_,List.getElem?_eq_getElem hx⟩
 have hin:=dN_in p free x
 rw [getD_at hd] at hin
 obtain ⟨e1,cs1,hE⟩:=hC.elm hd
 obtain rfl:=(show cs1=[Value.int .i64 d] from hE.K)
 rw [deepF_at hd]
 refine ZX Tryz.func105 hS ?_
 refine Zh (Zi (Zp J (Zn (Za (Zh (Zi (Zld ?_)))))))
 refine Zo J (oIdxE J J (hE) ZO J J ?_)
 have hc6:=(hE).cell
 refine Zlx hc6 ?_
 first | refine oAdd rfl rfl ZO ?_ | refine oAddW rfl rfl ?_
 refine Z1 J J (Zza ?_)
 exact ⟨(),trivial,rfl,Lh⟩
theorem chain_Check {B:Base}{w:World}(hS:St B [] w) (p:ApiProgram) (pc:List Value) (hp:kApiProgram.K B.e p pc) (hsm:SmallP p) (free:List Bool) (A':Option Addr) (c':Nat) (hF:Kd.bool.C B.e A' free) :
 CW 44 #[.agg pc.toArray,.slice A' free.length c'] w (Ret B (fun _:Unit=>True) (fun _=>.agg (rejL (checkN p free)).toArray) (fun _=>[])):=by
 obtain ⟨A0,c0,A1,c1,rfl,l0,g0,l1,g1⟩:=kApiProgram_open hp
 have hn:=hsm.funs
 have hcl:=calledL_len p
 have hml:=memF_len p free
 have hgl:=Go.Proofs.YtogaiijhicfoaaaGreatU.graphF_len p
 refine ZX Tryz.func44 hS ?_
 refine Zh (Zi (oBox J ZP (fun b2=>?_)))
 refine oAlloc J ZP (fun b4=>?_)
 refine Zn (Za (Zh (Zh (Zi (Zz (n:=2) (m:=2) J J J (Zld ?_))))))
 refine Zx J J (Zo J (ZS (ZT 16) (fun h16=>?_) (fun h16=>?_)))
 refine Zr J J J J (Zr J J J J (Zr J J J J (Zr J J J J (Zr J J J J (Zr J J J J (Zt J J (Zn (Za (wCondT J (Zh (Zi ?_)))))))))))
 (refine ZC0 rfl ZK (fun w hS=>frame hS ZQ (fun B' hB hS'=>chain_nowhere hS' 2)) ?_;rintro ⟨⟩ -)
 refine Zsa ?_
 refine Zn (Za (Zl (Zc (Zw (ZI ?_)))))
 exact ⟨(),trivial,by rw [chk_arg (.inl (by first | exact h16 | simpa using h16))];rfl,Lh⟩
 refine Zq J J (Zz (n:=2) (m:=2) J J J (Zzg ?_))
 refine Zq J J (Zz (n:=0) (m:=0) J J J (Zzg ?_))
 refine Zq J J (Zv J J (Zq J J (Z2 J J (Zu J J (Zn (Za (wC (fun h23=>?_) (fun h23=>?_))))))))
 refine Zh (Zi ?_)
 (refine ZC0 rfl ZK (fun w hS=>frame hS ZQ (fun B' hB hS'=>chain_nowhere hS' 2)) ?_;rintro ⟨⟩ -)
 refine Zsa ?_
 refine Zn (Za (Zl (Zc (Zw (ZI ?_)))))
 exact ⟨(),trivial,by rw [chk_arg (.inr (by first | exact h23 | simpa using h23))];rfl,Lh⟩
 have he1:¬ p.fEntry<0:=by first | exact h16 | simpa using h16
 have he2:¬ (p.fFuns.length:Int)≤p.fEntry:=by first | exact h23 | simpa using h23
 obtain ⟨e0,he0⟩:=Int.eq_ofNat_of_zero_le (show 0≤p.fEntry by omega)
 refine Zj (Zzk ?_)
 refine Zo J ?_
 (refine ZC0 rfl ZK (fun w hS=>frame hS ZQ (fun B' hB hS'=>chain_look hS' p _ (gPg hB hp) hsm free A' c' (Kd.C_grow hB hF) B.e)) ?_;rintro ⟨b8,⟨A8,c8,hs8⟩,⟨C8,d8⟩,⟨F8,e8⟩,⟨R8,k8⟩⟩ hl8)
 dsimp only at hl8 ⊢
 refine Zp J (Zn (Za (wFreeze [row kHdr B.e 42 (.slice A8 p.fFuns.length c8) hs8,bun (rws (Kd.int .i64) B.e 3 hs8 (graphF p)),row Kd.bool B.e 4 (.slice C8 p.fFuns.length d8) (calledL p),row Kd.bool B.e 4 (.slice F8 p.fFuns.length e8) (memF p free),row (Kd.int .i64) B.e 3 (.slice R8 p.fFuns.length k8) (frmL p)] ZQ (fun B1 hB1 hq1=>?_))))
 have hG:=grid_C (hq1 _ _ ZP) (hq1 _ _ ZP) (by rw [hl8,hgl]) hB1
 have hCl:=row_Cs (W:=B.e) (e:=4) (n:=p.fFuns.length) (cp:=d8) (xs:=calledL p) (hq1 _ _ ZP)
 have hM:=row_Cs (W:=B.e) (e:=4) (n:=p.fFuns.length) (cp:=e8) (xs:=memF p free) (hq1 _ _ ZP)
 have hO:=row_Cs (W:=B.e) (e:=3) (n:=p.fFuns.length) (cp:=k8) (xs:=frmL p) (hq1 _ _ ZP)
 have hp:=kApiProgram.K_grow hB1 hp
 have g0:=Kd.C_grow hB1 g0
 refine Zh (Zi (Zo J ?_))
 (refine ZC0 rfl ZK (fun w hS=>frame hS ZQ (fun B' hB hS'=>view_needs hS' hsm free (Kd.C_grow hB hG) (Kd.C_grow hB hM) (Kd.C_grow hB hO) B.e)) ?_;rintro ⟨A9,c9⟩ -)
 refine Zo J (oExt J ZP ?_)
 refine oExt J ZP ?_
 refine oAlloc J ZP (fun b6=>?_)
 refine Zst ?_
 refine Zp J (Zn (Za (Zh (Zh (Zi (Zo J (Zno ?_)))))))
 refine Zn (Za (wC (fun h34=>?_) (fun h34=>?_)))
 have hok:okN p free=false:=by first | exact decide_eq_false h34 | simpa using h34
 obtain ⟨c47,hc47,hl47⟩:=on_head hok
 obtain ⟨f,hf⟩:∃ f,p.fFuns[c47]?=some f:=⟨_,List.getElem?_eq_getElem ZO⟩
 obtain ⟨e1,cs1,hE⟩:=g0.elm hf
 have hEK:=hE.K
 obtain ⟨D0,d0,D1,d1,D2,d2,D3,d3,D4,d4,rfl,m0,q0,m1,q1,m2,q2,m3,q3,m4,q4⟩:=kApiFun_open hE.K
 refine Zh (wDrawG J [0,1,2,3,4,5,6,7,8,9] [(10,[0,1],[11,12,13,14]),(15,[],[])] [16] 24 ZK J J (fun w0=>?_))
 refine Zz (n:=0) (m:=0) J J J (Zld ?_)
 refine Zo J (Z3 J (Zz (n:=0) (m:=0) J J J (Zld ?_)))
 refine Zo J (Z3 J (Zz (n:=2) (m:=2) J J J (Zld ?_)))
 refine Z4 (Z5 J ?_)
 (refine ZC0 rfl ZK (fun w hS=>frame hS ZQ (fun B' hB hS'=>onPP hS' hsm free A8 c8 (Kd.C_grow hB hG) F8 e8 (Kd.C_grow hB hM) B.e)) ?_;rintro ⟨A45,c45⟩ -)
 refine ZG ?_ J (fun w0=>?_)
 refine Z8 J J J J (fun w0=>?_) ?_
 refine Zz (n:=0) (m:=0) J J J ?_
 exact Z9 rfl
 refine Z8 J J J J (fun w0=>?_) ?_
 refine Zld ?_
 exact Z9 rfl
 exact AgainG.nil
 refine ZR (i:=0) J J ZP (by have:=(List.getElem?_eq_some_iff.1 hc47).1;exact this) J J (fun g46 hg46=>?_)
 subst hg46
 refine ZR1 (i:=0) J ZP (by have:=(List.getElem?_eq_some_iff.1 hc47).1;exact this) J (fun u47 hu47=>?_)
 obtain rfl:u47=(c47:Int):=Option.some.inj (hu47.symm.trans hc47)
 refine oIdxE J J (hE) ZO J J ?_
 have hc48:=(hE).cell
 refine Zlx hc48 ?_
 refine Z4 (Z5 J ?_)
 (refine ZC0 rfl ZK (fun w hS=>frame hS ZQ (fun B' hB hS'=>chain_at hS' 17 f _ (kApiFun.K_grow hB hEK))) ?_;rintro ⟨⟩ -)
 refine ZG ?_ J (fun w0=>?_)
 exact AgainG.nil
 refine Z6 (Zsa ?_)
 refine Zn (Za (Zl (Zc (Zw (ZI ?_)))))
 exact ⟨(),trivial,by rw [chk_cyc he1 he2 hok hc47 hf];rfl,Lh⟩
 have hok:okN p free=true:=by first | exact decide_eq_true (Classical.not_not.1 h34) | simpa using h34
 have hdl:(dN p free).length=p.fFuns.length:=dN_len hok
 refine Zj (Za (Zh (Zi (oMakeFunc J (Zp J (Zn (Za (Zh (Zh (Zi (Zo J (Zz (n:=2) (m:=2) J J J (Zld ?_)))))))))))))
 refine ZS0 (t:=54) (v':=.int .i64 (e0:Int)) rfl (by rw [he0]) ?_
 (refine oCallV rfl rfl rfl ZK (fun w hS=>frame' hS (Ψ:=[blk b6 42 [.slice A9 (dN p free).length c9]]) ZQ (fun B' hB hR hS'=>check1 b6 A9 c9 hS' (row_Cs (W:=B.e) (e:=3) (n:=(dN p free).length) (cp:=c9) (hR _ _ ZP)) ZO e0 ZO)) ?_;rintro ⟨⟩ -)
 rw [← he0]
 refine Zn (Za (wC (fun h55=>?_) (fun h55=>?_)))
 refine Zh (Zi ?_)
 (refine ZC0 rfl ZK (fun w hS=>frame hS ZQ (fun B' hB hS'=>chain_nowhere hS' 18)) ?_;rintro ⟨⟩ -)
 refine Zsa ?_
 refine Zn (Za (Zl (Zc (Zw (ZI ?_)))))
 exact ⟨(),trivial,by rw [chk_ent he1 he2 hok (by first | exact h55 | exact decide_eq_true h55)];rfl,Lh⟩
 have hd55:deepF p free p.fEntry=false:=by first | exact h55 | exact decide_eq_false h55
 refine Zj (Za (Zh (Zh (Zi (Zo J (Z3 J (Zz (n:=0) (m:=0) J J J (Zld ?_))))))))
 refine Zv J J (Zo J (Zn (Za (Zk (wLoop (ι:=Nat) (fun i=>[(2,.pointer (some ⟨b2,0,none⟩)),(4,.pointer (some ⟨b4,0,none⟩)),(5,.pointer (some ⟨b8,0,none⟩)),(8,.func (.func 105) #[] #[.pointer (some ⟨b6,0,none⟩)]),(60,.slice A8 p.fFuns.length c8),(61,.int .i64 (p.fFuns.length:Int)),(62,.int .i64 (i:Int))]) (fun i=>[blk b2 29 (pcL p A0 c0 A1 c1),blk b4 32 [.int .i64 0,.int .i64 0,.int .i64 0],blk b8 123 [.slice A8 p.fFuns.length c8,.slice C8 p.fFuns.length d8,.slice F8 p.fFuns.length e8,.slice R8 p.fFuns.length k8],blk b6 42 [.slice A9 (dN p free).length c9],row (Kd.int .i64) B.e 3 (.slice A9 (dN p free).length c9) (dN p free)]) (fun i=>i≤p.fFuns.length∧∀ j,j<i→badF p free j=false) (fun i=>p.fFuns.length-i) 0 ?_ cv Lh ?_)))))
 exact ⟨Nat.zero_le _,fun j hj=>by omega⟩
 rintro i ⟨hi,hs⟩
 try dsimp only
 refine Zh (Zi (Zx J J (Zn (Za (Zh (wC (fun h63=>?_) (fun h63=>?_)))))))
 obtain ⟨l,hl⟩:∃ l,(graphF p)[i]?=some l:=⟨_,List.getElem?_eq_getElem ZO⟩
 obtain ⟨e2,cs2,hEg⟩:=hG.elm hl
 obtain ⟨Al,cl,rfl,hll,hCr⟩:=hEg.K
 have hlb:=hCr.1
 obtain ⟨uc,huc⟩:∃ u,(calledL p)[i]?=some u:=⟨_,List.getElem?_eq_getElem ZO⟩
 obtain ⟨e3,cs3,hEc⟩:=hCl.elm huc
 obtain rfl:=(show cs3=[Value.bool uc] from hEc.K)
 obtain ⟨um,hum⟩:∃ u,(memF p free)[i]?=some u:=⟨_,List.getElem?_eq_getElem ZO⟩
 obtain ⟨e4,cs4,hEm⟩:=hM.elm hum
 obtain rfl:=(show cs4=[Value.bool um] from hEm.K)
 obtain ⟨f,hf⟩:∃ f,p.fFuns[i]?=some f:=⟨_,List.getElem?_eq_getElem ZO⟩
 obtain ⟨e1,cs1,hE⟩:=g0.elm hf
 have hEK:=hE.K
 obtain ⟨D0,d0,D1,d1,D2,d2,D3,d3,D4,d4,rfl,m0,q0,m1,q1,m2,q2,m3,q3,m4,q4⟩:=kApiFun_open hE.K
 refine Zj (Za (Zh (Zk (Zh (Zi (Zo J (oIdxE J J (hEg) ZO J J ?_)))))))
 have hc65:=(hEg).cell
 refine Zlx hc65 ?_
 refine Zp J (Zp J (Zn (Za (Zh (Zh (Zi (Zo J (Z3 J (Zz (n:=1) (m:=1) J J J (Zld ?_))))))))))
 refine Zo J (oIdxE J J (hEc) ZO J J ?_)
 have hc72:=(hEc).cell
 refine Zlx hc72 ?_
 refine Zno ?_
 refine Zo J (ZS (ZT 75) (fun h75=>?_) (fun h75=>?_))
 have hbf:badF p free i=false:=bad_1 (l:=l) (by rw [huc];congr 1;simpa using h75)
 refine Zr J J J J (Zr J J J J (Zr J J J J (Zr J J J J (Zr J J J J (Zr J J J J (Zr J J J J (Zt J J (Zn (Za (wCondT J (Zm (Zb (Ze (Za (Zi (Zsu ?_))))))))))))))))
 refine Zo J (Zn (Za ?_))
 exact ⟨rfl,i+1,⟨by omega,fun j hj=>by rcases Nat.lt_succ_iff_lt_or_eq.1 hj with h | rfl;exact hs j h;exact hbf⟩,by omega,cv,Lh⟩
 refine Zq J J (Zo J (Zq J J (Z3 J (Zq J J (Zz (n:=2) (m:=2) J J J (Zzg ?_))))))
 refine Zq J J (Zo J (Zq J J (oIdxE J J (hEm) ZO J J ?_)))
 have hc81:=(hEm).cell
 refine Zq J J (Zlx hc81 ?_)
 refine Zu J J (Zn (Za (wC (fun h83=>?_) (fun h83=>?_))))
 have hbf:badF p free i=false:=bad_2 (by rw [hum];congr 1)
 refine Zm (Zb (Ze (Za (Zi (Zsu ?_)))))
 refine Zo J (Zn (Za ?_))
 exact ⟨rfl,i+1,⟨by omega,fun j hj=>by rcases Nat.lt_succ_iff_lt_or_eq.1 hj with h | rfl;exact hs j h;exact hbf⟩,by omega,cv,Lh⟩
 refine Zj (Za (Zh (Zi (Zo J (Zv J J (Zo J (Zn (Za (Zk (wLoop (ι:=Nat) (fun j=>[(2,.pointer (some ⟨b2,0,none⟩)),(4,.pointer (some ⟨b4,0,none⟩)),(5,.pointer (some ⟨b8,0,none⟩)),(8,.func (.func 105) #[] #[.pointer (some ⟨b6,0,none⟩)]),(9,.int .i64 (i:Int)),(60,.slice A8 p.fFuns.length c8),(61,.int .i64 (p.fFuns.length:Int)),(62,.int .i64 (i:Int)),(84,.slice Al l.length cl),(85,.int .i64 (l.length:Int)),(86,.int .i64 (j:Int))]) (fun j=>[blk b2 29 (pcL p A0 c0 A1 c1),blk b4 32 [.int .i64 0,.int .i64 0,.int .i64 0],blk b8 123 [.slice A8 p.fFuns.length c8,.slice C8 p.fFuns.length d8,.slice F8 p.fFuns.length e8,.slice R8 p.fFuns.length k8],blk b6 42 [.slice A9 (dN p free).length c9],row (Kd.int .i64) B.e 3 (.slice A9 (dN p free).length c9) (dN p free)]) (fun j=>j≤l.length∧∀ y ∈ l.take j,deepF p free y=false) (fun j=>l.length-j) 0 ?_ cv Lh ?_))))))))))
 exact ⟨Nat.zero_le _,by simp⟩
 rintro j ⟨hj,hsj⟩
 try dsimp only
 refine Zh (Zi (Zx J J (Zn (Za (Zh (wC (fun h87=>?_) (fun h87=>?_)))))))
 obtain ⟨y,hy⟩:∃ y,l[j]?=some y:=⟨_,List.getElem?_eq_getElem ZO⟩
 obtain ⟨e5,cs5,hEy⟩:=hCr.elm hy
 obtain rfl:=(show cs5=[Value.int .i64 y] from hEy.K)
 obtain ⟨yc,rfl,hyl⟩:=eg_in (p:=p) (i:=i) ZO (x:=y) (by rw [getD_at hl];exact List.mem_of_getElem? hy)
 refine Zj (Za (Zh (Zk (Zh (Zi (oIdxE J J (hEy) ZO J J ?_))))))
 have hc88:=(hEy).cell
 refine Zlx hc88 ?_
 refine Zp J (Zn (Za (Zzu ?_)))
 (refine oCallV rfl rfl rfl ZK (fun w hS=>frame' hS (Ψ:=[blk b6 42 [.slice A9 (dN p free).length c9]]) ZQ (fun B' hB hR hS'=>check1 b6 A9 c9 hS' (row_Cs (W:=B.e) (e:=3) (n:=(dN p free).length) (cp:=c9) (hR _ _ ZP)) ZO yc ZO)) ?_;rintro ⟨⟩ -)
 refine Zn (Za (wC (fun h92=>?_) (fun h92=>?_)))
 refine Zh (Zi (Zz (n:=0) (m:=0) J J J (Zld ?_)))
 refine Zo J (oIdxE J J (hE) ZO J J ?_)
 have hc96:=(hE).cell
 refine Zlx hc96 ?_
 (refine ZC0 rfl ZK (fun w hS=>frame hS ZQ (fun B' hB hS'=>chain_at hS' 18 f _ (kApiFun.K_grow hB hEK))) ?_;rintro ⟨⟩ -)
 refine Zsa ?_
 refine Zn (Za (Zl (Zf (Zc (Zc (Zf (Zf (Zc (Zc (Zf (Zc (Zw (ZI ?_)))))))))))))
 exact ⟨(),trivial,by rw [chk_bad he1 he2 hok hd55 (bad_4 hl (by rw [huc];congr 1;simpa using h75) (by rw [hum];congr 1) (List.mem_of_getElem? hy) (by first | exact h92 | exact decide_eq_true h92)) hs hf];rfl,Lh⟩
 refine Zj (Zzi ?_)
 refine Zo J (Zn (Za ?_))
 exact ⟨rfl,j+1,⟨by omega,take_not hsj hy (by first | exact h92 | exact decide_eq_false h92)⟩,by omega,cv,Lh⟩
 obtain rfl:j=l.length:=by omega
 rw [List.take_length] at hsj
 have hbf:badF p free i=false:=bad_3 hl hsj
 refine Zm (Zb (Zb (Ze (Zzi ?_))))
 refine Zo J (Zn (Za ?_))
 exact ⟨rfl,i+1,⟨by omega,fun j hj=>by rcases Nat.lt_succ_iff_lt_or_eq.1 hj with h | rfl;exact hs j h;exact hbf⟩,by omega,cv,Lh⟩
 obtain rfl:i=p.fFuns.length:=by omega
 refine Zm (Zb (Zb (Ze (Za (Zh (Zi (oBuild Parts.nil J J Built.nil (Zsa ?_))))))))
 refine Zn (Za (Zl (Zw (ZI ?_))))
 exact ⟨(),trivial,by rw [chk_fine he1 he2 hok hd55 hs];rfl,Lh⟩
theorem ref27_Check {B:Base}{w:World}(hS:St B [] w) (p:ApiProgram) (pc:List Value) (hp:kApiProgram.K B.e p pc) (hsm:SmallP p) (free:List Bool) (A':Option Addr) (c':Nat) (hF:Kd.bool.C B.e A' free) :
 CW 45 #[.agg pc.toArray,.slice A' free.length c'] w (Ret B (fun _:Unit=>True) (fun _=>.agg (rejL (checkN p free)).toArray) (fun _=>[])):=by
 obtain ⟨A0,c0,A1,c1,rfl,l0,g0,l1,g1⟩:=kApiProgram_open hp
 have hn:=hsm.funs
 have hcl:=calledL_len p
 have hml:=memF_len p free
 have hgl:=Go.Proofs.YtogaiijhicfoaaaGreatU.graphF_len p
 refine ZX Tryz.func45 hS ?_
 refine Zh (Zi (oBox J ZP (fun b2=>?_)))
 refine oAlloc J ZP (fun b4=>?_)
 refine Zn (Za (Zh (Zh (Zi (Zz (n:=2) (m:=2) J J J (Zld ?_))))))
 refine Zx J J (Zo J (ZS (ZT 16) (fun h16=>?_) (fun h16=>?_)))
 refine Zr J J J J (Zr J J J J (Zr J J J J (Zr J J J J (Zr J J J J (Zr J J J J (Zt J J (Zn (Za (wCondT J (Zh (Zi (oBuild (Parts.cons J (Parts.cons J (Parts.cons J Parts.nil))) J J (Built.cons (off:=0) (s:=1) J ZP J ZP (Built.cons (off:=1) (s:=1) J ZP J ZP (Built.cons (off:=2) (s:=1) J ZP J ZP Built.nil))) ?_))))))))))))
 refine Zsa ?_
 refine Zn (Za (Zl (Zc (Zw (ZI ?_)))))
 exact ⟨(),trivial,by rw [chk_arg (.inl (by first | exact h16 | simpa using h16))];rfl,Lh⟩
 refine Zq J J (Zz (n:=2) (m:=2) J J J (Zzg ?_))
 refine Zq J J (Zz (n:=0) (m:=0) J J J (Zzg ?_))
 refine Zq J J (Zv J J (Zq J J (Z2 J J (Zu J J (Zn (Za (wC (fun h23=>?_) (fun h23=>?_))))))))
 refine Zh (Zi (oBuild (Parts.cons J (Parts.cons J (Parts.cons J Parts.nil))) J J (Built.cons (off:=0) (s:=1) J ZP J ZP (Built.cons (off:=1) (s:=1) J ZP J ZP (Built.cons (off:=2) (s:=1) J ZP J ZP Built.nil))) ?_))
 refine Zsa ?_
 refine Zn (Za (Zl (Zc (Zw (ZI ?_)))))
 exact ⟨(),trivial,by rw [chk_arg (.inr (by first | exact h23 | simpa using h23))];rfl,Lh⟩
 have he1:¬ p.fEntry<0:=by first | exact h16 | simpa using h16
 have he2:¬ (p.fFuns.length:Int)≤p.fEntry:=by first | exact h23 | simpa using h23
 obtain ⟨e0,he0⟩:=Int.eq_ofNat_of_zero_le (show 0≤p.fEntry by omega)
 refine Zj (Zzk ?_)
 (refine ZC0 rfl ZK (fun w hS=>frame hS ZQ (fun B' hB hS'=>ref26_Graph hS' p _ (gPg hB hp) hsm B.e)) ?_;rintro ⟨A8,c8,hs8⟩ hl8)
 dsimp only at hl8 ⊢
 refine Zp J (Zn (Zzk ?_))
 refine Zo J ?_
 (refine ZC0 rfl ZK (fun w hS=>frame hS ZQ (fun B' hB hS'=>ref27_members hS' p _ (gPg hB hp) hsm free A' c' (Kd.C_grow hB hF) B.e)) ?_;rintro ⟨F8,e8⟩ -)
 refine Zp J (Zn (Zzk ?_))
 refine Zo J ?_
 (refine ZC0 rfl ZK (fun w hS=>frame hS ZQ (fun B' hB hS'=>ref27_Needs hS' p _ (gPg hB hp) hsm free A' c' (Kd.C_grow hB hF) B.e)) ?_;rintro ⟨A9,c9⟩ -)
 refine Zo J (oExt J ZP ?_)
 refine oExt J ZP ?_
 refine Zp J (Zp J (Zn (Za (wFreeze [row kHdr B.e 42 (.slice A8 p.fFuns.length c8) hs8,bun (rws (Kd.int .i64) B.e 3 hs8 (graphF p)),row Kd.bool B.e 4 (.slice F8 p.fFuns.length e8) (memF p free),row (Kd.int .i64) B.e 3 (.slice A9 (dN p free).length c9) (dN p free)] ZQ (fun B1 hB1 hq1=>?_)))))
 have hG:=grid_C (hq1 _ _ ZP) (hq1 _ _ ZP) (by rw [hl8,hgl]) hB1
 have hM:=row_Cs (W:=B.e) (e:=4) (n:=p.fFuns.length) (cp:=e8) (xs:=memF p free) (hq1 _ _ ZP)
 have hD:=row_Cs (W:=B.e) (e:=3) (n:=(dN p free).length) (cp:=c9) (xs:=dN p free) (hq1 _ _ ZP)
 have hp:=kApiProgram.K_grow hB1 hp
 have g0:=Kd.C_grow hB1 g0
 refine Zh (Zh (Zi (Zo J (Zno ?_))))
 refine Zn (Za (wC (fun h37=>?_) (fun h37=>?_)))
 have hok:okN p free=false:=by first | exact decide_eq_false h37 | simpa using h37
 obtain ⟨c44,hc44,hl44⟩:=on_head hok
 have hne44:onL (graphF p) (memF p free)≠[]:=by intro h;rw [h] at hc44;cases hc44
 obtain ⟨f,hf⟩:∃ f,p.fFuns[c44]?=some f:=⟨_,List.getElem?_eq_getElem ZO⟩
 obtain ⟨e1,cs1,hE⟩:=g0.elm hf
 have hEK:=hE.K
 obtain ⟨D0,d0,D1,d1,D2,d2,D3,d3,D4,d4,rfl,m0,q0,m1,q1,m2,q2,m3,q3,m4,q4⟩:=kApiFun_open hE.K
 have hc45:=hE.cell
 refine Zh (wDrawN J J (anWith (fun R7 hR7=>?_)))
 have an7_43:∀ (g42 c42:Nat),R7 2 #[tT,tT,tT,tT,tT,tT,tT,tT,tT,fF,fF] [(38,.pointer (some ⟨b2,0,none⟩)),(39,.slice A0 p.fFuns.length c0),(40,.slice A8 p.fFuns.length c8),(41,.slice F8 p.fFuns.length e8),(42,.slice (some ⟨g42,0,none⟩) (onL (graphF p) (memF p free)).length c42),(43,.pointer (some (elt g42 0 1 0))),(44,.int .i64 (c44:Int)),(45,.pointer (some (adr e1 0))),(46,.agg #[.int .i64 f.fFile,.int .i64 f.fItem,.string f.fName,.int .i64 f.fF.fClass,.slice D0 f.fF.fKinds.length d0,.int .i64 f.fF.fPad,.bool f.fF.fNosplit,.int .i64 f.fF.fFrom,.int .i64 f.fF.fTo,.slice D1 f.fF.fLines.length d1,.slice D2 f.fF.fCode.length d2,.slice D3 f.fF.fRelocs.length d3,.slice D4 f.fRefs.length d4]),(2,.pointer (some ⟨b2,0,none⟩)),(4,.pointer (some ⟨b4,0,none⟩)),(5,.slice A8 p.fFuns.length c8),(6,.slice F8 p.fFuns.length e8)] [row (Kd.int .i64) B.e 3 (.slice (some ⟨g42,0,none⟩) (onL (graphF p) (memF p free)).length c42) (onL (graphF p) (memF p free)),blk b2 29 (pcL p A0 c0 A1 c1),blk b4 32 [.int .i64 0,.int .i64 0,.int .i64 0]]:=by
  intro g42 c42
  refine anPut hR7 (ZM (i:=9) (rs:=[]) ZK ?_)
  refine ZA J ?_ ?_
  refine oAlloc J ZP (fun b9=>?_)
  refine Z7 (ZM (i:=10) (rs:=[]) ZK ?_)
  refine ZA J ?_ ?_
  refine Zsa ?_
  refine Z7 (anNil ZK ?_)
  refine Za (Zh (Zi (Zz (n:=0) (m:=0) J J J (Zld ?_))))
  refine Zz (n:=1) (m:=1) J J J (Zld ?_)
  refine oBuild (Parts.cons J (Parts.cons J (Parts.cons J Parts.nil))) J J (Built.cons (off:=0) (s:=1) J ZP J ZP (Built.cons (off:=1) (s:=1) J ZP J ZP (Built.cons (off:=2) (s:=1) J ZP J ZP Built.nil))) ?_
  refine Zsa ?_
  refine Zn (Za (Zl (Zc (Zw (ZI ?_)))))
  exact ⟨(),trivial,by rw [chk_cyc he1 he2 hok hc44 hf];rfl,Lh⟩
  exact ZB
  exact ZB
 have an7_44:∀ (g42 c42:Nat) (b9:Nat),R7 2 #[tT,tT,tT,tT,tT,tT,tT,tT,fF,tT,fF] [(38,.pointer (some ⟨b2,0,none⟩)),(39,.slice A0 p.fFuns.length c0),(40,.slice A8 p.fFuns.length c8),(41,.slice F8 p.fFuns.length e8),(42,.slice (some ⟨g42,0,none⟩) (onL (graphF p) (memF p free)).length c42),(43,.pointer (some (elt g42 0 1 0))),(44,.int .i64 (c44:Int)),(45,.pointer (some (adr e1 0))),(9,.pointer (some ⟨b9,0,none⟩)),(2,.pointer (some ⟨b2,0,none⟩)),(4,.pointer (some ⟨b4,0,none⟩)),(5,.slice A8 p.fFuns.length c8),(6,.slice F8 p.fFuns.length e8)] [row (Kd.int .i64) B.e 3 (.slice (some ⟨g42,0,none⟩) (onL (graphF p) (memF p free)).length c42) (onL (graphF p) (memF p free)),blk b9 49 [.int .i64 0,.int .i64 0,.string ByteArray.empty,.int .i64 0,.slice none 0 0,.int .i64 0,.bool false,.int .i64 0,.int .i64 0,.slice none 0 0,.slice none 0 0,.slice none 0 0,.slice none 0 0],blk b2 29 (pcL p A0 c0 A1 c1),blk b4 32 [.int .i64 0,.int .i64 0,.int .i64 0]]:=by
  intro g42 c42 b9
  refine anPut hR7 (ZM (i:=8) (rs:=[]) ZK ?_)
  refine ZA J ?_ ?_
  refine Zlx hc45 ?_
  refine Z7 (ZM (i:=10) (rs:=[]) ZK ?_)
  refine ZA J ?_ ?_
  refine Zsa ?_
  refine Z7 (anNil ZK ?_)
  refine Za (Zh (Zi (Zz (n:=0) (m:=0) J J J (Zld ?_))))
  refine Zz (n:=1) (m:=1) J J J (Zld ?_)
  refine oBuild (Parts.cons J (Parts.cons J (Parts.cons J Parts.nil))) J J (Built.cons (off:=0) (s:=1) J ZP J ZP (Built.cons (off:=1) (s:=1) J ZP J ZP (Built.cons (off:=2) (s:=1) J ZP J ZP Built.nil))) ?_
  refine Zsa ?_
  refine Zn (Za (Zl (Zc (Zw (ZI ?_)))))
  exact ⟨(),trivial,by rw [chk_cyc he1 he2 hok hc44 hf];rfl,Lh⟩
  exact ZB
  exact ZB
 have an7_41:∀ (g42 c42:Nat),R7 3 #[tT,tT,tT,tT,tT,tT,tT,tT,fF,fF,fF] [(38,.pointer (some ⟨b2,0,none⟩)),(39,.slice A0 p.fFuns.length c0),(40,.slice A8 p.fFuns.length c8),(41,.slice F8 p.fFuns.length e8),(42,.slice (some ⟨g42,0,none⟩) (onL (graphF p) (memF p free)).length c42),(43,.pointer (some (elt g42 0 1 0))),(44,.int .i64 (c44:Int)),(45,.pointer (some (adr e1 0))),(2,.pointer (some ⟨b2,0,none⟩)),(4,.pointer (some ⟨b4,0,none⟩)),(5,.slice A8 p.fFuns.length c8),(6,.slice F8 p.fFuns.length e8)] [row (Kd.int .i64) B.e 3 (.slice (some ⟨g42,0,none⟩) (onL (graphF p) (memF p free)).length c42) (onL (graphF p) (memF p free)),blk b2 29 (pcL p A0 c0 A1 c1),blk b4 32 [.int .i64 0,.int .i64 0,.int .i64 0]]:=by
  intro g42 c42
  refine anPut hR7 (ZM (i:=8) (rs:=[9]) ZK ?_)
  refine ZA J ?_ ?_
  refine Zlx hc45 ?_
  refine Z7 ?_
  exact anCov hR7 (an7_43 g42 c42) rfl cv Lh
  refine ZA J ?_ ?_
  refine oAlloc J ZP (fun b9=>?_)
  refine Z7 ?_
  exact anCov hR7 (an7_44 g42 c42 b9) rfl cv Lh
  exact ZB
 have an7_42:∀ (g42 c42:Nat) (b9:Nat),R7 3 #[tT,tT,tT,tT,tT,tT,tT,fF,fF,tT,fF] [(38,.pointer (some ⟨b2,0,none⟩)),(39,.slice A0 p.fFuns.length c0),(40,.slice A8 p.fFuns.length c8),(41,.slice F8 p.fFuns.length e8),(42,.slice (some ⟨g42,0,none⟩) (onL (graphF p) (memF p free)).length c42),(43,.pointer (some (elt g42 0 1 0))),(44,.int .i64 (c44:Int)),(9,.pointer (some ⟨b9,0,none⟩)),(2,.pointer (some ⟨b2,0,none⟩)),(4,.pointer (some ⟨b4,0,none⟩)),(5,.slice A8 p.fFuns.length c8),(6,.slice F8 p.fFuns.length e8)] [row (Kd.int .i64) B.e 3 (.slice (some ⟨g42,0,none⟩) (onL (graphF p) (memF p free)).length c42) (onL (graphF p) (memF p free)),blk b9 49 [.int .i64 0,.int .i64 0,.string ByteArray.empty,.int .i64 0,.slice none 0 0,.int .i64 0,.bool false,.int .i64 0,.int .i64 0,.slice none 0 0,.slice none 0 0,.slice none 0 0,.slice none 0 0],blk b2 29 (pcL p A0 c0 A1 c1),blk b4 32 [.int .i64 0,.int .i64 0,.int .i64 0]]:=by
  intro g42 c42 b9
  refine anPut hR7 (ZM (i:=7) (rs:=[]) ZK ?_)
  refine ZA J ?_ ?_
  refine oIdxE J J (hE) ZO J J ?_
  have hc45:=(hE).cell
  refine Z7 ?_
  exact anCov hR7 (an7_44 g42 c42 b9) rfl cv Lh
  exact ZB
 have an7_39:∀ (g42 c42:Nat) (b9:Nat),R7 4 #[tT,tT,tT,tT,tT,tT,fF,fF,fF,tT,fF] [(38,.pointer (some ⟨b2,0,none⟩)),(39,.slice A0 p.fFuns.length c0),(40,.slice A8 p.fFuns.length c8),(41,.slice F8 p.fFuns.length e8),(42,.slice (some ⟨g42,0,none⟩) (onL (graphF p) (memF p free)).length c42),(43,.pointer (some (elt g42 0 1 0))),(9,.pointer (some ⟨b9,0,none⟩)),(2,.pointer (some ⟨b2,0,none⟩)),(4,.pointer (some ⟨b4,0,none⟩)),(5,.slice A8 p.fFuns.length c8),(6,.slice F8 p.fFuns.length e8)] [row (Kd.int .i64) B.e 3 (.slice (some ⟨g42,0,none⟩) (onL (graphF p) (memF p free)).length c42) (onL (graphF p) (memF p free)),blk b9 49 [.int .i64 0,.int .i64 0,.string ByteArray.empty,.int .i64 0,.slice none 0 0,.int .i64 0,.bool false,.int .i64 0,.int .i64 0,.slice none 0 0,.slice none 0 0,.slice none 0 0,.slice none 0 0],blk b2 29 (pcL p A0 c0 A1 c1),blk b4 32 [.int .i64 0,.int .i64 0,.int .i64 0]]:=by
  intro g42 c42 b9
  refine anPut hR7 (ZM (i:=6) (rs:=[]) ZK ?_)
  refine ZA J ?_ ?_
  refine ZR1 (i:=0) J ZP (by have:=(List.getElem?_eq_some_iff.1 hc44).1;exact this) J (fun u44 hu44=>?_)
  obtain rfl:u44=(c44:Int):=Option.some.inj (hu44.symm.trans hc44)
  refine Z7 ?_
  exact anCov hR7 (an7_42 g42 c42 b9) rfl cv Lh
  exact ZB
 have an7_38:∀ (g42 c42:Nat),R7 4 #[tT,tT,tT,tT,tT,tT,tT,fF,fF,fF,fF] [(38,.pointer (some ⟨b2,0,none⟩)),(39,.slice A0 p.fFuns.length c0),(40,.slice A8 p.fFuns.length c8),(41,.slice F8 p.fFuns.length e8),(42,.slice (some ⟨g42,0,none⟩) (onL (graphF p) (memF p free)).length c42),(43,.pointer (some (elt g42 0 1 0))),(44,.int .i64 (c44:Int)),(2,.pointer (some ⟨b2,0,none⟩)),(4,.pointer (some ⟨b4,0,none⟩)),(5,.slice A8 p.fFuns.length c8),(6,.slice F8 p.fFuns.length e8)] [row (Kd.int .i64) B.e 3 (.slice (some ⟨g42,0,none⟩) (onL (graphF p) (memF p free)).length c42) (onL (graphF p) (memF p free)),blk b2 29 (pcL p A0 c0 A1 c1),blk b4 32 [.int .i64 0,.int .i64 0,.int .i64 0]]:=by
  intro g42 c42
  refine anPut hR7 (ZM (i:=7) (rs:=[9]) ZK ?_)
  refine ZA J ?_ ?_
  refine oIdxE J J (hE) ZO J J ?_
  have hc45:=(hE).cell
  refine Z7 ?_
  exact anCov hR7 (an7_41 g42 c42) rfl cv Lh
  refine ZA J ?_ ?_
  refine oAlloc J ZP (fun b9=>?_)
  refine Z7 ?_
  exact anCov hR7 (an7_42 g42 c42 b9) rfl cv Lh
  exact ZB
 have an7_40:∀ (g42 c42:Nat) (b9:Nat),R7 4 #[tT,fF,tT,tT,tT,tT,tT,fF,fF,tT,fF] [(38,.pointer (some ⟨b2,0,none⟩)),(40,.slice A8 p.fFuns.length c8),(41,.slice F8 p.fFuns.length e8),(42,.slice (some ⟨g42,0,none⟩) (onL (graphF p) (memF p free)).length c42),(43,.pointer (some (elt g42 0 1 0))),(44,.int .i64 (c44:Int)),(9,.pointer (some ⟨b9,0,none⟩)),(2,.pointer (some ⟨b2,0,none⟩)),(4,.pointer (some ⟨b4,0,none⟩)),(5,.slice A8 p.fFuns.length c8),(6,.slice F8 p.fFuns.length e8)] [row (Kd.int .i64) B.e 3 (.slice (some ⟨g42,0,none⟩) (onL (graphF p) (memF p free)).length c42) (onL (graphF p) (memF p free)),blk b9 49 [.int .i64 0,.int .i64 0,.string ByteArray.empty,.int .i64 0,.slice none 0 0,.int .i64 0,.bool false,.int .i64 0,.int .i64 0,.slice none 0 0,.slice none 0 0,.slice none 0 0,.slice none 0 0],blk b2 29 (pcL p A0 c0 A1 c1),blk b4 32 [.int .i64 0,.int .i64 0,.int .i64 0]]:=by
  intro g42 c42 b9
  refine anPut hR7 (ZM (i:=1) (rs:=[]) ZK ?_)
  refine ZA J ?_ ?_
  refine Zld ?_
  refine Z7 ?_
  exact anCov hR7 (an7_42 g42 c42 b9) rfl cv Lh
  exact ZB
 have an7_34:∀ (g42 c42:Nat) (b9:Nat),R7 5 #[tT,tT,tT,tT,tT,fF,fF,fF,fF,tT,fF] [(38,.pointer (some ⟨b2,0,none⟩)),(39,.slice A0 p.fFuns.length c0),(40,.slice A8 p.fFuns.length c8),(41,.slice F8 p.fFuns.length e8),(42,.slice (some ⟨g42,0,none⟩) (onL (graphF p) (memF p free)).length c42),(9,.pointer (some ⟨b9,0,none⟩)),(2,.pointer (some ⟨b2,0,none⟩)),(4,.pointer (some ⟨b4,0,none⟩)),(5,.slice A8 p.fFuns.length c8),(6,.slice F8 p.fFuns.length e8)] [row (Kd.int .i64) B.e 3 (.slice (some ⟨g42,0,none⟩) (onL (graphF p) (memF p free)).length c42) (onL (graphF p) (memF p free)),blk b9 49 [.int .i64 0,.int .i64 0,.string ByteArray.empty,.int .i64 0,.slice none 0 0,.int .i64 0,.bool false,.int .i64 0,.int .i64 0,.slice none 0 0,.slice none 0 0,.slice none 0 0,.slice none 0 0],blk b2 29 (pcL p A0 c0 A1 c1),blk b4 32 [.int .i64 0,.int .i64 0,.int .i64 0]]:=by
  intro g42 c42 b9
  refine anPut hR7 (ZM (i:=5) (rs:=[]) ZK ?_)
  refine ZA J ?_ ?_
  refine ZR (i:=0) J J ZP (by have:=(List.getElem?_eq_some_iff.1 hc44).1;exact this) J J (fun g43 hg43=>?_)
  injection hg43 with hg43;injection hg43 with hg43;subst hg43
  refine Z7 ?_
  exact anCov hR7 (an7_39 g42 c42 b9) rfl cv Lh
  exact ZB
 have an7_35:∀ (g42 c42:Nat),R7 5 #[tT,fF,tT,tT,tT,tT,tT,fF,fF,fF,fF] [(38,.pointer (some ⟨b2,0,none⟩)),(40,.slice A8 p.fFuns.length c8),(41,.slice F8 p.fFuns.length e8),(42,.slice (some ⟨g42,0,none⟩) (onL (graphF p) (memF p free)).length c42),(43,.pointer (some (elt g42 0 1 0))),(44,.int .i64 (c44:Int)),(2,.pointer (some ⟨b2,0,none⟩)),(4,.pointer (some ⟨b4,0,none⟩)),(5,.slice A8 p.fFuns.length c8),(6,.slice F8 p.fFuns.length e8)] [row (Kd.int .i64) B.e 3 (.slice (some ⟨g42,0,none⟩) (onL (graphF p) (memF p free)).length c42) (onL (graphF p) (memF p free)),blk b2 29 (pcL p A0 c0 A1 c1),blk b4 32 [.int .i64 0,.int .i64 0,.int .i64 0]]:=by
  intro g42 c42
  refine anPut hR7 (ZM (i:=1) (rs:=[9]) ZK ?_)
  refine ZA J ?_ ?_
  refine Zld ?_
  refine Z7 ?_
  exact anCov hR7 (an7_38 g42 c42) rfl cv Lh
  refine ZA J ?_ ?_
  refine oAlloc J ZP (fun b9=>?_)
  refine Z7 ?_
  exact anCov hR7 (an7_40 g42 c42 b9) rfl cv Lh
  exact ZB
 have an7_37:∀ (g42 c42:Nat) (b9:Nat),R7 5 #[fF,fF,tT,tT,tT,tT,tT,fF,fF,tT,fF] [(40,.slice A8 p.fFuns.length c8),(41,.slice F8 p.fFuns.length e8),(42,.slice (some ⟨g42,0,none⟩) (onL (graphF p) (memF p free)).length c42),(43,.pointer (some (elt g42 0 1 0))),(44,.int .i64 (c44:Int)),(9,.pointer (some ⟨b9,0,none⟩)),(2,.pointer (some ⟨b2,0,none⟩)),(4,.pointer (some ⟨b4,0,none⟩)),(5,.slice A8 p.fFuns.length c8),(6,.slice F8 p.fFuns.length e8)] [row (Kd.int .i64) B.e 3 (.slice (some ⟨g42,0,none⟩) (onL (graphF p) (memF p free)).length c42) (onL (graphF p) (memF p free)),blk b9 49 [.int .i64 0,.int .i64 0,.string ByteArray.empty,.int .i64 0,.slice none 0 0,.int .i64 0,.bool false,.int .i64 0,.int .i64 0,.slice none 0 0,.slice none 0 0,.slice none 0 0,.slice none 0 0],blk b2 29 (pcL p A0 c0 A1 c1),blk b4 32 [.int .i64 0,.int .i64 0,.int .i64 0]]:=by
  intro g42 c42 b9
  refine anPut hR7 (ZM (i:=0) (rs:=[]) ZK ?_)
  refine ZA J ?_ ?_
  refine Zz (n:=0) (m:=0) J J J (Z7 ?_)
  exact anCov hR7 (an7_40 g42 c42 b9) rfl cv Lh
  exact ZB
 have an7_36:∀ (g42 c42:Nat) (b9:Nat),R7 5 #[tT,fF,tT,tT,tT,tT,fF,fF,fF,tT,fF] [(38,.pointer (some ⟨b2,0,none⟩)),(40,.slice A8 p.fFuns.length c8),(41,.slice F8 p.fFuns.length e8),(42,.slice (some ⟨g42,0,none⟩) (onL (graphF p) (memF p free)).length c42),(43,.pointer (some (elt g42 0 1 0))),(9,.pointer (some ⟨b9,0,none⟩)),(2,.pointer (some ⟨b2,0,none⟩)),(4,.pointer (some ⟨b4,0,none⟩)),(5,.slice A8 p.fFuns.length c8),(6,.slice F8 p.fFuns.length e8)] [row (Kd.int .i64) B.e 3 (.slice (some ⟨g42,0,none⟩) (onL (graphF p) (memF p free)).length c42) (onL (graphF p) (memF p free)),blk b9 49 [.int .i64 0,.int .i64 0,.string ByteArray.empty,.int .i64 0,.slice none 0 0,.int .i64 0,.bool false,.int .i64 0,.int .i64 0,.slice none 0 0,.slice none 0 0,.slice none 0 0,.slice none 0 0],blk b2 29 (pcL p A0 c0 A1 c1),blk b4 32 [.int .i64 0,.int .i64 0,.int .i64 0]]:=by
  intro g42 c42 b9
  refine anPut hR7 (ZM (i:=1) (rs:=[6]) ZK ?_)
  refine ZA J ?_ ?_
  refine Zld ?_
  refine Z7 ?_
  exact anCov hR7 (an7_39 g42 c42 b9) rfl cv Lh
  refine ZA J ?_ ?_
  refine ZR1 (i:=0) J ZP (by have:=(List.getElem?_eq_some_iff.1 hc44).1;exact this) J (fun u44 hu44=>?_)
  obtain rfl:u44=(c44:Int):=Option.some.inj (hu44.symm.trans hc44)
  refine Z7 ?_
  exact anCov hR7 (an7_40 g42 c42 b9) rfl cv Lh
  exact ZB
 have an7_33:∀ (g42 c42:Nat),R7 5 #[tT,tT,tT,tT,tT,tT,fF,fF,fF,fF,fF] [(38,.pointer (some ⟨b2,0,none⟩)),(39,.slice A0 p.fFuns.length c0),(40,.slice A8 p.fFuns.length c8),(41,.slice F8 p.fFuns.length e8),(42,.slice (some ⟨g42,0,none⟩) (onL (graphF p) (memF p free)).length c42),(43,.pointer (some (elt g42 0 1 0))),(2,.pointer (some ⟨b2,0,none⟩)),(4,.pointer (some ⟨b4,0,none⟩)),(5,.slice A8 p.fFuns.length c8),(6,.slice F8 p.fFuns.length e8)] [row (Kd.int .i64) B.e 3 (.slice (some ⟨g42,0,none⟩) (onL (graphF p) (memF p free)).length c42) (onL (graphF p) (memF p free)),blk b2 29 (pcL p A0 c0 A1 c1),blk b4 32 [.int .i64 0,.int .i64 0,.int .i64 0]]:=by
  intro g42 c42
  refine anPut hR7 (ZM (i:=6) (rs:=[9]) ZK ?_)
  refine ZA J ?_ ?_
  refine ZR1 (i:=0) J ZP (by have:=(List.getElem?_eq_some_iff.1 hc44).1;exact this) J (fun u44 hu44=>?_)
  obtain rfl:u44=(c44:Int):=Option.some.inj (hu44.symm.trans hc44)
  refine Z7 ?_
  exact anCov hR7 (an7_38 g42 c42) rfl cv Lh
  refine ZA J ?_ ?_
  refine oAlloc J ZP (fun b9=>?_)
  refine Z7 ?_
  exact anCov hR7 (an7_39 g42 c42 b9) rfl cv Lh
  exact ZB
 have an7_32:∀ (g42 c42:Nat) (b9:Nat),R7 6 #[fF,fF,tT,tT,tT,tT,fF,fF,fF,tT,fF] [(40,.slice A8 p.fFuns.length c8),(41,.slice F8 p.fFuns.length e8),(42,.slice (some ⟨g42,0,none⟩) (onL (graphF p) (memF p free)).length c42),(43,.pointer (some (elt g42 0 1 0))),(9,.pointer (some ⟨b9,0,none⟩)),(2,.pointer (some ⟨b2,0,none⟩)),(4,.pointer (some ⟨b4,0,none⟩)),(5,.slice A8 p.fFuns.length c8),(6,.slice F8 p.fFuns.length e8)] [row (Kd.int .i64) B.e 3 (.slice (some ⟨g42,0,none⟩) (onL (graphF p) (memF p free)).length c42) (onL (graphF p) (memF p free)),blk b9 49 [.int .i64 0,.int .i64 0,.string ByteArray.empty,.int .i64 0,.slice none 0 0,.int .i64 0,.bool false,.int .i64 0,.int .i64 0,.slice none 0 0,.slice none 0 0,.slice none 0 0,.slice none 0 0],blk b2 29 (pcL p A0 c0 A1 c1),blk b4 32 [.int .i64 0,.int .i64 0,.int .i64 0]]:=by
  intro g42 c42 b9
  refine anPut hR7 (ZM (i:=0) (rs:=[6]) ZK ?_)
  refine ZA J ?_ ?_
  refine Zz (n:=0) (m:=0) J J J (Z7 ?_)
  exact anCov hR7 (an7_36 g42 c42 b9) rfl cv Lh
  refine ZA J ?_ ?_
  refine ZR1 (i:=0) J ZP (by have:=(List.getElem?_eq_some_iff.1 hc44).1;exact this) J (fun u44 hu44=>?_)
  obtain rfl:u44=(c44:Int):=Option.some.inj (hu44.symm.trans hc44)
  refine Z7 ?_
  exact anCov hR7 (an7_37 g42 c42 b9) rfl cv Lh
  exact ZB
 have an7_27:∀ (g42 c42:Nat),R7 6 #[tT,tT,tT,tT,tT,fF,fF,fF,fF,fF,fF] [(38,.pointer (some ⟨b2,0,none⟩)),(39,.slice A0 p.fFuns.length c0),(40,.slice A8 p.fFuns.length c8),(41,.slice F8 p.fFuns.length e8),(42,.slice (some ⟨g42,0,none⟩) (onL (graphF p) (memF p free)).length c42),(2,.pointer (some ⟨b2,0,none⟩)),(4,.pointer (some ⟨b4,0,none⟩)),(5,.slice A8 p.fFuns.length c8),(6,.slice F8 p.fFuns.length e8)] [row (Kd.int .i64) B.e 3 (.slice (some ⟨g42,0,none⟩) (onL (graphF p) (memF p free)).length c42) (onL (graphF p) (memF p free)),blk b2 29 (pcL p A0 c0 A1 c1),blk b4 32 [.int .i64 0,.int .i64 0,.int .i64 0]]:=by
  intro g42 c42
  refine anPut hR7 (ZM (i:=5) (rs:=[9]) ZK ?_)
  refine ZA J ?_ ?_
  refine ZR (i:=0) J J ZP (by have:=(List.getElem?_eq_some_iff.1 hc44).1;exact this) J J (fun g43 hg43=>?_)
  injection hg43 with hg43;injection hg43 with hg43;subst hg43
  refine Z7 ?_
  exact anCov hR7 (an7_33 g42 c42) rfl cv Lh
  refine ZA J ?_ ?_
  refine oAlloc J ZP (fun b9=>?_)
  refine Z7 ?_
  exact anCov hR7 (an7_34 g42 c42 b9) rfl cv Lh
  exact ZB
 have an7_28:∀ (b9:Nat),R7 6 #[tT,tT,tT,tT,fF,fF,fF,fF,fF,tT,fF] [(38,.pointer (some ⟨b2,0,none⟩)),(39,.slice A0 p.fFuns.length c0),(40,.slice A8 p.fFuns.length c8),(41,.slice F8 p.fFuns.length e8),(9,.pointer (some ⟨b9,0,none⟩)),(2,.pointer (some ⟨b2,0,none⟩)),(4,.pointer (some ⟨b4,0,none⟩)),(5,.slice A8 p.fFuns.length c8),(6,.slice F8 p.fFuns.length e8)] [blk b9 49 [.int .i64 0,.int .i64 0,.string ByteArray.empty,.int .i64 0,.slice none 0 0,.int .i64 0,.bool false,.int .i64 0,.int .i64 0,.slice none 0 0,.slice none 0 0,.slice none 0 0,.slice none 0 0],blk b2 29 (pcL p A0 c0 A1 c1),blk b4 32 [.int .i64 0,.int .i64 0,.int .i64 0]]:=by
  intro b9
  refine anPut hR7 (ZM (i:=4) (rs:=[]) ZK ?_)
  refine ZA J ?_ ?_
  (refine ZC0 rfl ZK (fun w hS=>frame hS ZQ (fun B' hB hS'=>onRRh hS' hsm free A8 c8 (Kd.C_grow hB hG) F8 e8 (Kd.C_grow hB hM) hne44 B.e)) ?_;rintro ⟨g42,c42⟩ -)
  refine Z7 ?_
  exact anCov hR7 (an7_34 g42 c42 b9) rfl cv Lh
  exact ZB
 have an7_29:∀ (g42 c42:Nat),R7 6 #[tT,fF,tT,tT,tT,tT,fF,fF,fF,fF,fF] [(38,.pointer (some ⟨b2,0,none⟩)),(40,.slice A8 p.fFuns.length c8),(41,.slice F8 p.fFuns.length e8),(42,.slice (some ⟨g42,0,none⟩) (onL (graphF p) (memF p free)).length c42),(43,.pointer (some (elt g42 0 1 0))),(2,.pointer (some ⟨b2,0,none⟩)),(4,.pointer (some ⟨b4,0,none⟩)),(5,.slice A8 p.fFuns.length c8),(6,.slice F8 p.fFuns.length e8)] [row (Kd.int .i64) B.e 3 (.slice (some ⟨g42,0,none⟩) (onL (graphF p) (memF p free)).length c42) (onL (graphF p) (memF p free)),blk b2 29 (pcL p A0 c0 A1 c1),blk b4 32 [.int .i64 0,.int .i64 0,.int .i64 0]]:=by
  intro g42 c42
  refine anPut hR7 (ZM (i:=1) (rs:=[6,9]) ZK ?_)
  refine ZA J ?_ ?_
  refine Zld ?_
  refine Z7 ?_
  exact anCov hR7 (an7_33 g42 c42) rfl cv Lh
  refine ZA J ?_ ?_
  refine ZR1 (i:=0) J ZP (by have:=(List.getElem?_eq_some_iff.1 hc44).1;exact this) J (fun u44 hu44=>?_)
  obtain rfl:u44=(c44:Int):=Option.some.inj (hu44.symm.trans hc44)
  refine Z7 ?_
  exact anCov hR7 (an7_35 g42 c42) rfl cv Lh
  refine ZA J ?_ ?_
  refine oAlloc J ZP (fun b9=>?_)
  refine Z7 ?_
  exact anCov hR7 (an7_36 g42 c42 b9) rfl cv Lh
  exact ZB
 have an7_31:∀ (g42 c42:Nat),R7 6 #[fF,fF,tT,tT,tT,tT,tT,fF,fF,fF,fF] [(40,.slice A8 p.fFuns.length c8),(41,.slice F8 p.fFuns.length e8),(42,.slice (some ⟨g42,0,none⟩) (onL (graphF p) (memF p free)).length c42),(43,.pointer (some (elt g42 0 1 0))),(44,.int .i64 (c44:Int)),(2,.pointer (some ⟨b2,0,none⟩)),(4,.pointer (some ⟨b4,0,none⟩)),(5,.slice A8 p.fFuns.length c8),(6,.slice F8 p.fFuns.length e8)] [row (Kd.int .i64) B.e 3 (.slice (some ⟨g42,0,none⟩) (onL (graphF p) (memF p free)).length c42) (onL (graphF p) (memF p free)),blk b2 29 (pcL p A0 c0 A1 c1),blk b4 32 [.int .i64 0,.int .i64 0,.int .i64 0]]:=by
  intro g42 c42
  refine anPut hR7 (ZM (i:=0) (rs:=[9]) ZK ?_)
  refine ZA J ?_ ?_
  refine Zz (n:=0) (m:=0) J J J (Z7 ?_)
  exact anCov hR7 (an7_35 g42 c42) rfl cv Lh
  refine ZA J ?_ ?_
  refine oAlloc J ZP (fun b9=>?_)
  refine Z7 ?_
  exact anCov hR7 (an7_37 g42 c42 b9) rfl cv Lh
  exact ZB
 have an7_30:∀ (g42 c42:Nat) (b9:Nat),R7 6 #[tT,fF,tT,tT,tT,fF,fF,fF,fF,tT,fF] [(38,.pointer (some ⟨b2,0,none⟩)),(40,.slice A8 p.fFuns.length c8),(41,.slice F8 p.fFuns.length e8),(42,.slice (some ⟨g42,0,none⟩) (onL (graphF p) (memF p free)).length c42),(9,.pointer (some ⟨b9,0,none⟩)),(2,.pointer (some ⟨b2,0,none⟩)),(4,.pointer (some ⟨b4,0,none⟩)),(5,.slice A8 p.fFuns.length c8),(6,.slice F8 p.fFuns.length e8)] [row (Kd.int .i64) B.e 3 (.slice (some ⟨g42,0,none⟩) (onL (graphF p) (memF p free)).length c42) (onL (graphF p) (memF p free)),blk b9 49 [.int .i64 0,.int .i64 0,.string ByteArray.empty,.int .i64 0,.slice none 0 0,.int .i64 0,.bool false,.int .i64 0,.int .i64 0,.slice none 0 0,.slice none 0 0,.slice none 0 0,.slice none 0 0],blk b2 29 (pcL p A0 c0 A1 c1),blk b4 32 [.int .i64 0,.int .i64 0,.int .i64 0]]:=by
  intro g42 c42 b9
  refine anPut hR7 (ZM (i:=1) (rs:=[5]) ZK ?_)
  refine ZA J ?_ ?_
  refine Zld ?_
  refine Z7 ?_
  exact anCov hR7 (an7_34 g42 c42 b9) rfl cv Lh
  refine ZA J ?_ ?_
  refine ZR (i:=0) J J ZP (by have:=(List.getElem?_eq_some_iff.1 hc44).1;exact this) J J (fun g43 hg43=>?_)
  injection hg43 with hg43;injection hg43 with hg43;subst hg43
  refine Z7 ?_
  exact anCov hR7 (an7_36 g42 c42 b9) rfl cv Lh
  exact ZB
 have an7_26:∀ (g42 c42:Nat) (b9:Nat),R7 7 #[fF,fF,tT,tT,tT,fF,fF,fF,fF,tT,fF] [(40,.slice A8 p.fFuns.length c8),(41,.slice F8 p.fFuns.length e8),(42,.slice (some ⟨g42,0,none⟩) (onL (graphF p) (memF p free)).length c42),(9,.pointer (some ⟨b9,0,none⟩)),(2,.pointer (some ⟨b2,0,none⟩)),(4,.pointer (some ⟨b4,0,none⟩)),(5,.slice A8 p.fFuns.length c8),(6,.slice F8 p.fFuns.length e8)] [row (Kd.int .i64) B.e 3 (.slice (some ⟨g42,0,none⟩) (onL (graphF p) (memF p free)).length c42) (onL (graphF p) (memF p free)),blk b9 49 [.int .i64 0,.int .i64 0,.string ByteArray.empty,.int .i64 0,.slice none 0 0,.int .i64 0,.bool false,.int .i64 0,.int .i64 0,.slice none 0 0,.slice none 0 0,.slice none 0 0,.slice none 0 0],blk b2 29 (pcL p A0 c0 A1 c1),blk b4 32 [.int .i64 0,.int .i64 0,.int .i64 0]]:=by
  intro g42 c42 b9
  refine anPut hR7 (ZM (i:=0) (rs:=[5]) ZK ?_)
  refine ZA J ?_ ?_
  refine Zz (n:=0) (m:=0) J J J (Z7 ?_)
  exact anCov hR7 (an7_30 g42 c42 b9) rfl cv Lh
  refine ZA J ?_ ?_
  refine ZR (i:=0) J J ZP (by have:=(List.getElem?_eq_some_iff.1 hc44).1;exact this) J J (fun g43 hg43=>?_)
  injection hg43 with hg43;injection hg43 with hg43;subst hg43
  refine Z7 ?_
  exact anCov hR7 (an7_32 g42 c42 b9) rfl cv Lh
  exact ZB
 have an7_23:∀ (g42 c42:Nat),R7 7 #[tT,fF,tT,tT,tT,fF,fF,fF,fF,fF,fF] [(38,.pointer (some ⟨b2,0,none⟩)),(40,.slice A8 p.fFuns.length c8),(41,.slice F8 p.fFuns.length e8),(42,.slice (some ⟨g42,0,none⟩) (onL (graphF p) (memF p free)).length c42),(2,.pointer (some ⟨b2,0,none⟩)),(4,.pointer (some ⟨b4,0,none⟩)),(5,.slice A8 p.fFuns.length c8),(6,.slice F8 p.fFuns.length e8)] [row (Kd.int .i64) B.e 3 (.slice (some ⟨g42,0,none⟩) (onL (graphF p) (memF p free)).length c42) (onL (graphF p) (memF p free)),blk b2 29 (pcL p A0 c0 A1 c1),blk b4 32 [.int .i64 0,.int .i64 0,.int .i64 0]]:=by
  intro g42 c42
  refine anPut hR7 (ZM (i:=1) (rs:=[5,9]) ZK ?_)
  refine ZA J ?_ ?_
  refine Zld ?_
  refine Z7 ?_
  exact anCov hR7 (an7_27 g42 c42) rfl cv Lh
  refine ZA J ?_ ?_
  refine ZR (i:=0) J J ZP (by have:=(List.getElem?_eq_some_iff.1 hc44).1;exact this) J J (fun g43 hg43=>?_)
  injection hg43 with hg43;injection hg43 with hg43;subst hg43
  refine Z7 ?_
  exact anCov hR7 (an7_29 g42 c42) rfl cv Lh
  refine ZA J ?_ ?_
  refine oAlloc J ZP (fun b9=>?_)
  refine Z7 ?_
  exact anCov hR7 (an7_30 g42 c42 b9) rfl cv Lh
  exact ZB
 have an7_21:∀ (b9:Nat),R7 7 #[tT,tT,tT,fF,fF,fF,fF,fF,fF,tT,fF] [(38,.pointer (some ⟨b2,0,none⟩)),(39,.slice A0 p.fFuns.length c0),(40,.slice A8 p.fFuns.length c8),(9,.pointer (some ⟨b9,0,none⟩)),(2,.pointer (some ⟨b2,0,none⟩)),(4,.pointer (some ⟨b4,0,none⟩)),(5,.slice A8 p.fFuns.length c8),(6,.slice F8 p.fFuns.length e8)] [blk b9 49 [.int .i64 0,.int .i64 0,.string ByteArray.empty,.int .i64 0,.slice none 0 0,.int .i64 0,.bool false,.int .i64 0,.int .i64 0,.slice none 0 0,.slice none 0 0,.slice none 0 0,.slice none 0 0],blk b2 29 (pcL p A0 c0 A1 c1),blk b4 32 [.int .i64 0,.int .i64 0,.int .i64 0]]:=by
  intro b9
  refine anPut hR7 (ZM (i:=3) (rs:=[]) ZK ?_)
  refine ZA J ?_ ?_
  refine Zo J (Z7 ?_)
  exact anCov hR7 (an7_28 b9) rfl cv Lh
  exact ZB
 have an7_24:∀ (b9:Nat),R7 7 #[tT,fF,tT,tT,fF,fF,fF,fF,fF,tT,fF] [(38,.pointer (some ⟨b2,0,none⟩)),(40,.slice A8 p.fFuns.length c8),(41,.slice F8 p.fFuns.length e8),(9,.pointer (some ⟨b9,0,none⟩)),(2,.pointer (some ⟨b2,0,none⟩)),(4,.pointer (some ⟨b4,0,none⟩)),(5,.slice A8 p.fFuns.length c8),(6,.slice F8 p.fFuns.length e8)] [blk b9 49 [.int .i64 0,.int .i64 0,.string ByteArray.empty,.int .i64 0,.slice none 0 0,.int .i64 0,.bool false,.int .i64 0,.int .i64 0,.slice none 0 0,.slice none 0 0,.slice none 0 0,.slice none 0 0],blk b2 29 (pcL p A0 c0 A1 c1),blk b4 32 [.int .i64 0,.int .i64 0,.int .i64 0]]:=by
  intro b9
  refine anPut hR7 (ZM (i:=1) (rs:=[4]) ZK ?_)
  refine ZA J ?_ ?_
  refine Zld ?_
  refine Z7 ?_
  exact anCov hR7 (an7_28 b9) rfl cv Lh
  refine ZA J ?_ ?_
  (refine ZC0 rfl ZK (fun w hS=>frame hS ZQ (fun B' hB hS'=>onRRh hS' hsm free A8 c8 (Kd.C_grow hB hG) F8 e8 (Kd.C_grow hB hM) hne44 B.e)) ?_;rintro ⟨g42,c42⟩ -)
  refine Z7 ?_
  exact anCov hR7 (an7_30 g42 c42 b9) rfl cv Lh
  exact ZB
 have an7_25:∀ (g42 c42:Nat),R7 7 #[fF,fF,tT,tT,tT,tT,fF,fF,fF,fF,fF] [(40,.slice A8 p.fFuns.length c8),(41,.slice F8 p.fFuns.length e8),(42,.slice (some ⟨g42,0,none⟩) (onL (graphF p) (memF p free)).length c42),(43,.pointer (some (elt g42 0 1 0))),(2,.pointer (some ⟨b2,0,none⟩)),(4,.pointer (some ⟨b4,0,none⟩)),(5,.slice A8 p.fFuns.length c8),(6,.slice F8 p.fFuns.length e8)] [row (Kd.int .i64) B.e 3 (.slice (some ⟨g42,0,none⟩) (onL (graphF p) (memF p free)).length c42) (onL (graphF p) (memF p free)),blk b2 29 (pcL p A0 c0 A1 c1),blk b4 32 [.int .i64 0,.int .i64 0,.int .i64 0]]:=by
  intro g42 c42
  refine anPut hR7 (ZM (i:=0) (rs:=[6,9]) ZK ?_)
  refine ZA J ?_ ?_
  refine Zz (n:=0) (m:=0) J J J (Z7 ?_)
  exact anCov hR7 (an7_29 g42 c42) rfl cv Lh
  refine ZA J ?_ ?_
  refine ZR1 (i:=0) J ZP (by have:=(List.getElem?_eq_some_iff.1 hc44).1;exact this) J (fun u44 hu44=>?_)
  obtain rfl:u44=(c44:Int):=Option.some.inj (hu44.symm.trans hc44)
  refine Z7 ?_
  exact anCov hR7 (an7_31 g42 c42) rfl cv Lh
  refine ZA J ?_ ?_
  refine oAlloc J ZP (fun b9=>?_)
  refine Z7 ?_
  exact anCov hR7 (an7_32 g42 c42 b9) rfl cv Lh
  exact ZB
 have an7_20:R7 7 #[tT,tT,tT,tT,fF,fF,fF,fF,fF,fF,fF] [(38,.pointer (some ⟨b2,0,none⟩)),(39,.slice A0 p.fFuns.length c0),(40,.slice A8 p.fFuns.length c8),(41,.slice F8 p.fFuns.length e8),(2,.pointer (some ⟨b2,0,none⟩)),(4,.pointer (some ⟨b4,0,none⟩)),(5,.slice A8 p.fFuns.length c8),(6,.slice F8 p.fFuns.length e8)] [blk b2 29 (pcL p A0 c0 A1 c1),blk b4 32 [.int .i64 0,.int .i64 0,.int .i64 0]]:=by
  refine anPut hR7 (ZM (i:=4) (rs:=[9]) ZK ?_)
  refine ZA J ?_ ?_
  (refine ZC0 rfl ZK (fun w hS=>frame hS ZQ (fun B' hB hS'=>onRRh hS' hsm free A8 c8 (Kd.C_grow hB hG) F8 e8 (Kd.C_grow hB hM) hne44 B.e)) ?_;rintro ⟨g42,c42⟩ -)
  refine Z7 ?_
  exact anCov hR7 (an7_27 g42 c42) rfl cv Lh
  refine ZA J ?_ ?_
  refine oAlloc J ZP (fun b9=>?_)
  refine Z7 ?_
  exact anCov hR7 (an7_28 b9) rfl cv Lh
  exact ZB
 have an7_22:∀ (b9:Nat),R7 7 #[tT,tT,fF,tT,fF,fF,fF,fF,fF,tT,fF] [(38,.pointer (some ⟨b2,0,none⟩)),(39,.slice A0 p.fFuns.length c0),(41,.slice F8 p.fFuns.length e8),(9,.pointer (some ⟨b9,0,none⟩)),(2,.pointer (some ⟨b2,0,none⟩)),(4,.pointer (some ⟨b4,0,none⟩)),(5,.slice A8 p.fFuns.length c8),(6,.slice F8 p.fFuns.length e8)] [blk b9 49 [.int .i64 0,.int .i64 0,.string ByteArray.empty,.int .i64 0,.slice none 0 0,.int .i64 0,.bool false,.int .i64 0,.int .i64 0,.slice none 0 0,.slice none 0 0,.slice none 0 0,.slice none 0 0],blk b2 29 (pcL p A0 c0 A1 c1),blk b4 32 [.int .i64 0,.int .i64 0,.int .i64 0]]:=by
  intro b9
  refine anPut hR7 (ZM (i:=2) (rs:=[]) ZK ?_)
  refine ZA J ?_ ?_
  refine Zo J (Z7 ?_)
  exact anCov hR7 (an7_28 b9) rfl cv Lh
  exact ZB
 have an7_18:∀ (g42 c42:Nat),R7 8 #[fF,fF,tT,tT,tT,fF,fF,fF,fF,fF,fF] [(40,.slice A8 p.fFuns.length c8),(41,.slice F8 p.fFuns.length e8),(42,.slice (some ⟨g42,0,none⟩) (onL (graphF p) (memF p free)).length c42),(2,.pointer (some ⟨b2,0,none⟩)),(4,.pointer (some ⟨b4,0,none⟩)),(5,.slice A8 p.fFuns.length c8),(6,.slice F8 p.fFuns.length e8)] [row (Kd.int .i64) B.e 3 (.slice (some ⟨g42,0,none⟩) (onL (graphF p) (memF p free)).length c42) (onL (graphF p) (memF p free)),blk b2 29 (pcL p A0 c0 A1 c1),blk b4 32 [.int .i64 0,.int .i64 0,.int .i64 0]]:=by
  intro g42 c42
  refine anPut hR7 (ZM (i:=0) (rs:=[5,9]) ZK ?_)
  refine ZA J ?_ ?_
  refine Zz (n:=0) (m:=0) J J J (Z7 ?_)
  exact anCov hR7 (an7_23 g42 c42) rfl cv Lh
  refine ZA J ?_ ?_
  refine ZR (i:=0) J J ZP (by have:=(List.getElem?_eq_some_iff.1 hc44).1;exact this) J J (fun g43 hg43=>?_)
  injection hg43 with hg43;injection hg43 with hg43;subst hg43
  refine Z7 ?_
  exact anCov hR7 (an7_25 g42 c42) rfl cv Lh
  refine ZA J ?_ ?_
  refine oAlloc J ZP (fun b9=>?_)
  refine Z7 ?_
  exact anCov hR7 (an7_26 g42 c42 b9) rfl cv Lh
  exact ZB
 have an7_19:∀ (b9:Nat),R7 8 #[fF,fF,tT,tT,fF,fF,fF,fF,fF,tT,fF] [(40,.slice A8 p.fFuns.length c8),(41,.slice F8 p.fFuns.length e8),(9,.pointer (some ⟨b9,0,none⟩)),(2,.pointer (some ⟨b2,0,none⟩)),(4,.pointer (some ⟨b4,0,none⟩)),(5,.slice A8 p.fFuns.length c8),(6,.slice F8 p.fFuns.length e8)] [blk b9 49 [.int .i64 0,.int .i64 0,.string ByteArray.empty,.int .i64 0,.slice none 0 0,.int .i64 0,.bool false,.int .i64 0,.int .i64 0,.slice none 0 0,.slice none 0 0,.slice none 0 0,.slice none 0 0],blk b2 29 (pcL p A0 c0 A1 c1),blk b4 32 [.int .i64 0,.int .i64 0,.int .i64 0]]:=by
  intro b9
  refine anPut hR7 (ZM (i:=0) (rs:=[4]) ZK ?_)
  refine ZA J ?_ ?_
  refine Zz (n:=0) (m:=0) J J J (Z7 ?_)
  exact anCov hR7 (an7_24 b9) rfl cv Lh
  refine ZA J ?_ ?_
  (refine ZC0 rfl ZK (fun w hS=>frame hS ZQ (fun B' hB hS'=>onRRh hS' hsm free A8 c8 (Kd.C_grow hB hG) F8 e8 (Kd.C_grow hB hM) hne44 B.e)) ?_;rintro ⟨g42,c42⟩ -)
  refine Z7 ?_
  exact anCov hR7 (an7_26 g42 c42 b9) rfl cv Lh
  exact ZB
 have an7_15:R7 8 #[tT,fF,tT,tT,fF,fF,fF,fF,fF,fF,fF] [(38,.pointer (some ⟨b2,0,none⟩)),(40,.slice A8 p.fFuns.length c8),(41,.slice F8 p.fFuns.length e8),(2,.pointer (some ⟨b2,0,none⟩)),(4,.pointer (some ⟨b4,0,none⟩)),(5,.slice A8 p.fFuns.length c8),(6,.slice F8 p.fFuns.length e8)] [blk b2 29 (pcL p A0 c0 A1 c1),blk b4 32 [.int .i64 0,.int .i64 0,.int .i64 0]]:=by
  refine anPut hR7 (ZM (i:=1) (rs:=[4,9]) ZK ?_)
  refine ZA J ?_ ?_
  refine Zld ?_
  refine Z7 ?_
  exact anCov hR7 (an7_20 ) rfl cv Lh
  refine ZA J ?_ ?_
  (refine ZC0 rfl ZK (fun w hS=>frame hS ZQ (fun B' hB hS'=>onRRh hS' hsm free A8 c8 (Kd.C_grow hB hG) F8 e8 (Kd.C_grow hB hM) hne44 B.e)) ?_;rintro ⟨g42,c42⟩ -)
  refine Z7 ?_
  exact anCov hR7 (an7_23 g42 c42) rfl cv Lh
  refine ZA J ?_ ?_
  refine oAlloc J ZP (fun b9=>?_)
  refine Z7 ?_
  exact anCov hR7 (an7_24 b9) rfl cv Lh
  exact ZB
 have an7_17:∀ (b9:Nat),R7 8 #[tT,fF,fF,tT,fF,fF,fF,fF,fF,tT,fF] [(38,.pointer (some ⟨b2,0,none⟩)),(41,.slice F8 p.fFuns.length e8),(9,.pointer (some ⟨b9,0,none⟩)),(2,.pointer (some ⟨b2,0,none⟩)),(4,.pointer (some ⟨b4,0,none⟩)),(5,.slice A8 p.fFuns.length c8),(6,.slice F8 p.fFuns.length e8)] [blk b9 49 [.int .i64 0,.int .i64 0,.string ByteArray.empty,.int .i64 0,.slice none 0 0,.int .i64 0,.bool false,.int .i64 0,.int .i64 0,.slice none 0 0,.slice none 0 0,.slice none 0 0,.slice none 0 0],blk b2 29 (pcL p A0 c0 A1 c1),blk b4 32 [.int .i64 0,.int .i64 0,.int .i64 0]]:=by
  intro b9
  refine anPut hR7 (ZM (i:=1) (rs:=[2]) ZK ?_)
  refine ZA J ?_ ?_
  refine Zld ?_
  refine Z7 ?_
  exact anCov hR7 (an7_22 b9) rfl cv Lh
  refine ZA J ?_ ?_
  refine Zo J (Z7 ?_)
  exact anCov hR7 (an7_24 b9) rfl cv Lh
  exact ZB
 have an7_14:∀ (b9:Nat),R7 8 #[tT,tT,fF,fF,fF,fF,fF,fF,fF,tT,fF] [(38,.pointer (some ⟨b2,0,none⟩)),(39,.slice A0 p.fFuns.length c0),(9,.pointer (some ⟨b9,0,none⟩)),(2,.pointer (some ⟨b2,0,none⟩)),(4,.pointer (some ⟨b4,0,none⟩)),(5,.slice A8 p.fFuns.length c8),(6,.slice F8 p.fFuns.length e8)] [blk b9 49 [.int .i64 0,.int .i64 0,.string ByteArray.empty,.int .i64 0,.slice none 0 0,.int .i64 0,.bool false,.int .i64 0,.int .i64 0,.slice none 0 0,.slice none 0 0,.slice none 0 0,.slice none 0 0],blk b2 29 (pcL p A0 c0 A1 c1),blk b4 32 [.int .i64 0,.int .i64 0,.int .i64 0]]:=by
  intro b9
  refine anPut hR7 (ZM (i:=2) (rs:=[3]) ZK ?_)
  refine ZA J ?_ ?_
  refine Zo J (Z7 ?_)
  exact anCov hR7 (an7_21 b9) rfl cv Lh
  refine ZA J ?_ ?_
  refine Zo J (Z7 ?_)
  exact anCov hR7 (an7_22 b9) rfl cv Lh
  exact ZB
 have an7_12:R7 8 #[tT,tT,tT,fF,fF,fF,fF,fF,fF,fF,fF] [(38,.pointer (some ⟨b2,0,none⟩)),(39,.slice A0 p.fFuns.length c0),(40,.slice A8 p.fFuns.length c8),(2,.pointer (some ⟨b2,0,none⟩)),(4,.pointer (some ⟨b4,0,none⟩)),(5,.slice A8 p.fFuns.length c8),(6,.slice F8 p.fFuns.length e8)] [blk b2 29 (pcL p A0 c0 A1 c1),blk b4 32 [.int .i64 0,.int .i64 0,.int .i64 0]]:=by
  refine anPut hR7 (ZM (i:=3) (rs:=[9]) ZK ?_)
  refine ZA J ?_ ?_
  refine Zo J (Z7 ?_)
  exact anCov hR7 (an7_20 ) rfl cv Lh
  refine ZA J ?_ ?_
  refine oAlloc J ZP (fun b9=>?_)
  refine Z7 ?_
  exact anCov hR7 (an7_21 b9) rfl cv Lh
  exact ZB
 have an7_13:R7 8 #[tT,tT,fF,tT,fF,fF,fF,fF,fF,fF,fF] [(38,.pointer (some ⟨b2,0,none⟩)),(39,.slice A0 p.fFuns.length c0),(41,.slice F8 p.fFuns.length e8),(2,.pointer (some ⟨b2,0,none⟩)),(4,.pointer (some ⟨b4,0,none⟩)),(5,.slice A8 p.fFuns.length c8),(6,.slice F8 p.fFuns.length e8)] [blk b2 29 (pcL p A0 c0 A1 c1),blk b4 32 [.int .i64 0,.int .i64 0,.int .i64 0]]:=by
  refine anPut hR7 (ZM (i:=2) (rs:=[9]) ZK ?_)
  refine ZA J ?_ ?_
  refine Zo J (Z7 ?_)
  exact anCov hR7 (an7_20 ) rfl cv Lh
  refine ZA J ?_ ?_
  refine oAlloc J ZP (fun b9=>?_)
  refine Z7 ?_
  exact anCov hR7 (an7_22 b9) rfl cv Lh
  exact ZB
 have an7_16:∀ (b9:Nat),R7 8 #[tT,fF,tT,fF,fF,fF,fF,fF,fF,tT,fF] [(38,.pointer (some ⟨b2,0,none⟩)),(40,.slice A8 p.fFuns.length c8),(9,.pointer (some ⟨b9,0,none⟩)),(2,.pointer (some ⟨b2,0,none⟩)),(4,.pointer (some ⟨b4,0,none⟩)),(5,.slice A8 p.fFuns.length c8),(6,.slice F8 p.fFuns.length e8)] [blk b9 49 [.int .i64 0,.int .i64 0,.string ByteArray.empty,.int .i64 0,.slice none 0 0,.int .i64 0,.bool false,.int .i64 0,.int .i64 0,.slice none 0 0,.slice none 0 0,.slice none 0 0,.slice none 0 0],blk b2 29 (pcL p A0 c0 A1 c1),blk b4 32 [.int .i64 0,.int .i64 0,.int .i64 0]]:=by
  intro b9
  refine anPut hR7 (ZM (i:=1) (rs:=[3]) ZK ?_)
  refine ZA J ?_ ?_
  refine Zld ?_
  refine Z7 ?_
  exact anCov hR7 (an7_21 b9) rfl cv Lh
  refine ZA J ?_ ?_
  refine Zo J (Z7 ?_)
  exact anCov hR7 (an7_24 b9) rfl cv Lh
  exact ZB
 have an7_9:R7 9 #[fF,fF,tT,tT,fF,fF,fF,fF,fF,fF,fF] [(40,.slice A8 p.fFuns.length c8),(41,.slice F8 p.fFuns.length e8),(2,.pointer (some ⟨b2,0,none⟩)),(4,.pointer (some ⟨b4,0,none⟩)),(5,.slice A8 p.fFuns.length c8),(6,.slice F8 p.fFuns.length e8)] [blk b2 29 (pcL p A0 c0 A1 c1),blk b4 32 [.int .i64 0,.int .i64 0,.int .i64 0]]:=by
  refine anPut hR7 (ZM (i:=0) (rs:=[4,9]) ZK ?_)
  refine ZA J ?_ ?_
  refine Zz (n:=0) (m:=0) J J J (Z7 ?_)
  exact anCov hR7 (an7_15 ) rfl cv Lh
  refine ZA J ?_ ?_
  (refine ZC0 rfl ZK (fun w hS=>frame hS ZQ (fun B' hB hS'=>onRRh hS' hsm free A8 c8 (Kd.C_grow hB hG) F8 e8 (Kd.C_grow hB hM) hne44 B.e)) ?_;rintro ⟨g42,c42⟩ -)
  refine Z7 ?_
  exact anCov hR7 (an7_18 g42 c42) rfl cv Lh
  refine ZA J ?_ ?_
  refine oAlloc J ZP (fun b9=>?_)
  refine Z7 ?_
  exact anCov hR7 (an7_19 b9) rfl cv Lh
  exact ZB
 have an7_11:∀ (b9:Nat),R7 9 #[fF,fF,fF,tT,fF,fF,fF,fF,fF,tT,fF] [(41,.slice F8 p.fFuns.length e8),(9,.pointer (some ⟨b9,0,none⟩)),(2,.pointer (some ⟨b2,0,none⟩)),(4,.pointer (some ⟨b4,0,none⟩)),(5,.slice A8 p.fFuns.length c8),(6,.slice F8 p.fFuns.length e8)] [blk b9 49 [.int .i64 0,.int .i64 0,.string ByteArray.empty,.int .i64 0,.slice none 0 0,.int .i64 0,.bool false,.int .i64 0,.int .i64 0,.slice none 0 0,.slice none 0 0,.slice none 0 0,.slice none 0 0],blk b2 29 (pcL p A0 c0 A1 c1),blk b4 32 [.int .i64 0,.int .i64 0,.int .i64 0]]:=by
  intro b9
  refine anPut hR7 (ZM (i:=0) (rs:=[2]) ZK ?_)
  refine ZA J ?_ ?_
  refine Zz (n:=0) (m:=0) J J J (Z7 ?_)
  exact anCov hR7 (an7_17 b9) rfl cv Lh
  refine ZA J ?_ ?_
  refine Zo J (Z7 ?_)
  exact anCov hR7 (an7_19 b9) rfl cv Lh
  exact ZB
 have an7_10:∀ (b9:Nat),R7 9 #[fF,fF,tT,fF,fF,fF,fF,fF,fF,tT,fF] [(40,.slice A8 p.fFuns.length c8),(9,.pointer (some ⟨b9,0,none⟩)),(2,.pointer (some ⟨b2,0,none⟩)),(4,.pointer (some ⟨b4,0,none⟩)),(5,.slice A8 p.fFuns.length c8),(6,.slice F8 p.fFuns.length e8)] [blk b9 49 [.int .i64 0,.int .i64 0,.string ByteArray.empty,.int .i64 0,.slice none 0 0,.int .i64 0,.bool false,.int .i64 0,.int .i64 0,.slice none 0 0,.slice none 0 0,.slice none 0 0,.slice none 0 0],blk b2 29 (pcL p A0 c0 A1 c1),blk b4 32 [.int .i64 0,.int .i64 0,.int .i64 0]]:=by
  intro b9
  refine anPut hR7 (ZM (i:=0) (rs:=[3]) ZK ?_)
  refine ZA J ?_ ?_
  refine Zz (n:=0) (m:=0) J J J (Z7 ?_)
  exact anCov hR7 (an7_16 b9) rfl cv Lh
  refine ZA J ?_ ?_
  refine Zo J (Z7 ?_)
  exact anCov hR7 (an7_19 b9) rfl cv Lh
  exact ZB
 have an7_7:R7 9 #[tT,fF,fF,tT,fF,fF,fF,fF,fF,fF,fF] [(38,.pointer (some ⟨b2,0,none⟩)),(41,.slice F8 p.fFuns.length e8),(2,.pointer (some ⟨b2,0,none⟩)),(4,.pointer (some ⟨b4,0,none⟩)),(5,.slice A8 p.fFuns.length c8),(6,.slice F8 p.fFuns.length e8)] [blk b2 29 (pcL p A0 c0 A1 c1),blk b4 32 [.int .i64 0,.int .i64 0,.int .i64 0]]:=by
  refine anPut hR7 (ZM (i:=1) (rs:=[2,9]) ZK ?_)
  refine ZA J ?_ ?_
  refine Zld ?_
  refine Z7 ?_
  exact anCov hR7 (an7_13 ) rfl cv Lh
  refine ZA J ?_ ?_
  refine Zo J (Z7 ?_)
  exact anCov hR7 (an7_15 ) rfl cv Lh
  refine ZA J ?_ ?_
  refine oAlloc J ZP (fun b9=>?_)
  refine Z7 ?_
  exact anCov hR7 (an7_17 b9) rfl cv Lh
  exact ZB
 have an7_6:R7 9 #[tT,fF,tT,fF,fF,fF,fF,fF,fF,fF,fF] [(38,.pointer (some ⟨b2,0,none⟩)),(40,.slice A8 p.fFuns.length c8),(2,.pointer (some ⟨b2,0,none⟩)),(4,.pointer (some ⟨b4,0,none⟩)),(5,.slice A8 p.fFuns.length c8),(6,.slice F8 p.fFuns.length e8)] [blk b2 29 (pcL p A0 c0 A1 c1),blk b4 32 [.int .i64 0,.int .i64 0,.int .i64 0]]:=by
  refine anPut hR7 (ZM (i:=1) (rs:=[3,9]) ZK ?_)
  refine ZA J ?_ ?_
  refine Zld ?_
  refine Z7 ?_
  exact anCov hR7 (an7_12 ) rfl cv Lh
  refine ZA J ?_ ?_
  refine Zo J (Z7 ?_)
  exact anCov hR7 (an7_15 ) rfl cv Lh
  refine ZA J ?_ ?_
  refine oAlloc J ZP (fun b9=>?_)
  refine Z7 ?_
  exact anCov hR7 (an7_16 b9) rfl cv Lh
  exact ZB
 have an7_5:R7 9 #[tT,tT,fF,fF,fF,fF,fF,fF,fF,fF,fF] [(38,.pointer (some ⟨b2,0,none⟩)),(39,.slice A0 p.fFuns.length c0),(2,.pointer (some ⟨b2,0,none⟩)),(4,.pointer (some ⟨b4,0,none⟩)),(5,.slice A8 p.fFuns.length c8),(6,.slice F8 p.fFuns.length e8)] [blk b2 29 (pcL p A0 c0 A1 c1),blk b4 32 [.int .i64 0,.int .i64 0,.int .i64 0]]:=by
  refine anPut hR7 (ZM (i:=2) (rs:=[3,9]) ZK ?_)
  refine ZA J ?_ ?_
  refine Zo J (Z7 ?_)
  exact anCov hR7 (an7_12 ) rfl cv Lh
  refine ZA J ?_ ?_
  refine Zo J (Z7 ?_)
  exact anCov hR7 (an7_13 ) rfl cv Lh
  refine ZA J ?_ ?_
  refine oAlloc J ZP (fun b9=>?_)
  refine Z7 ?_
  exact anCov hR7 (an7_14 b9) rfl cv Lh
  exact ZB
 have an7_8:∀ (b9:Nat),R7 9 #[tT,fF,fF,fF,fF,fF,fF,fF,fF,tT,fF] [(38,.pointer (some ⟨b2,0,none⟩)),(9,.pointer (some ⟨b9,0,none⟩)),(2,.pointer (some ⟨b2,0,none⟩)),(4,.pointer (some ⟨b4,0,none⟩)),(5,.slice A8 p.fFuns.length c8),(6,.slice F8 p.fFuns.length e8)] [blk b9 49 [.int .i64 0,.int .i64 0,.string ByteArray.empty,.int .i64 0,.slice none 0 0,.int .i64 0,.bool false,.int .i64 0,.int .i64 0,.slice none 0 0,.slice none 0 0,.slice none 0 0,.slice none 0 0],blk b2 29 (pcL p A0 c0 A1 c1),blk b4 32 [.int .i64 0,.int .i64 0,.int .i64 0]]:=by
  intro b9
  refine anPut hR7 (ZM (i:=1) (rs:=[2,3]) ZK ?_)
  refine ZA J ?_ ?_
  refine Zld ?_
  refine Z7 ?_
  exact anCov hR7 (an7_14 b9) rfl cv Lh
  refine ZA J ?_ ?_
  refine Zo J (Z7 ?_)
  exact anCov hR7 (an7_16 b9) rfl cv Lh
  refine ZA J ?_ ?_
  refine Zo J (Z7 ?_)
  exact anCov hR7 (an7_17 b9) rfl cv Lh
  exact ZB
 have an7_4:∀ (b9:Nat),R7 10 #[fF,fF,fF,fF,fF,fF,fF,fF,fF,tT,fF] [(9,.pointer (some ⟨b9,0,none⟩)),(2,.pointer (some ⟨b2,0,none⟩)),(4,.pointer (some ⟨b4,0,none⟩)),(5,.slice A8 p.fFuns.length c8),(6,.slice F8 p.fFuns.length e8)] [blk b9 49 [.int .i64 0,.int .i64 0,.string ByteArray.empty,.int .i64 0,.slice none 0 0,.int .i64 0,.bool false,.int .i64 0,.int .i64 0,.slice none 0 0,.slice none 0 0,.slice none 0 0,.slice none 0 0],blk b2 29 (pcL p A0 c0 A1 c1),blk b4 32 [.int .i64 0,.int .i64 0,.int .i64 0]]:=by
  intro b9
  refine anPut hR7 (ZM (i:=0) (rs:=[2,3]) ZK ?_)
  refine ZA J ?_ ?_
  refine Zz (n:=0) (m:=0) J J J (Z7 ?_)
  exact anCov hR7 (an7_8 b9) rfl cv Lh
  refine ZA J ?_ ?_
  refine Zo J (Z7 ?_)
  exact anCov hR7 (an7_10 b9) rfl cv Lh
  refine ZA J ?_ ?_
  refine Zo J (Z7 ?_)
  exact anCov hR7 (an7_11 b9) rfl cv Lh
  exact ZB
 have an7_2:R7 10 #[fF,fF,tT,fF,fF,fF,fF,fF,fF,fF,fF] [(40,.slice A8 p.fFuns.length c8),(2,.pointer (some ⟨b2,0,none⟩)),(4,.pointer (some ⟨b4,0,none⟩)),(5,.slice A8 p.fFuns.length c8),(6,.slice F8 p.fFuns.length e8)] [blk b2 29 (pcL p A0 c0 A1 c1),blk b4 32 [.int .i64 0,.int .i64 0,.int .i64 0]]:=by
  refine anPut hR7 (ZM (i:=0) (rs:=[3,9]) ZK ?_)
  refine ZA J ?_ ?_
  refine Zz (n:=0) (m:=0) J J J (Z7 ?_)
  exact anCov hR7 (an7_6 ) rfl cv Lh
  refine ZA J ?_ ?_
  refine Zo J (Z7 ?_)
  exact anCov hR7 (an7_9 ) rfl cv Lh
  refine ZA J ?_ ?_
  refine oAlloc J ZP (fun b9=>?_)
  refine Z7 ?_
  exact anCov hR7 (an7_10 b9) rfl cv Lh
  exact ZB
 have an7_3:R7 10 #[fF,fF,fF,tT,fF,fF,fF,fF,fF,fF,fF] [(41,.slice F8 p.fFuns.length e8),(2,.pointer (some ⟨b2,0,none⟩)),(4,.pointer (some ⟨b4,0,none⟩)),(5,.slice A8 p.fFuns.length c8),(6,.slice F8 p.fFuns.length e8)] [blk b2 29 (pcL p A0 c0 A1 c1),blk b4 32 [.int .i64 0,.int .i64 0,.int .i64 0]]:=by
  refine anPut hR7 (ZM (i:=0) (rs:=[2,9]) ZK ?_)
  refine ZA J ?_ ?_
  refine Zz (n:=0) (m:=0) J J J (Z7 ?_)
  exact anCov hR7 (an7_7 ) rfl cv Lh
  refine ZA J ?_ ?_
  refine Zo J (Z7 ?_)
  exact anCov hR7 (an7_9 ) rfl cv Lh
  refine ZA J ?_ ?_
  refine oAlloc J ZP (fun b9=>?_)
  refine Z7 ?_
  exact anCov hR7 (an7_11 b9) rfl cv Lh
  exact ZB
 have an7_1:R7 10 #[tT,fF,fF,fF,fF,fF,fF,fF,fF,fF,fF] [(38,.pointer (some ⟨b2,0,none⟩)),(2,.pointer (some ⟨b2,0,none⟩)),(4,.pointer (some ⟨b4,0,none⟩)),(5,.slice A8 p.fFuns.length c8),(6,.slice F8 p.fFuns.length e8)] [blk b2 29 (pcL p A0 c0 A1 c1),blk b4 32 [.int .i64 0,.int .i64 0,.int .i64 0]]:=by
  refine anPut hR7 (ZM (i:=1) (rs:=[2,3,9]) ZK ?_)
  refine ZA J ?_ ?_
  refine Zld ?_
  refine Z7 ?_
  exact anCov hR7 (an7_5 ) rfl cv Lh
  refine ZA J ?_ ?_
  refine Zo J (Z7 ?_)
  exact anCov hR7 (an7_6 ) rfl cv Lh
  refine ZA J ?_ ?_
  refine Zo J (Z7 ?_)
  exact anCov hR7 (an7_7 ) rfl cv Lh
  refine ZA J ?_ ?_
  refine oAlloc J ZP (fun b9=>?_)
  refine Z7 ?_
  exact anCov hR7 (an7_8 b9) rfl cv Lh
  exact ZB
 refine anPut hR7 (ZM (i:=0) (rs:=[2,3,9]) ZK ?_)
 refine ZA J ?_ ?_
 refine Zz (n:=0) (m:=0) J J J (Z7 ?_)
 exact anCov hR7 (an7_1 ) rfl cv Lh
 refine ZA J ?_ ?_
 refine Zo J (Z7 ?_)
 exact anCov hR7 (an7_2 ) rfl cv Lh
 refine ZA J ?_ ?_
 refine Zo J (Z7 ?_)
 exact anCov hR7 (an7_3 ) rfl cv Lh
 refine ZA J ?_ ?_
 refine oAlloc J ZP (fun b9=>?_)
 refine Z7 ?_
 exact anCov hR7 (an7_4 b9) rfl cv Lh
 exact ZB
 have hok:okN p free=true:=by first | exact decide_eq_true (Classical.not_not.1 h37) | simpa using h37
 have hdl:(dN p free).length=p.fFuns.length:=dN_len hok
 obtain ⟨d0e,hd0e⟩:∃ d,(dN p free)[e0]?=some d:=⟨_,List.getElem?_eq_getElem ZO⟩
 have hin:=dN_in p free e0
 rw [getD_at hd0e] at hin
 obtain ⟨e1,cs1,hE0⟩:=hD.elm hd0e
 obtain rfl:=(show cs1=[Value.int .i64 d0e] from hE0.K)
 have hdf:deepF p free p.fEntry=decide (56<1+d0e):=by rw [he0];exact deepF_at hd0e
 refine Zj (Za (Zh (Zh (Zi (Zo J (Zz (n:=2) (m:=2) J J J (Zld ?_)))))))
 refine ZS0 (t:=54) (v':=.int .i64 (e0:Int)) rfl (by rw [he0]) ?_
 refine oIdxE J J (hE0) ZO J J ?_
 have hc55:=(hE0).cell
 refine Zlx hc55 ?_
 first | refine oAdd rfl rfl ZO ?_ | refine oAddW rfl rfl ?_
 refine Z1 J J (Zn (Za (wC (fun h58=>?_) (fun h58=>?_))))
 refine Zh (Zi (oBuild (Parts.cons J (Parts.cons J (Parts.cons J Parts.nil))) J J (Built.cons (off:=0) (s:=1) J ZP J ZP (Built.cons (off:=1) (s:=1) J ZP J ZP (Built.cons (off:=2) (s:=1) J ZP J ZP Built.nil))) ?_))
 refine Zsa ?_
 refine Zn (Za (Zl (Zc (Zw (ZI ?_)))))
 exact ⟨(),trivial,by rw [chk_ent he1 he2 hok (by rw [hdf,decide_eq_true_eq];first | exact h58 | omega)];rfl,Lh⟩
 have hd:deepF p free p.fEntry=false:=by rw [hdf,decide_eq_false_iff_not];first | exact h58 | omega
 refine Zj (Zzk ?_)
 (refine ZC0 rfl ZK (fun w hS=>frame hS ZQ (fun B' hB hS'=>ref26_Called hS' p _ (gPg hB hp) hsm B.e)) ?_;rintro ⟨C8,d8⟩ -)
 refine Zp J (Zn (Za (wFreeze [row Kd.bool B.e 4 (.slice C8 p.fFuns.length d8) (calledL p)] ZQ (fun B2 hB2 hq2=>?_))))
 have hCl:=row_Cs (W:=B.e) (e:=4) (n:=p.fFuns.length) (cp:=d8) (xs:=calledL p) (hq2 _ _ ZP)
 have hG:=Kd.C_grow hB2 hG
 have hM:=Kd.C_grow hB2 hM
 have hD:=Kd.C_grow hB2 hD
 have g0:=Kd.C_grow hB2 g0
 refine Zh (Zh (Zi (Zp J (Zn (Za (Zk (wLoop (ι:=Nat) (fun i=>[(2,.pointer (some ⟨b2,0,none⟩)),(4,.pointer (some ⟨b4,0,none⟩)),(5,.slice A8 p.fFuns.length c8),(6,.slice F8 p.fFuns.length e8),(7,.slice A9 (dN p free).length c9),(10,.slice C8 p.fFuns.length d8),(11,.int .i64 (i:Int))]) (fun i=>[blk b2 29 (pcL p A0 c0 A1 c1),blk b4 32 [.int .i64 0,.int .i64 0,.int .i64 0]]) (fun i=>i≤p.fFuns.length∧∀ j,j<i→badF p free j=false) (fun i=>p.fFuns.length-i) 0 ?_ cv Lh ?_)))))))
 exact ⟨Nat.zero_le _,fun j hj=>by omega⟩
 rintro i ⟨hi,hs⟩
 try dsimp only
 refine Zh (Zh (Zi (Zo J (Zz (n:=0) (m:=0) J J J (Zld ?_)))))
 refine Zv J J (Zx J J (Zn (Za (wC (fun h66=>?_) (fun h66=>?_)))))
 obtain ⟨l,hl⟩:∃ l,(graphF p)[i]?=some l:=⟨_,List.getElem?_eq_getElem ZO⟩
 obtain ⟨e2,cs2,hEg⟩:=hG.elm hl
 obtain ⟨Al,cl,rfl,hll,hCr⟩:=hEg.K
 have hlb:=hCr.1
 obtain ⟨uc,huc⟩:∃ u,(calledL p)[i]?=some u:=⟨_,List.getElem?_eq_getElem ZO⟩
 obtain ⟨e3,cs3,hEc⟩:=hCl.elm huc
 obtain rfl:=(show cs3=[Value.bool uc] from hEc.K)
 obtain ⟨um,hum⟩:∃ u,(memF p free)[i]?=some u:=⟨_,List.getElem?_eq_getElem ZO⟩
 obtain ⟨e4,cs4,hEm⟩:=hM.elm hum
 obtain rfl:=(show cs4=[Value.bool um] from hEm.K)
 obtain ⟨f,hf⟩:∃ f,p.fFuns[i]?=some f:=⟨_,List.getElem?_eq_getElem ZO⟩
 obtain ⟨e1,cs1,hE⟩:=g0.elm hf
 have hEK:=hE.K
 obtain ⟨D0,d0,D1,d1,D2,d2,D3,d3,D4,d4,rfl,m0,q0,m1,q1,m2,q2,m3,q3,m4,q4⟩:=kApiFun_open hE.K
 refine Zj (Za (Zh (Zk (Zh (Zi (Zp J (Zn (Za (Zk (wLoop (ι:=Nat) (fun j=>[(2,.pointer (some ⟨b2,0,none⟩)),(4,.pointer (some ⟨b4,0,none⟩)),(5,.slice A8 p.fFuns.length c8),(6,.slice F8 p.fFuns.length e8),(7,.slice A9 (dN p free).length c9),(10,.slice C8 p.fFuns.length d8),(11,.int .i64 (i:Int)),(12,.int .i64 (j:Int))]) (fun j=>[blk b2 29 (pcL p A0 c0 A1 c1),blk b4 32 [.int .i64 0,.int .i64 0,.int .i64 0]]) (fun j=>j≤l.length∧∀ y ∈ l.take j,bdY p free i y=false) (fun j=>l.length-j) 0 ?_ cv Lh ?_))))))))))
 exact ⟨Nat.zero_le _,by simp⟩
 rintro j ⟨hj,hsj⟩
 try dsimp only
 refine Zh (Zh (Zi (Zo J (Zo J (Zo J (oIdxE J J (hEg) ZO J J ?_))))))
 have hc72:=(hEg).cell
 refine Zlx hc72 ?_
 refine Zv J J (Zx J J (Zn (Za (wC (fun h75=>?_) (fun h75=>?_)))))
 obtain ⟨y,hy⟩:∃ y,l[j]?=some y:=⟨_,List.getElem?_eq_getElem ZO⟩
 obtain ⟨e5,cs5,hEy⟩:=hCr.elm hy
 obtain rfl:=(show cs5=[Value.int .i64 y] from hEy.K)
 obtain ⟨yc,rfl,hyl⟩:=eg_in (p:=p) (i:=i) ZO (x:=y) (by rw [getD_at hl];exact List.mem_of_getElem? hy)
 obtain ⟨dy,hdy⟩:∃ d,(dN p free)[yc]?=some d:=⟨_,List.getElem?_eq_getElem ZO⟩
 have hiny:=dN_in p free yc
 rw [getD_at hdy] at hiny
 obtain ⟨e6,cs6,hEd⟩:=hD.elm hdy
 obtain rfl:=(show cs6=[Value.int .i64 dy] from hEd.K)
 have hdfy:=deepF_at hdy
 refine Zj (Za (Zh (Zk (Zh (Zi (Zo J (Zo J (oIdxE J J (hEc) ZO J J ?_))))))))
 have hc80:=(hEc).cell
 refine Zlx hc80 ?_
 refine Zo J (ZS (ZT 82) (fun h82=>?_) (fun h82=>?_))
 refine Zq J J (Zo J (Zq J J (Zo J (Zq J J (oIdxE J J (hEm) ZO J J ?_)))))
 have hc85:=(hEm).cell
 refine Zq J J (Zlx hc85 ?_)
 refine Zq J J (Zno ?_)
 refine Zt J J (Zo J (ZS (ZT 89) (fun h89=>?_) (fun h89=>?_)))
 refine Zq J J (Zo J (Zq J J (Zo J (Zq J J (Zo J (Zq J J (oIdxE J J (hEg) ZO J J ?_)))))))
 have hc93:=(hEg).cell
 refine Zq J J (Zlx hc93 ?_)
 refine Zq J J (Zo J (Zq J J (oIdxE J J (hEy) ZO J J ?_)))
 have hc96:=(hEy).cell
 refine Zq J J (Zlx hc96 ?_)
 refine Zq J J (oIdxE J J (hEd) ZO J J ?_)
 have hc98:=(hEd).cell
 refine Zq J J (Zlx hc98 ?_)
 refine Zq J J ?_
 first | refine oAdd rfl rfl ZO ?_ | refine oAddW rfl rfl ?_
 refine Zq J J (Z1 J J (Zt J J (Zn (Za (wC (fun h102=>?_) (fun h102=>?_))))))
 refine Zh (wDrawG J [0,1,2,3,4,5,6,7,8,9,10,11,12] [] [13] 24 ZK J J (fun w0=>?_))
 refine Zz (n:=0) (m:=0) J J J (Zld ?_)
 refine Zo J (oIdxE J J (hE) ZO J J ?_)
 have hc106:=(hE).cell
 refine ZF (ZT 0) (ZT 0) ?_
 refine Zlx hc106 ?_
 refine Zz (n:=0) (m:=0) J J J (Zld ?_)
 refine Zo J (oIdxE J J (hE) ZO J J ?_)
 have hc112:=(hE).cell
 refine ZF (ZT 1) (ZT 1) ?_
 refine Zlx hc112 ?_
 refine oBuild (Parts.cons J (Parts.cons J (Parts.cons J Parts.nil))) J J (Built.cons (off:=0) (s:=1) J ZP J ZP (Built.cons (off:=1) (s:=1) J ZP J ZP (Built.cons (off:=2) (s:=1) J ZP J ZP Built.nil))) ?_
 refine Z6 (Zsa ?_)
 refine Zn (Za (Zl (Zf (Zc (Zc (Zf (Zf (Zc (Zc (Zf (Zc (Zw (ZI ?_)))))))))))))
 exact ⟨(),trivial,by rw [chk_bad he1 he2 hok hd (bad_4 hl (by rw [huc];congr 1) (by rw [hum];congr 1;simpa using h89) (List.mem_of_getElem? hy) (by rw [hdfy,decide_eq_true_eq];first | exact h102 | omega)) hs hf];rfl,Lh⟩
 have hby:bdY p free i (yc:Int)=false:=by unfold bdY;rw [hdfy,decide_eq_false (by first | exact h102 | omega)];simp
 refine Zj (Zzd ?_)
 refine Zp J (Zn (Za ?_))
 exact ⟨rfl,j+1,⟨by omega,take_not hsj hy hby⟩,by omega,cv,Lh⟩
 have hby:bdY p free i (yc:Int)=false:=by unfold bdY;rw [getD_at hum,show um=true by simpa using h89];simp
 refine Zr J J J J (Zr J J J J (Zr J J J J (Zr J J J J (Zr J J J J (Zr J J J J (Zr J J J J (Zr J J J J (Zr J J J J (Zr J J J J (Zr J J J J (Zr J J J J (Zu J J (Zn (Za (wCondF J (Zj (Zzd ?_)))))))))))))))))
 refine Zp J (Zn (Za ?_))
 exact ⟨rfl,j+1,⟨by omega,take_not hsj hy hby⟩,by omega,cv,Lh⟩
 have hby:bdY p free i (yc:Int)=false:=by unfold bdY;rw [getD_at huc,show uc=false from h82];simp
 refine Zr J J J J (Zr J J J J (Zr J J J J (Zr J J J J (Zr J J J J (Zu J J (Zo J (Zr J J J J (Zr J J J J (Zr J J J J (Zr J J J J (Zr J J J J (Zr J J J J (Zr J J J J (Zr J J J J (Zr J J J J (Zr J J J J (Zr J J J J (Zr J J J J (Zu J J (Zn (Za (wCondF J (Zj (Zzd ?_))))))))))))))))))))))))
 refine Zp J (Zn (Za ?_))
 exact ⟨rfl,j+1,⟨by omega,take_not hsj hy hby⟩,by omega,cv,Lh⟩
 obtain rfl:j=l.length:=by omega
 rw [List.take_length] at hsj
 have hbf:badF p free i=false:=bad_5 hl hsj
 refine Zm (Zb (Zb (Ze (Zzd ?_))))
 refine Zp J (Zn (Za ?_))
 exact ⟨rfl,i+1,⟨by omega,fun j hj=>by rcases Nat.lt_succ_iff_lt_or_eq.1 hj with h | rfl;exact hs j h;exact hbf⟩,by omega,cv,Lh⟩
 obtain rfl:i=p.fFuns.length:=by omega
 refine Zm (Zb (Zb (Ze (Za (Zh (Zi (oBuild Parts.nil J J Built.nil (Zsa ?_))))))))
 refine Zn (Za (Zl (Zw (ZI ?_))))
 exact ⟨(),trivial,by rw [chk_fine he1 he2 hok hd hs];rfl,Lh⟩
end Go.Proofs.YtogaiijhicfoaaaGreatY
