/-
  Part 6 of the proof of ChainTells: contracts of functions, and what follows from them; without conditions.
-/
import Derived.Test.YtogaiijhicfoaaaGreatChainTells5
import Derived.Laws.StructEq
set_option linter.unusedVariables false
set_option linter.unusedSimpArgs false
set_option linter.defProp false
namespace Go.Proofs.YtogaiijhicfoaaaGreatY
set_option maxRecDepth 100000
set_option maxHeartbeats 4000000
open Go.RowKit Go.Proofs.YtogaiijhicfoaaaGreatK Go.Proofs.YtogaiijhicfoaaaGreatT Go.Proofs.YtogaiijhicfoaaaGreatL Go.Proofs.YtogaiijhicfoaaaGreatV Go.Proofs.YtogaiijhicfoaaaGreatG Go.Proofs.YtogaiijhicfoaaaGreatW Go.Proofs.YtogaiijhicfoaaaGreatU

section
variable {c : Cx} {M : Md c} {d : Nat} {ty : TypeId} {pos : String} {af : Array Edge} {rest : List Oper} {E : Env} {D : List Deferred} {H : List Res} {x y : Operand} {t t' : TypeId}
theorem oBinV {op:BinOp}{u v r:Value}(hx:E.op x=some u) (hy:E.op y=some v) (hg:∀ w,(eqGuard op t x y u v).run c.P w=.ok () w) (hr:∀ w,(binOp op t u v).run c.P w=.ok r w) (h:O M rest ((d,r) :: E) D H) (hN:Nat.blt d c.N=true:=by rfl) :
 O M (⟨some d,.binOp op t x y t',ty,pos,af,none⟩ :: rest) E D H:=
 oC _ rfl hN (fun a w ha hw=>by simp only [execOp,ha.op hx,ha.op hy,Sem.run_bind,hg,Result.andThen_ok,hr,Sem.run_pure]) h
end
theorem rej_neq (r q:Int×Int×Int) (w:World):(binOp .neq 32 (.agg (rejL r).toArray) (.agg (rejL q).toArray)).run Tryz.prog w=.ok (.bool (decide (¬ r=q))) w:=by
 obtain ⟨a,b,c⟩:=r
 obtain ⟨d,e,f⟩:=q
 simp [go_sem,binOp,Op.equal,Op.maxDepth]
 by_cases h1:a=d
 · subst h1
   by_cases h2:b=e
   · subst h2
     by_cases h3:c=f
     · subst h3;simp
     · simp [h3]
   · simp [h2]
 · simp [h1]
theorem rej_eql (r q:Int×Int×Int) (w:World):(binOp .eql 32 (.agg (rejL r).toArray) (.agg (rejL q).toArray)).run Tryz.prog w=.ok (.bool (decide (r=q))) w:=by
 obtain ⟨a,b,c⟩:=r
 obtain ⟨d,e,f⟩:=q
 simp [go_sem,binOp,Op.equal,Op.maxDepth]
 by_cases h1:a=d
 · subst h1
   by_cases h2:b=e
   · subst h2
     by_cases h3:c=f
     · subst h3;simp
     · simp [h3]
   · simp [h2]
 · simp [h1]
theorem find_non {P:Nat→Bool}{n:Nat}(h:∀ i,i<n→P i=false):(List.range n).find? P=none:=List.find?_eq_none.2 (fun i hi=>by rw [h i (List.mem_range.1 hi)];simp)
theorem find_one {P:Nat→Bool}{i:Nat}(h:P i=true) (hs:∀ j,j<i→P j=false):∀ n,i<n→(List.range n).find? P=some i
 | 0,hi=>by omega
 | n+1,hi=>by
  rw [List.range_succ,List.find?_append]
  by_cases e:i=n
  · subst e;rw [find_non hs,Option.none_or,List.find?_cons,h]
  · rw [find_one h hs n ZO,Option.some_or]
theorem plc_at {p:ApiProgram}{e:Int}{i:Nat}{f:ApiFun}(h:p.fFuns[i]?=some f):plcF p e i=(e,f.fFile,f.fItem):=by unfold plcF;rw [List.getD_eq_getElem?_getD,h];rfl
section
variable {p : ApiProgram} {free : List Bool}
theorem chk_arg (h:p.fEntry<0∨(p.fFuns.length:Int)≤p.fEntry):checkN p free=(2,-1,-1):=by unfold checkN;rw [if_neg ZO]
theorem chk_cyc (h1:¬ p.fEntry<0) (h2:¬ (p.fFuns.length:Int)≤p.fEntry) (hok:okN p free=false) {i:Nat}{f:ApiFun}(hx:(onL (graphF p) (memF p free))[0]?=some (i:Int)) (hf:p.fFuns[i]?=some f):checkN p free=(17,f.fFile,f.fItem):=by
 unfold checkN
 rw [if_pos ⟨by omega,by omega⟩,if_neg (by rw [hok];simp),List.getD_eq_getElem?_getD,hx]
 exact plc_at hf
theorem chk_ent (h1:¬ p.fEntry<0) (h2:¬ (p.fFuns.length:Int)≤p.fEntry) (hok:okN p free=true) (hd:deepF p free p.fEntry=true):checkN p free=(18,-1,-1):=by
 unfold checkN
 rw [if_pos ⟨by omega,by omega⟩,if_pos hok,if_pos hd]
theorem chk_bad (h1:¬ p.fEntry<0) (h2:¬ (p.fFuns.length:Int)≤p.fEntry) (hok:okN p free=true) (hd:deepF p free p.fEntry=false) {i:Nat}{f:ApiFun}(hb:badF p free i=true) (hs:∀ j,j<i→badF p free j=false) (hf:p.fFuns[i]?=some f):checkN p free=(18,f.fFile,f.fItem):=by
 have hi:=(List.getElem?_eq_some_iff.1 hf).1
 unfold checkN
 rw [if_pos ⟨by omega,by omega⟩,if_pos hok,if_neg (by rw [hd];simp),find_one hb hs _ hi]
 exact plc_at hf
theorem chk_fine (h1:¬ p.fEntry<0) (h2:¬ (p.fFuns.length:Int)≤p.fEntry) (hok:okN p free=true) (hd:deepF p free p.fEntry=false) (hs:∀ j,j<p.fFuns.length→badF p free j=false):checkN p free=(0,0,0):=by
 unfold checkN
 rw [if_pos ⟨by omega,by omega⟩,if_pos hok,if_neg (by rw [hd];simp),find_non hs]
theorem on_head (hok:okN p free=false):∃ c:Nat,(onL (graphF p) (memF p free))[0]?=some (c:Int)∧c<p.fFuns.length:=by
 cases he:onL (graphF p) (memF p free) with
 | nil=>have:=on_nil.1 he;unfold okN at hok;rw [this] at hok;cases hok
 | cons x l=>
  obtain ⟨c,rfl,hp⟩:=on_mem.1 (show x ∈ onL (graphF p) (memF p free) by rw [he];exact List.mem_cons_self)
  refine ⟨c,rfl,?_⟩
  rw [← Go.Proofs.YtogaiijhicfoaaaGreatU.graphF_len]
  cases hp with
  | one h=>exact (edE_iff.1 h).1
  | snoc _ h=>exact (edE_iff.1 h).2.1
theorem deepF_at {x:Nat}{d:Int}(h:(dN p free)[x]?=some d):deepF p free (x:Int)=decide (56<1+d):=by unfold deepF;rw [Int.toNat_natCast,getD_at h]
theorem bad_1 {i:Nat}{l:List Int}(h:(calledL p)[i]?=some false):badF p free i=false:=by unfold badF;rw [getD_at h];simp
theorem bad_2 {i:Nat}(h:(memF p free)[i]?=some true):badF p free i=false:=by unfold badF;rw [getD_at h];simp
theorem bad_3 {i:Nat}{l:List Int}(hl:(graphF p)[i]?=some l) (h:∀ y ∈ l,deepF p free y=false):badF p free i=false:=by
 unfold badF
 rw [getD_at hl,List.any_eq_false.2 (fun y hy=>by rw [h y hy];simp)];simp
theorem bad_4 {i:Nat}{l:List Int}{y:Int}(hl:(graphF p)[i]?=some l) (h1:(calledL p)[i]?=some true) (h2:(memF p free)[i]?=some false) (hy:y ∈ l) (h:deepF p free y=true):badF p free i=true:=by
 unfold badF
 rw [getD_at hl,getD_at h1,getD_at h2,List.any_eq_true.2 ⟨y,hy,h⟩];rfl
noncomputable def bdY (p:ApiProgram) (free:List Bool) (i:Nat) (y:Int):Bool:=(calledL p).getD i false && !(memF p free).getD i false && deepF p free y
theorem bad_5 {i:Nat}{l:List Int}(hl:(graphF p)[i]?=some l) (h:∀ y ∈ l,bdY p free i y=false):badF p free i=false:=by
 cases hb:badF p free i with
 | false=>rfl
 | true=>
  unfold badF at hb
  rw [getD_at hl,Bool.and_eq_true,List.any_eq_true] at hb
  obtain ⟨h1,y,hy,h2⟩:=hb
  have:=h y hy
  unfold bdY at this
  rw [h1,h2] at this;cases this
end
theorem onPP {B:Base}{w:World}(hS:St B [] w) {p:ApiProgram}(hsm:SmallP p) (free:List Bool) (A:Option Addr) (cp:Nat) (hC:(Kd.slice (Kd.int .i64)).C B.e A (graphF p)) (A1:Option Addr) (cp1:Nat) (hC1:Kd.bool.C B.e A1 (memF p free)) (W0:World) :
 CW 104 #[.slice A p.fFuns.length cp,.slice A1 p.fFuns.length cp1] w (Ret B (fun _:Option Addr×Nat=>True) (fun z=>.slice z.1 (onL (graphF p) (memF p free)).length z.2) (fun z=>[row (Kd.int .i64) W0 3 (.slice z.1 (onL (graphF p) (memF p free)).length z.2) (onL (graphF p) (memF p free))])):=by
 have hn:=hsm.funs
 have h:=on_any hS (graphF p) A cp hC (grG_small hsm) (memF p free) A1 cp1 hC1 (by rw [memF_len];omega) W0
 rw [Go.Proofs.YtogaiijhicfoaaaGreatU.graphF_len,memF_len] at h
 exact h
theorem onRR {B:Base}{w:World}(hS:St B [] w) {p:ApiProgram}(hsm:SmallP p) (free:List Bool) (A:Option Addr) (cp:Nat) (hC:(Kd.slice (Kd.int .i64)).C B.e A (graphF p)) (A1:Option Addr) (cp1:Nat) (hC1:Kd.bool.C B.e A1 (memF p free)) (W0:World) :
 CW 106 #[.slice A p.fFuns.length cp,.slice A1 p.fFuns.length cp1] w (Ret B (fun _:Option Addr×Nat=>True) (fun z=>.slice z.1 (onL (graphF p) (memF p free)).length z.2) (fun z=>[row (Kd.int .i64) W0 3 (.slice z.1 (onL (graphF p) (memF p free)).length z.2) (onL (graphF p) (memF p free))])):=by
 have h:=refOn hS (graphF p) A cp hC (grG_small hsm) (memF p free) A1 cp1 hC1 W0
 rw [Go.Proofs.YtogaiijhicfoaaaGreatU.graphF_len,memF_len] at h
 exact h
theorem onRRh {B:Base}{w:World}(hS:St B [] w) {p:ApiProgram}(hsm:SmallP p) (free:List Bool) (A:Option Addr) (cp:Nat) (hC:(Kd.slice (Kd.int .i64)).C B.e A (graphF p)) (A1:Option Addr) (cp1:Nat) (hC1:Kd.bool.C B.e A1 (memF p free)) (hne:onL (graphF p) (memF p free)≠[]) (W0:World) :
 CW 106 #[.slice A p.fFuns.length cp,.slice A1 p.fFuns.length cp1] w (Ret B (fun _:Nat×Nat=>True) (fun z=>.slice (some ⟨z.1,0,none⟩) (onL (graphF p) (memF p free)).length z.2) (fun z=>[row (Kd.int .i64) W0 3 (.slice (some ⟨z.1,0,none⟩) (onL (graphF p) (memF p free)).length z.2) (onL (graphF p) (memF p free))])):=
 (onRR hS hsm free A cp hC A1 cp1 hC1 W0).mono (fun e w' ⟨⟨A3,c3⟩,h1,h2,h3⟩=>by
  have hq:=h3.get .here
  have hA:∃ g,A3=some ⟨g,0,none⟩:=by
   obtain ⟨cs,ho,hr⟩:=hq
   exact (row_C (kd:=Kd.int .i64) (W:=w') (e:=3) (A:=A3) (n:=(onL (graphF p) (memF p free)).length) (cp:=c3) (xs:=onL (graphF p) (memF p free)) (w:=w') ⟨cs,ho,cat_scalar.2 (cat_scalar.1 hr)⟩ (Grow.refl _)).2.2.2 (List.length_pos_iff.2 hne)
  obtain ⟨g,rfl⟩:=hA
  exact ⟨(g,c3),trivial,h2,h3⟩)
theorem check1 {B:Base}{w:World}{p:ApiProgram}{free:List Bool}(b6:Nat) (A9:Option Addr) (c9:Nat) (hS:St B [blk b6 42 [.slice A9 (dN p free).length c9]] w) (hC:(Kd.int .i64).C B.e A9 (dN p free)) (hl:(dN p free).length≤24) (x:Nat) (hx:x<(dN p free).length) :
 CW 105 #[.int .i64 (x:Int),.pointer (some ⟨b6,0,none⟩)] w (Ret B (fun _:Unit=>True) (fun _=>.bool (deepF p free (x:Int))) (fun _=>[blk b6 42 [.slice A9 (dN p free).length c9]])):=by
 obtain ⟨d,hd⟩:∃ d,(dN p free)[x]?=some d:=⟨_,List.getElem?_eq_getElem hx⟩
 have hin:=dN_in p free x
 rw [getD_at hd] at hin
 obtain ⟨e1,cs1,hE⟩:=hC.elm hd
 obtain rfl:=(show cs1=[Value.int .i64 d] from hE.K)
 rw [deepF_at hd]
 refine ZX Tryz.func105 hS ?_
 refine Zh (Zi (Zp J (Zn (Za (Zh (Zi (Zld ?_)))))))
 refine Zo J (oIdxE J J (hE) ZO J J ?_)
 have hc6:=(hE).cell
 refine Zlx hc6 ?_
 first | refine oAdd rfl rfl ZO ?_ | refine oAddW rfl rfl ?_
 refine Z1 J J (Zza ?_)
 exact ⟨(),trivial,rfl,Lh⟩
theorem chain_Check {B:Base}{w:World}(hS:St B [] w) (p:ApiProgram) (pc:List Value) (hp:kApiProgram.K B.e p pc) (hsm:SmallP p) (free:List Bool) (A':Option Addr) (c':Nat) (hF:Kd.bool.C B.e A' free) :
 CW 44 #[.agg pc.toArray,.slice A' free.length c'] w (Ret B (fun _:Unit=>True) (fun _=>.agg (rejL (checkN p free)).toArray) (fun _=>[])):=by
 obtain ⟨A0,c0,A1,c1,rfl,l0,g0,l1,g1⟩:=kApiProgram_open hp
 have hn:=hsm.funs
 have hcl:=calledL_len p
 have hml:=memF_len p free
 have hgl:=Go.Proofs.YtogaiijhicfoaaaGreatU.graphF_len p
 refine ZX Tryz.func44 hS ?_
 refine Zh (Zi (oBox J ZP (fun b2=>?_)))
 refine oAlloc J ZP (fun b4=>?_)
 refine Zn (Za (Zh (Zh (Zi (Zz (n:=2) (m:=2) J J J (Zld ?_))))))
 refine Zx J J (Zo J (ZS (ZT 16) (fun h16=>?_) (fun h16=>?_)))
 refine Zr J J J J (Zr J J J J (Zr J J J J (Zr J J J J (Zr J J J J (Zr J J J J (Zt J J (Zn (Za (wCondT J (Zh (Zi ?_)))))))))))
 (refine ZC0 rfl ZK (fun w hS=>frame hS ZQ (fun B' hB hS'=>chain_nowhere hS' 2)) ?_;rintro ⟨⟩ -)
 refine Zsa ?_
 refine Zn (Za (Zl (Zc (Zw (ZI ?_)))))
 exact ⟨(),trivial,by rw [chk_arg (.inl (by first | exact h16 | simpa using h16))];rfl,Lh⟩
 refine Zq J J (Zz (n:=2) (m:=2) J J J (Zzg ?_))
 refine Zq J J (Zz (n:=0) (m:=0) J J J (Zzg ?_))
 refine Zq J J (Zv J J (Zq J J (Z2 J J (Zu J J (Zn (Za (wC (fun h23=>?_) (fun h23=>?_))))))))
 refine Zh (Zi ?_)
 (refine ZC0 rfl ZK (fun w hS=>frame hS ZQ (fun B' hB hS'=>chain_nowhere hS' 2)) ?_;rintro ⟨⟩ -)
 refine Zsa ?_
 refine Zn (Za (Zl (Zc (Zw (ZI ?_)))))
 exact ⟨(),trivial,by rw [chk_arg (.inr (by first | exact h23 | simpa using h23))];rfl,Lh⟩
 have he1:¬ p.fEntry<0:=by first | exact h16 | simpa using h16
 have he2:¬ (p.fFuns.length:Int)≤p.fEntry:=by first | exact h23 | simpa using h23
 obtain ⟨e0,he0⟩:=Int.eq_ofNat_of_zero_le (show 0≤p.fEntry by omega)
 refine Zj (Zzm ?_)
 refine Zo J ?_
 (refine ZC0 rfl ZK (fun w hS=>frame hS ZQ (fun B' hB hS'=>chain_look hS' p _ (gPg hB hp) hsm free A' c' (Kd.C_grow hB hF) B.e)) ?_;rintro ⟨b8,⟨A8,c8,hs8⟩,⟨C8,d8⟩,⟨F8,e8⟩,⟨R8,k8⟩⟩ hl8)
 dsimp only at hl8 ⊢
 refine Zp J (Zn (Za (wFreeze [row kHdr B.e 42 (.slice A8 p.fFuns.length c8) hs8,bun (rws (Kd.int .i64) B.e 3 hs8 (graphF p)),row Kd.bool B.e 4 (.slice C8 p.fFuns.length d8) (calledL p),row Kd.bool B.e 4 (.slice F8 p.fFuns.length e8) (memF p free),row (Kd.int .i64) B.e 3 (.slice R8 p.fFuns.length k8) (frmL p)] ZQ (fun B1 hB1 hq1=>?_))))
 have hG:=grid_C (hq1 _ _ ZP) (hq1 _ _ ZP) (by rw [hl8,hgl]) hB1
 have hCl:=row_Cs (W:=B.e) (e:=4) (n:=p.fFuns.length) (cp:=d8) (xs:=calledL p) (hq1 _ _ ZP)
 have hM:=row_Cs (W:=B.e) (e:=4) (n:=p.fFuns.length) (cp:=e8) (xs:=memF p free) (hq1 _ _ ZP)
 have hO:=row_Cs (W:=B.e) (e:=3) (n:=p.fFuns.length) (cp:=k8) (xs:=frmL p) (hq1 _ _ ZP)
 have hp:=kApiProgram.K_grow hB1 hp
 have g0:=Kd.C_grow hB1 g0
 refine Zh (Zi (Zo J ?_))
 (refine ZC0 rfl ZK (fun w hS=>frame hS ZQ (fun B' hB hS'=>view_needs hS' hsm free (Kd.C_grow hB hG) (Kd.C_grow hB hM) (Kd.C_grow hB hO) B.e)) ?_;rintro ⟨A9,c9⟩ -)
 refine Zo J (oExt J ZP ?_)
 refine oExt J ZP ?_
 refine oAlloc J ZP (fun b6=>?_)
 refine Zst ?_
 refine Zp J (Zn (Za (Zh (Zh (Zi (Zo J (Zno ?_)))))))
 refine Zn (Za (wC (fun h34=>?_) (fun h34=>?_)))
 have hok:okN p free=false:=by first | exact decide_eq_false h34 | simpa using h34
 obtain ⟨c47,hc47,hl47⟩:=on_head hok
 obtain ⟨f,hf⟩:∃ f,p.fFuns[c47]?=some f:=⟨_,List.getElem?_eq_getElem ZO⟩
 obtain ⟨e1,cs1,hE⟩:=g0.elm hf
 have hEK:=hE.K
 obtain ⟨D0,d0,D1,d1,D2,d2,D3,d3,D4,d4,rfl,m0,q0,m1,q1,m2,q2,m3,q3,m4,q4⟩:=kApiFun_open hE.K
 refine Zh (wDrawG J [0,1,2,3,4,5,6,7,8,9] [(10,[0,1],[11,12,13,14]),(15,[],[])] [16] 24 ZK J J (fun w0=>?_))
 refine Zz (n:=0) (m:=0) J J J (Zld ?_)
 refine Zo J (Z3 J (Zz (n:=0) (m:=0) J J J (Zld ?_)))
 refine Zo J (Z3 J (Zz (n:=2) (m:=2) J J J (Zld ?_)))
 refine Z4 (Z5 J ?_)
 (refine ZC0 rfl ZK (fun w hS=>frame hS ZQ (fun B' hB hS'=>onPP hS' hsm free A8 c8 (Kd.C_grow hB hG) F8 e8 (Kd.C_grow hB hM) B.e)) ?_;rintro ⟨A45,c45⟩ -)
 refine ZG ?_ J (fun w0=>?_)
 refine Z8 J J J J (fun w0=>?_) ?_
 refine Zz (n:=0) (m:=0) J J J ?_
 exact Z9 rfl
 refine Z8 J J J J (fun w0=>?_) ?_
 refine Zld ?_
 exact Z9 rfl
 exact AgainG.nil
 refine ZR (i:=0) J J ZP (by have:=(List.getElem?_eq_some_iff.1 hc47).1;exact this) J J (fun g46 hg46=>?_)
 subst hg46
 refine ZR1 (i:=0) J ZP (by have:=(List.getElem?_eq_some_iff.1 hc47).1;exact this) J (fun u47 hu47=>?_)
 obtain rfl:u47=(c47:Int):=Option.some.inj (hu47.symm.trans hc47)
 refine oIdxE J J (hE) ZO J J ?_
 have hc48:=(hE).cell
 refine Zlx hc48 ?_
 refine Z4 (Z5 J ?_)
 (refine ZC0 rfl ZK (fun w hS=>frame hS ZQ (fun B' hB hS'=>chain_at hS' 17 f _ (kApiFun.K_grow hB hEK))) ?_;rintro ⟨⟩ -)
 refine ZG ?_ J (fun w0=>?_)
 exact AgainG.nil
 refine Z6 (Zsa ?_)
 refine Zn (Za (Zl (Zc (Zw (ZI ?_)))))
 exact ⟨(),trivial,by rw [chk_cyc he1 he2 hok hc47 hf];rfl,Lh⟩
 have hok:okN p free=true:=by first | exact decide_eq_true (Classical.not_not.1 h34) | simpa using h34
 have hdl:(dN p free).length=p.fFuns.length:=dN_len hok
 refine Zj (Za (Zh (Zi (oMakeFunc J (Zp J (Zn (Za (Zh (Zh (Zi (Zo J (Zz (n:=2) (m:=2) J J J (Zld ?_)))))))))))))
 refine ZS0 (t:=54) (v':=.int .i64 (e0:Int)) rfl (by rw [he0]) ?_
 (refine oCallV rfl rfl rfl ZK (fun w hS=>frame' hS (Ψ:=[blk b6 42 [.slice A9 (dN p free).length c9]]) ZQ (fun B' hB hR hS'=>check1 b6 A9 c9 hS' (row_Cs (W:=B.e) (e:=3) (n:=(dN p free).length) (cp:=c9) (hR _ _ ZP)) ZO e0 ZO)) ?_;rintro ⟨⟩ -)
 rw [← he0]
 refine Zn (Za (wC (fun h55=>?_) (fun h55=>?_)))
 refine Zh (Zi ?_)
 (refine ZC0 rfl ZK (fun w hS=>frame hS ZQ (fun B' hB hS'=>chain_nowhere hS' 18)) ?_;rintro ⟨⟩ -)
 refine Zsa ?_
 refine Zn (Za (Zl (Zc (Zw (ZI ?_)))))
 exact ⟨(),trivial,by rw [chk_ent he1 he2 hok (by first | exact h55 | exact decide_eq_true h55)];rfl,Lh⟩
 have hd55:deepF p free p.fEntry=false:=by first | exact h55 | exact decide_eq_false h55
 refine Zj (Za (Zh (Zh (Zi (Zo J (Z3 J (Zz (n:=0) (m:=0) J J J (Zld ?_))))))))
 refine Zv J J (Zo J (Zn (Za (Zk (wLoop (ι:=Nat) (fun i=>[(2,.pointer (some ⟨b2,0,none⟩)),(4,.pointer (some ⟨b4,0,none⟩)),(5,.pointer (some ⟨b8,0,none⟩)),(8,.func (.func 105) #[] #[.pointer (some ⟨b6,0,none⟩)]),(60,.slice A8 p.fFuns.length c8),(61,.int .i64 (p.fFuns.length:Int)),(62,.int .i64 (i:Int))]) (fun i=>[blk b2 29 (pcL p A0 c0 A1 c1),blk b4 32 [.int .i64 0,.int .i64 0,.int .i64 0],blk b8 123 [.slice A8 p.fFuns.length c8,.slice C8 p.fFuns.length d8,.slice F8 p.fFuns.length e8,.slice R8 p.fFuns.length k8],blk b6 42 [.slice A9 (dN p free).length c9],row (Kd.int .i64) B.e 3 (.slice A9 (dN p free).length c9) (dN p free)]) (fun i=>i≤p.fFuns.length∧∀ j,j<i→badF p free j=false) (fun i=>p.fFuns.length-i) 0 ?_ cv Lh ?_)))))
 exact ⟨Nat.zero_le _,fun j hj=>by omega⟩
 rintro i ⟨hi,hs⟩
 try dsimp only
 refine Zh (Zi (Zx J J (Zn (Za (Zh (wC (fun h63=>?_) (fun h63=>?_)))))))
 obtain ⟨l,hl⟩:∃ l,(graphF p)[i]?=some l:=⟨_,List.getElem?_eq_getElem ZO⟩
 obtain ⟨e2,cs2,hEg⟩:=hG.elm hl
 obtain ⟨Al,cl,rfl,hll,hCr⟩:=hEg.K
 have hlb:=hCr.1
 obtain ⟨uc,huc⟩:∃ u,(calledL p)[i]?=some u:=⟨_,List.getElem?_eq_getElem ZO⟩
 obtain ⟨e3,cs3,hEc⟩:=hCl.elm huc
 obtain rfl:=(show cs3=[Value.bool uc] from hEc.K)
 obtain ⟨um,hum⟩:∃ u,(memF p free)[i]?=some u:=⟨_,List.getElem?_eq_getElem ZO⟩
 obtain ⟨e4,cs4,hEm⟩:=hM.elm hum
 obtain rfl:=(show cs4=[Value.bool um] from hEm.K)
 obtain ⟨f,hf⟩:∃ f,p.fFuns[i]?=some f:=⟨_,List.getElem?_eq_getElem ZO⟩
 obtain ⟨e1,cs1,hE⟩:=g0.elm hf
 have hEK:=hE.K
 obtain ⟨D0,d0,D1,d1,D2,d2,D3,d3,D4,d4,rfl,m0,q0,m1,q1,m2,q2,m3,q3,m4,q4⟩:=kApiFun_open hE.K
 refine Zj (Za (Zh (Zk (Zh (Zi (Zo J (oIdxE J J (hEg) ZO J J ?_)))))))
 have hc65:=(hEg).cell
 refine Zlx hc65 ?_
 refine Zp J (Zp J (Zn (Za (Zh (Zh (Zi (Zo J (Z3 J (Zz (n:=1) (m:=1) J J J (Zld ?_))))))))))
 refine Zo J (oIdxE J J (hEc) ZO J J ?_)
 have hc72:=(hEc).cell
 refine Zlx hc72 ?_
 refine Zno ?_
 refine Zo J (ZS (ZT 75) (fun h75=>?_) (fun h75=>?_))
 have hbf:badF p free i=false:=bad_1 (l:=l) (by rw [huc];congr 1;simpa using h75)
 refine Zr J J J J (Zr J J J J (Zr J J J J (Zr J J J J (Zr J J J J (Zr J J J J (Zr J J J J (Zt J J (Zn (Za (wCondT J (Zm (Zb (Ze (Za (Zi (Zsu ?_))))))))))))))))
 refine Zo J (Zn (Za ?_))
 exact ⟨rfl,i+1,⟨by omega,fun j hj=>by rcases Nat.lt_succ_iff_lt_or_eq.1 hj with h | rfl;exact hs j h;exact hbf⟩,by omega,cv,Lh⟩
 refine Zq J J (Zo J (Zq J J (Z3 J (Zq J J (Zz (n:=2) (m:=2) J J J (Zzg ?_))))))
 refine Zq J J (Zo J (Zq J J (oIdxE J J (hEm) ZO J J ?_)))
 have hc81:=(hEm).cell
 refine Zq J J (Zlx hc81 ?_)
 refine Zu J J (Zn (Za (wC (fun h83=>?_) (fun h83=>?_))))
 have hbf:badF p free i=false:=bad_2 (by rw [hum];congr 1)
 refine Zm (Zb (Ze (Za (Zi (Zsu ?_)))))
 refine Zo J (Zn (Za ?_))
 exact ⟨rfl,i+1,⟨by omega,fun j hj=>by rcases Nat.lt_succ_iff_lt_or_eq.1 hj with h | rfl;exact hs j h;exact hbf⟩,by omega,cv,Lh⟩
 refine Zj (Za (Zh (Zi (Zo J (Zv J J (Zo J (Zn (Za (Zk (wLoop (ι:=Nat) (fun j=>[(2,.pointer (some ⟨b2,0,none⟩)),(4,.pointer (some ⟨b4,0,none⟩)),(5,.pointer (some ⟨b8,0,none⟩)),(8,.func (.func 105) #[] #[.pointer (some ⟨b6,0,none⟩)]),(9,.int .i64 (i:Int)),(60,.slice A8 p.fFuns.length c8),(61,.int .i64 (p.fFuns.length:Int)),(62,.int .i64 (i:Int)),(84,.slice Al l.length cl),(85,.int .i64 (l.length:Int)),(86,.int .i64 (j:Int))]) (fun j=>[blk b2 29 (pcL p A0 c0 A1 c1),blk b4 32 [.int .i64 0,.int .i64 0,.int .i64 0],blk b8 123 [.slice A8 p.fFuns.length c8,.slice C8 p.fFuns.length d8,.slice F8 p.fFuns.length e8,.slice R8 p.fFuns.length k8],blk b6 42 [.slice A9 (dN p free).length c9],row (Kd.int .i64) B.e 3 (.slice A9 (dN p free).length c9) (dN p free)]) (fun j=>j≤l.length∧∀ y ∈ l.take j,deepF p free y=false) (fun j=>l.length-j) 0 ?_ cv Lh ?_))))))))))
 exact ⟨Nat.zero_le _,by simp⟩
 rintro j ⟨hj,hsj⟩
 try dsimp only
 refine Zh (Zi (Zx J J (Zn (Za (Zh (wC (fun h87=>?_) (fun h87=>?_)))))))
 obtain ⟨y,hy⟩:∃ y,l[j]?=some y:=⟨_,List.getElem?_eq_getElem ZO⟩
 obtain ⟨e5,cs5,hEy⟩:=hCr.elm hy
 obtain rfl:=(show cs5=[Value.int .i64 y] from hEy.K)
 obtain ⟨yc,rfl,hyl⟩:=eg_in (p:=p) (i:=i) ZO (x:=y) (by rw [getD_at hl];exact List.mem_of_getElem? hy)
 refine Zj (Za (Zh (Zk (Zh (Zi (oIdxE J J (hEy) ZO J J ?_))))))
 have hc88:=(hEy).cell
 refine Zlx hc88 ?_
 refine Zp J (Zn (Za (Zzv ?_)))
 (refine oCallV rfl rfl rfl ZK (fun w hS=>frame' hS (Ψ:=[blk b6 42 [.slice A9 (dN p free).length c9]]) ZQ (fun B' hB hR hS'=>check1 b6 A9 c9 hS' (row_Cs (W:=B.e) (e:=3) (n:=(dN p free).length) (cp:=c9) (hR _ _ ZP)) ZO yc ZO)) ?_;rintro ⟨⟩ -)
 refine Zn (Za (wC (fun h92=>?_) (fun h92=>?_)))
 refine Zh (Zi (Zz (n:=0) (m:=0) J J J (Zld ?_)))
 refine Zo J (oIdxE J J (hE) ZO J J ?_)
 have hc96:=(hE).cell
 refine Zlx hc96 ?_
 (refine ZC0 rfl ZK (fun w hS=>frame hS ZQ (fun B' hB hS'=>chain_at hS' 18 f _ (kApiFun.K_grow hB hEK))) ?_;rintro ⟨⟩ -)
 refine Zsa ?_
 refine Zn (Za (Zl (Zf (Zc (Zc (Zf (Zf (Zc (Zc (Zf (Zc (Zw (ZI ?_)))))))))))))
 exact ⟨(),trivial,by rw [chk_bad he1 he2 hok hd55 (bad_4 hl (by rw [huc];congr 1;simpa using h75) (by rw [hum];congr 1) (List.mem_of_getElem? hy) (by first | exact h92 | exact decide_eq_true h92)) hs hf];rfl,Lh⟩
 refine Zj (Zzk ?_)
 refine Zo J (Zn (Za ?_))
 exact ⟨rfl,j+1,⟨by omega,take_not hsj hy (by first | exact h92 | exact decide_eq_false h92)⟩,by omega,cv,Lh⟩
 obtain rfl:j=l.length:=by omega
 rw [List.take_length] at hsj
 have hbf:badF p free i=false:=bad_3 hl hsj
 refine Zm (Zb (Zb (Ze (Zzk ?_))))
 refine Zo J (Zn (Za ?_))
 exact ⟨rfl,i+1,⟨by omega,fun j hj=>by rcases Nat.lt_succ_iff_lt_or_eq.1 hj with h | rfl;exact hs j h;exact hbf⟩,by omega,cv,Lh⟩
 obtain rfl:i=p.fFuns.length:=by omega
 refine Zm (Zb (Zb (Ze (Za (Zh (Zi (oBuild Parts.nil J J Built.nil (Zsa ?_))))))))
 refine Zn (Za (Zl (Zw (ZI ?_))))
 exact ⟨(),trivial,by rw [chk_fine he1 he2 hok hd55 hs];rfl,Lh⟩
theorem ref27_Check {B:Base}{w:World}(hS:St B [] w) (p:ApiProgram) (pc:List Value) (hp:kApiProgram.K B.e p pc) (hsm:SmallP p) (free:List Bool) (A':Option Addr) (c':Nat) (hF:Kd.bool.C B.e A' free) :
 CW 45 #[.agg pc.toArray,.slice A' free.length c'] w (Ret B (fun _:Unit=>True) (fun _=>.agg (rejL (checkN p free)).toArray) (fun _=>[])):=by
 obtain ⟨A0,c0,A1,c1,rfl,l0,g0,l1,g1⟩:=kApiProgram_open hp
 have hn:=hsm.funs
 have hcl:=calledL_len p
 have hml:=memF_len p free
 have hgl:=Go.Proofs.YtogaiijhicfoaaaGreatU.graphF_len p
 refine ZX Tryz.func45 hS ?_
 refine Zh (Zi (oBox J ZP (fun b2=>?_)))
 refine oAlloc J ZP (fun b4=>?_)
 refine Zn (Za (Zh (Zh (Zi (Zz (n:=2) (m:=2) J J J (Zld ?_))))))
 refine Zx J J (Zo J (ZS (ZT 16) (fun h16=>?_) (fun h16=>?_)))
 refine Zr J J J J (Zr J J J J (Zr J J J J (Zr J J J J (Zr J J J J (Zr J J J J (Zt J J (Zn (Za (wCondT J (Zh (Zi (oBuild (Parts.cons J (Parts.cons J (Parts.cons J Parts.nil))) J J (Built.cons (off:=0) (s:=1) J ZP J ZP (Built.cons (off:=1) (s:=1) J ZP J ZP (Built.cons (off:=2) (s:=1) J ZP J ZP Built.nil))) ?_))))))))))))
 refine Zsa ?_
 refine Zn (Za (Zl (Zc (Zw (ZI ?_)))))
 exact ⟨(),trivial,by rw [chk_arg (.inl (by first | exact h16 | simpa using h16))];rfl,Lh⟩
 refine Zq J J (Zz (n:=2) (m:=2) J J J (Zzg ?_))
 refine Zq J J (Zz (n:=0) (m:=0) J J J (Zzg ?_))
 refine Zq J J (Zv J J (Zq J J (Z2 J J (Zu J J (Zn (Za (wC (fun h23=>?_) (fun h23=>?_))))))))
 refine Zh (Zi (oBuild (Parts.cons J (Parts.cons J (Parts.cons J Parts.nil))) J J (Built.cons (off:=0) (s:=1) J ZP J ZP (Built.cons (off:=1) (s:=1) J ZP J ZP (Built.cons (off:=2) (s:=1) J ZP J ZP Built.nil))) ?_))
 refine Zsa ?_
 refine Zn (Za (Zl (Zc (Zw (ZI ?_)))))
 exact ⟨(),trivial,by rw [chk_arg (.inr (by first | exact h23 | simpa using h23))];rfl,Lh⟩
 have he1:¬ p.fEntry<0:=by first | exact h16 | simpa using h16
 have he2:¬ (p.fFuns.length:Int)≤p.fEntry:=by first | exact h23 | simpa using h23
 obtain ⟨e0,he0⟩:=Int.eq_ofNat_of_zero_le (show 0≤p.fEntry by omega)
 refine Zj (Zzm ?_)
 (refine ZC0 rfl ZK (fun w hS=>frame hS ZQ (fun B' hB hS'=>ref26_Graph hS' p _ (gPg hB hp) hsm B.e)) ?_;rintro ⟨A8,c8,hs8⟩ hl8)
 dsimp only at hl8 ⊢
 refine Zp J (Zn (Zzm ?_))
 refine Zo J ?_
 (refine ZC0 rfl ZK (fun w hS=>frame hS ZQ (fun B' hB hS'=>ref27_members hS' p _ (gPg hB hp) hsm free A' c' (Kd.C_grow hB hF) B.e)) ?_;rintro ⟨F8,e8⟩ -)
 refine Zp J (Zn (Zzm ?_))
 refine Zo J ?_
 (refine ZC0 rfl ZK (fun w hS=>frame hS ZQ (fun B' hB hS'=>ref27_Needs hS' p _ (gPg hB hp) hsm free A' c' (Kd.C_grow hB hF) B.e)) ?_;rintro ⟨A9,c9⟩ -)
 refine Zo J (oExt J ZP ?_)
 refine oExt J ZP ?_
 refine Zp J (Zp J (Zn (Za (wFreeze [row kHdr B.e 42 (.slice A8 p.fFuns.length c8) hs8,bun (rws (Kd.int .i64) B.e 3 hs8 (graphF p)),row Kd.bool B.e 4 (.slice F8 p.fFuns.length e8) (memF p free),row (Kd.int .i64) B.e 3 (.slice A9 (dN p free).length c9) (dN p free)] ZQ (fun B1 hB1 hq1=>?_)))))
 have hG:=grid_C (hq1 _ _ ZP) (hq1 _ _ ZP) (by rw [hl8,hgl]) hB1
 have hM:=row_Cs (W:=B.e) (e:=4) (n:=p.fFuns.length) (cp:=e8) (xs:=memF p free) (hq1 _ _ ZP)
 have hD:=row_Cs (W:=B.e) (e:=3) (n:=(dN p free).length) (cp:=c9) (xs:=dN p free) (hq1 _ _ ZP)
 have hp:=kApiProgram.K_grow hB1 hp
 have g0:=Kd.C_grow hB1 g0
 refine Zh (Zh (Zi (Zo J (Zno ?_))))
 refine Zn (Za (wC (fun h37=>?_) (fun h37=>?_)))
 have hok:okN p free=false:=by first | exact decide_eq_false h37 | simpa using h37
 obtain ⟨c44,hc44,hl44⟩:=on_head hok
 have hne44:onL (graphF p) (memF p free)≠[]:=by intro h;rw [h] at hc44;cases hc44
 obtain ⟨f,hf⟩:∃ f,p.fFuns[c44]?=some f:=⟨_,List.getElem?_eq_getElem ZO⟩
 obtain ⟨e1,cs1,hE⟩:=g0.elm hf
 have hEK:=hE.K
 obtain ⟨D0,d0,D1,d1,D2,d2,D3,d3,D4,d4,rfl,m0,q0,m1,q1,m2,q2,m3,q3,m4,q4⟩:=kApiFun_open hE.K
 have hc45:=hE.cell
 refine Zh (wDrawN J J (anWith (fun R7 hR7=>?_)))
 have an7_43:∀ (g42 c42:Nat),R7 2 #[tT,tT,tT,tT,tT,tT,tT,tT,tT,fF,fF] [(38,.pointer (some ⟨b2,0,none⟩)),(39,.slice A0 p.fFuns.length c0),(40,.slice A8 p.fFuns.length c8),(41,.slice F8 p.fFuns.length e8),(42,.slice (some ⟨g42,0,none⟩) (onL (graphF p) (memF p free)).length c42),(43,.pointer (some (elt g42 0 1 0))),(44,.int .i64 (c44:Int)),(45,.pointer (some (adr e1 0))),(46,.agg #[.int .i64 f.fFile,.int .i64 f.fItem,.string f.fName,.int .i64 f.fF.fClass,.slice D0 f.fF.fKinds.length d0,.int .i64 f.fF.fPad,.bool f.fF.fNosplit,.int .i64 f.fF.fFrom,.int .i64 f.fF.fTo,.slice D1 f.fF.fLines.length d1,.slice D2 f.fF.fCode.length d2,.slice D3 f.fF.fRelocs.length d3,.slice D4 f.fRefs.length d4]),(2,.pointer (some ⟨b2,0,none⟩)),(4,.pointer (some ⟨b4,0,none⟩)),(5,.slice A8 p.fFuns.length c8),(6,.slice F8 p.fFuns.length e8)] [row (Kd.int .i64) B.e 3 (.slice (some ⟨g42,0,none⟩) (onL (graphF p) (memF p free)).length c42) (onL (graphF p) (memF p free)),blk b2 29 (pcL p A0 c0 A1 c1),blk b4 32 [.int .i64 0,.int .i64 0,.int .i64 0]]:=by
  intro g42 c42
  refine anPut hR7 (ZM (i:=9) (rs:=[]) ZK ?_)
  refine ZA J ?_ ?_
  refine oAlloc J ZP (fun b9=>?_)
  refine Z7 (ZM (i:=10) (rs:=[]) ZK ?_)
  refine ZA J ?_ ?_
  refine Zsa ?_
  refine Z7 (anNil ZK ?_)
  refine Za (Zh (Zi (Zz (n:=0) (m:=0) J J J (Zld ?_))))
  refine Zz (n:=1) (m:=1) J J J (Zld ?_)
  refine oBuild (Parts.cons J (Parts.cons J (Parts.cons J Parts.nil))) J J (Built.cons (off:=0) (s:=1) J ZP J ZP (Built.cons (off:=1) (s:=1) J ZP J ZP (Built.cons (off:=2) (s:=1) J ZP J ZP Built.nil))) ?_
  refine Zsa ?_
  refine Zn (Za (Zl (Zc (Zw (ZI ?_)))))
  exact ⟨(),trivial,by rw [chk_cyc he1 he2 hok hc44 hf];rfl,Lh⟩
  exact ZB
  exact ZB
 have an7_44:∀ (g42 c42:Nat) (b9:Nat),R7 2 #[tT,tT,tT,tT,tT,tT,tT,tT,fF,tT,fF] [(38,.pointer (some ⟨b2,0,none⟩)),(39,.slice A0 p.fFuns.length c0),(40,.slice A8 p.fFuns.length c8),(41,.slice F8 p.fFuns.length e8),(42,.slice (some ⟨g42,0,none⟩) (onL (graphF p) (memF p free)).length c42),(43,.pointer (some (elt g42 0 1 0))),(44,.int .i64 (c44:Int)),(45,.pointer (some (adr e1 0))),(9,.pointer (some ⟨b9,0,none⟩)),(2,.pointer (some ⟨b2,0,none⟩)),(4,.pointer (some ⟨b4,0,none⟩)),(5,.slice A8 p.fFuns.length c8),(6,.slice F8 p.fFuns.length e8)] [row (Kd.int .i64) B.e 3 (.slice (some ⟨g42,0,none⟩) (onL (graphF p) (memF p free)).length c42) (onL (graphF p) (memF p free)),blk b9 49 [.int .i64 0,.int .i64 0,.string ByteArray.empty,.int .i64 0,.slice none 0 0,.int .i64 0,.bool false,.int .i64 0,.int .i64 0,.slice none 0 0,.slice none 0 0,.slice none 0 0,.slice none 0 0],blk b2 29 (pcL p A0 c0 A1 c1),blk b4 32 [.int .i64 0,.int .i64 0,.int .i64 0]]:=by
  intro g42 c42 b9
  refine anPut hR7 (ZM (i:=8) (rs:=[]) ZK ?_)
  refine ZA J ?_ ?_
  refine Zlx hc45 ?_
  refine Z7 (ZM (i:=10) (rs:=[]) ZK ?_)
  refine ZA J ?_ ?_
  refine Zsa ?_
  refine Z7 (anNil ZK ?_)
  refine Za (Zh (Zi (Zz (n:=0) (m:=0) J J J (Zld ?_))))
  refine Zz (n:=1) (m:=1) J J J (Zld ?_)
  refine oBuild (Parts.cons J (Parts.cons J (Parts.cons J Parts.nil))) J J (Built.cons (off:=0) (s:=1) J ZP J ZP (Built.cons (off:=1) (s:=1) J ZP J ZP (Built.cons (off:=2) (s:=1) J ZP J ZP Built.nil))) ?_
  refine Zsa ?_
  refine Zn (Za (Zl (Zc (Zw (ZI ?_)))))
  exact ⟨(),trivial,by rw [chk_cyc he1 he2 hok hc44 hf];rfl,Lh⟩
  exact ZB
  exact ZB
 have an7_41:∀ (g42 c42:Nat),R7 3 #[tT,tT,tT,tT,tT,tT,tT,tT,fF,fF,fF] [(38,.pointer (some ⟨b2,0,none⟩)),(39,.slice A0 p.fFuns.length c0),(40,.slice A8 p.fFuns.length c8),(41,.slice F8 p.fFuns.length e8),(42,.slice (some ⟨g42,0,none⟩) (onL (graphF p) (memF p free)).length c42),(43,.pointer (some (elt g42 0 1 0))),(44,.int .i64 (c44:Int)),(45,.pointer (some (adr e1 0))),(2,.pointer (some ⟨b2,0,none⟩)),(4,.pointer (some ⟨b4,0,none⟩)),(5,.slice A8 p.fFuns.length c8),(6,.slice F8 p.fFuns.length e8)] [row (Kd.int .i64) B.e 3 (.slice (some ⟨g42,0,none⟩) (onL (graphF p) (memF p free)).length c42) (onL (graphF p) (memF p free)),blk b2 29 (pcL p A0 c0 A1 c1),blk b4 32 [.int .i64 0,.int .i64 0,.int .i64 0]]:=by
  intro g42 c42
  refine anPut hR7 (ZM (i:=8) (rs:=[9]) ZK ?_)
  refine ZA J ?_ ?_
  refine Zlx hc45 ?_
  refine Z7 ?_
  exact anCov hR7 (an7_43 g42 c42) rfl cv Lh
  refine ZA J ?_ ?_
  refine oAlloc J ZP (fun b9=>?_)
  refine Z7 ?_
  exact anCov hR7 (an7_44 g42 c42 b9) rfl cv Lh
  exact ZB
 have an7_42:∀ (g42 c42:Nat) (b9:Nat),R7 3 #[tT,tT,tT,tT,tT,tT,tT,fF,fF,tT,fF] [(38,.pointer (some ⟨b2,0,none⟩)),(39,.slice A0 p.fFuns.length c0),(40,.slice A8 p.fFuns.length c8),(41,.slice F8 p.fFuns.length e8),(42,.slice (some ⟨g42,0,none⟩) (onL (graphF p) (memF p free)).length c42),(43,.pointer (some (elt g42 0 1 0))),(44,.int .i64 (c44:Int)),(9,.pointer (some ⟨b9,0,none⟩)),(2,.pointer (some ⟨b2,0,none⟩)),(4,.pointer (some ⟨b4,0,none⟩)),(5,.slice A8 p.fFuns.length c8),(6,.slice F8 p.fFuns.length e8)] [row (Kd.int .i64) B.e 3 (.slice (some ⟨g42,0,none⟩) (onL (graphF p) (memF p free)).length c42) (onL (graphF p) (memF p free)),blk b9 49 [.int .i64 0,.int .i64 0,.string ByteArray.empty,.int .i64 0,.slice none 0 0,.int .i64 0,.bool false,.int .i64 0,.int .i64 0,.slice none 0 0,.slice none 0 0,.slice none 0 0,.slice none 0 0],blk b2 29 (pcL p A0 c0 A1 c1),blk b4 32 [.int .i64 0,.int .i64 0,.int .i64 0]]:=by
  intro g42 c42 b9
  refine anPut hR7 (ZM (i:=7) (rs:=[]) ZK ?_)
  refine ZA J ?_ ?_
  refine oIdxE J J (hE) ZO J J ?_
  have hc45:=(hE).cell
  refine Z7 ?_
  exact anCov hR7 (an7_44 g42 c42 b9) rfl cv Lh
  exact ZB
 have an7_39:∀ (g42 c42:Nat) (b9:Nat),R7 4 #[tT,tT,tT,tT,tT,tT,fF,fF,fF,tT,fF] [(38,.pointer (some ⟨b2,0,none⟩)),(39,.slice A0 p.fFuns.length c0),(40,.slice A8 p.fFuns.length c8),(41,.slice F8 p.fFuns.length e8),(42,.slice (some ⟨g42,0,none⟩) (onL (graphF p) (memF p free)).length c42),(43,.pointer (some (elt g42 0 1 0))),(9,.pointer (some ⟨b9,0,none⟩)),(2,.pointer (some ⟨b2,0,none⟩)),(4,.pointer (some ⟨b4,0,none⟩)),(5,.slice A8 p.fFuns.length c8),(6,.slice F8 p.fFuns.length e8)] [row (Kd.int .i64) B.e 3 (.slice (some ⟨g42,0,none⟩) (onL (graphF p) (memF p free)).length c42) (onL (graphF p) (memF p free)),blk b9 49 [.int .i64 0,.int .i64 0,.string ByteArray.empty,.int .i64 0,.slice none 0 0,.int .i64 0,.bool false,.int .i64 0,.int .i64 0,.slice none 0 0,.slice none 0 0,.slice none 0 0,.slice none 0 0],blk b2 29 (pcL p A0 c0 A1 c1),blk b4 32 [.int .i64 0,.int .i64 0,.int .i64 0]]:=by
  intro g42 c42 b9
  refine anPut hR7 (ZM (i:=6) (rs:=[]) ZK ?_)
  refine ZA J ?_ ?_
  refine ZR1 (i:=0) J ZP (by have:=(List.getElem?_eq_some_iff.1 hc44).1;exact this) J (fun u44 hu44=>?_)
  obtain rfl:u44=(c44:Int):=Option.some.inj (hu44.symm.trans hc44)
  refine Z7 ?_
  exact anCov hR7 (an7_42 g42 c42 b9) rfl cv Lh
  exact ZB
 have an7_38:∀ (g42 c42:Nat),R7 4 #[tT,tT,tT,tT,tT,tT,tT,fF,fF,fF,fF] [(38,.pointer (some ⟨b2,0,none⟩)),(39,.slice A0 p.fFuns.length c0),(40,.slice A8 p.fFuns.length c8),(41,.slice F8 p.fFuns.length e8),(42,.slice (some ⟨g42,0,none⟩) (onL (graphF p) (memF p free)).length c42),(43,.pointer (some (elt g42 0 1 0))),(44,.int .i64 (c44:Int)),(2,.pointer (some ⟨b2,0,none⟩)),(4,.pointer (some ⟨b4,0,none⟩)),(5,.slice A8 p.fFuns.length c8),(6,.slice F8 p.fFuns.length e8)] [row (Kd.int .i64) B.e 3 (.slice (some ⟨g42,0,none⟩) (onL (graphF p) (memF p free)).length c42) (onL (graphF p) (memF p free)),blk b2 29 (pcL p A0 c0 A1 c1),blk b4 32 [.int .i64 0,.int .i64 0,.int .i64 0]]:=by
  intro g42 c42
  refine anPut hR7 (ZM (i:=7) (rs:=[9]) ZK ?_)
  refine ZA J ?_ ?_
  refine oIdxE J J (hE) ZO J J ?_
  have hc45:=(hE).cell
  refine Z7 ?_
  exact anCov hR7 (an7_41 g42 c42) rfl cv Lh
  refine ZA J ?_ ?_
  refine oAlloc J ZP (fun b9=>?_)
  refine Z7 ?_
  exact anCov hR7 (an7_42 g42 c42 b9) rfl cv Lh
  exact ZB
 have an7_40:∀ (g42 c42:Nat) (b9:Nat),R7 4 #[tT,fF,tT,tT,tT,tT,tT,fF,fF,tT,fF] [(38,.pointer (some ⟨b2,0,none⟩)),(40,.slice A8 p.fFuns.length c8),(41,.slice F8 p.fFuns.length e8),(42,.slice (some ⟨g42,0,none⟩) (onL (graphF p) (memF p free)).length c42),(43,.pointer (some (elt g42 0 1 0))),(44,.int .i64 (c44:Int)),(9,.pointer (some ⟨b9,0,none⟩)),(2,.pointer (some ⟨b2,0,none⟩)),(4,.pointer (some ⟨b4,0,none⟩)),(5,.slice A8 p.fFuns.length c8),(6,.slice F8 p.fFuns.length e8)] [row (Kd.int .i64) B.e 3 (.slice (some ⟨g42,0,none⟩) (onL (graphF p) (memF p free)).length c42) (onL (graphF p) (memF p free)),blk b9 49 [.int .i64 0,.int .i64 0,.string ByteArray.empty,.int .i64 0,.slice none 0 0,.int .i64 0,.bool false,.int .i64 0,.int .i64 0,.slice none 0 0,.slice none 0 0,.slice none 0 0,.slice none 0 0],blk b2 29 (pcL p A0 c0 A1 c1),blk b4 32 [.int .i64 0,.int .i64 0,.int .i64 0]]:=by
  intro g42 c42 b9
  refine anPut hR7 (ZM (i:=1) (rs:=[]) ZK ?_)
  refine ZA J ?_ ?_
  refine Zld ?_
  refine Z7 ?_
  exact anCov hR7 (an7_42 g42 c42 b9) rfl cv Lh
  exact ZB
 have an7_34:∀ (g42 c42:Nat) (b9:Nat),R7 5 #[tT,tT,tT,tT,tT,fF,fF,fF,fF,tT,fF] [(38,.pointer (some ⟨b2,0,none⟩)),(39,.slice A0 p.fFuns.length c0),(40,.slice A8 p.fFuns.length c8),(41,.slice F8 p.fFuns.length e8),(42,.slice (some ⟨g42,0,none⟩) (onL (graphF p) (memF p free)).length c42),(9,.pointer (some ⟨b9,0,none⟩)),(2,.pointer (some ⟨b2,0,none⟩)),(4,.pointer (some ⟨b4,0,none⟩)),(5,.slice A8 p.fFuns.length c8),(6,.slice F8 p.fFuns.length e8)] [row (Kd.int .i64) B.e 3 (.slice (some ⟨g42,0,none⟩) (onL (graphF p) (memF p free)).length c42) (onL (graphF p) (memF p free)),blk b9 49 [.int .i64 0,.int .i64 0,.string ByteArray.empty,.int .i64 0,.slice none 0 0,.int .i64 0,.bool false,.int .i64 0,.int .i64 0,.slice none 0 0,.slice none 0 0,.slice none 0 0,.slice none 0 0],blk b2 29 (pcL p A0 c0 A1 c1),blk b4 32 [.int .i64 0,.int .i64 0,.int .i64 0]]:=by
  intro g42 c42 b9
  refine anPut hR7 (ZM (i:=5) (rs:=[]) ZK ?_)
  refine ZA J ?_ ?_
  refine ZR (i:=0) J J ZP (by have:=(List.getElem?_eq_some_iff.1 hc44).1;exact this) J J (fun g43 hg43=>?_)
  injection hg43 with hg43;injection hg43 with hg43;subst hg43
  refine Z7 ?_
  exact anCov hR7 (an7_39 g42 c42 b9) rfl cv Lh
  exact ZB
 have an7_35:∀ (g42 c42:Nat),R7 5 #[tT,fF,tT,tT,tT,tT,tT,fF,fF,fF,fF] [(38,.pointer (some ⟨b2,0,none⟩)),(40,.slice A8 p.fFuns.length c8),(41,.slice F8 p.fFuns.length e8),(42,.slice (some ⟨g42,0,none⟩) (onL (graphF p) (memF p free)).length c42),(43,.pointer (some (elt g42 0 1 0))),(44,.int .i64 (c44:Int)),(2,.pointer (some ⟨b2,0,none⟩)),(4,.pointer (some ⟨b4,0,none⟩)),(5,.slice A8 p.fFuns.length c8),(6,.slice F8 p.fFuns.length e8)] [row (Kd.int .i64) B.e 3 (.slice (some ⟨g42,0,none⟩) (onL (graphF p) (memF p free)).length c42) (onL (graphF p) (memF p free)),blk b2 29 (pcL p A0 c0 A1 c1),blk b4 32 [.int .i64 0,.int .i64 0,.int .i64 0]]:=by
  intro g42 c42
  refine anPut hR7 (ZM (i:=1) (rs:=[9]) ZK ?_)
  refine ZA J ?_ ?_
  refine Zld ?_
  refine Z7 ?_
  exact anCov hR7 (an7_38 g42 c42) rfl cv Lh
  refine ZA J ?_ ?_
  refine oAlloc J ZP (fun b9=>?_)
  refine Z7 ?_
  exact anCov hR7 (an7_40 g42 c42 b9) rfl cv Lh
  exact ZB
 have an7_37:∀ (g42 c42:Nat) (b9:Nat),R7 5 #[fF,fF,tT,tT,tT,tT,tT,fF,fF,tT,fF] [(40,.slice A8 p.fFuns.length c8),(41,.slice F8 p.fFuns.length e8),(42,.slice (some ⟨g42,0,none⟩) (onL (graphF p) (memF p free)).length c42),(43,.pointer (some (elt g42 0 1 0))),(44,.int .i64 (c44:Int)),(9,.pointer (some ⟨b9,0,none⟩)),(2,.pointer (some ⟨b2,0,none⟩)),(4,.pointer (some ⟨b4,0,none⟩)),(5,.slice A8 p.fFuns.length c8),(6,.slice F8 p.fFuns.length e8)] [row (Kd.int .i64) B.e 3 (.slice (some ⟨g42,0,none⟩) (onL (graphF p) (memF p free)).length c42) (onL (graphF p) (memF p free)),blk b9 49 [.int .i64 0,.int .i64 0,.string ByteArray.empty,.int .i64 0,.slice none 0 0,.int .i64 0,.bool false,.int .i64 0,.int .i64 0,.slice none 0 0,.slice none 0 0,.slice none 0 0,.slice none 0 0],blk b2 29 (pcL p A0 c0 A1 c1),blk b4 32 [.int .i64 0,.int .i64 0,.int .i64 0]]:=by
  intro g42 c42 b9
  refine anPut hR7 (ZM (i:=0) (rs:=[]) ZK ?_)
  refine ZA J ?_ ?_
  refine Zz (n:=0) (m:=0) J J J (Z7 ?_)
  exact anCov hR7 (an7_40 g42 c42 b9) rfl cv Lh
  exact ZB
 have an7_36:∀ (g42 c42:Nat) (b9:Nat),R7 5 #[tT,fF,tT,tT,tT,tT,fF,fF,fF,tT,fF] [(38,.pointer (some ⟨b2,0,none⟩)),(40,.slice A8 p.fFuns.length c8),(41,.slice F8 p.fFuns.length e8),(42,.slice (some ⟨g42,0,none⟩) (onL (graphF p) (memF p free)).length c42),(43,.pointer (some (elt g42 0 1 0))),(9,.pointer (some ⟨b9,0,none⟩)),(2,.pointer (some ⟨b2,0,none⟩)),(4,.pointer (some ⟨b4,0,none⟩)),(5,.slice A8 p.fFuns.length c8),(6,.slice F8 p.fFuns.length e8)] [row (Kd.int .i64) B.e 3 (.slice (some ⟨g42,0,none⟩) (onL (graphF p) (memF p free)).length c42) (onL (graphF p) (memF p free)),blk b9 49 [.int .i64 0,.int .i64 0,.string ByteArray.empty,.int .i64 0,.slice none 0 0,.int .i64 0,.bool false,.int .i64 0,.int .i64 0,.slice none 0 0,.slice none 0 0,.slice none 0 0,.slice none 0 0],blk b2 29 (pcL p A0 c0 A1 c1),blk b4 32 [.int .i64 0,.int .i64 0,.int .i64 0]]:=by
  intro g42 c42 b9
  refine anPut hR7 (ZM (i:=1) (rs:=[6]) ZK ?_)
  refine ZA J ?_ ?_
  refine Zld ?_
  refine Z7 ?_
  exact anCov hR7 (an7_39 g42 c42 b9) rfl cv Lh
  refine ZA J ?_ ?_
  refine ZR1 (i:=0) J ZP (by have:=(List.getElem?_eq_some_iff.1 hc44).1;exact this) J (fun u44 hu44=>?_)
  obtain rfl:u44=(c44:Int):=Option.some.inj (hu44.symm.trans hc44)
  refine Z7 ?_
  exact anCov hR7 (an7_40 g42 c42 b9) rfl cv Lh
  exact ZB
 have an7_33:∀ (g42 c42:Nat),R7 5 #[tT,tT,tT,tT,tT,tT,fF,fF,fF,fF,fF] [(38,.pointer (some ⟨b2,0,none⟩)),(39,.slice A0 p.fFuns.length c0),(40,.slice A8 p.fFuns.length c8),(41,.slice F8 p.fFuns.length e8),(42,.slice (some ⟨g42,0,none⟩) (onL (graphF p) (memF p free)).length c42),(43,.pointer (some (elt g42 0 1 0))),(2,.pointer (some ⟨b2,0,none⟩)),(4,.pointer (some ⟨b4,0,none⟩)),(5,.slice A8 p.fFuns.length c8),(6,.slice F8 p.fFuns.length e8)] [row (Kd.int .i64) B.e 3 (.slice (some ⟨g42,0,none⟩) (onL (graphF p) (memF p free)).length c42) (onL (graphF p) (memF p free)),blk b2 29 (pcL p A0 c0 A1 c1),blk b4 32 [.int .i64 0,.int .i64 0,.int .i64 0]]:=by
  intro g42 c42
  refine anPut hR7 (ZM (i:=6) (rs:=[9]) ZK ?_)
  refine ZA J ?_ ?_
  refine ZR1 (i:=0) J ZP (by have:=(List.getElem?_eq_some_iff.1 hc44).1;exact this) J (fun u44 hu44=>?_)
  obtain rfl:u44=(c44:Int):=Option.some.inj (hu44.symm.trans hc44)
  refine Z7 ?_
  exact anCov hR7 (an7_38 g42 c42) rfl cv Lh
  refine ZA J ?_ ?_
  refine oAlloc J ZP (fun b9=>?_)
  refine Z7 ?_
  exact anCov hR7 (an7_39 g42 c42 b9) rfl cv Lh
  exact ZB
 have an7_32:∀ (g42 c42:Nat) (b9:Nat),R7 6 #[fF,fF,tT,tT,tT,tT,fF,fF,fF,tT,fF] [(40,.slice A8 p.fFuns.length c8),(41,.slice F8 p.fFuns.length e8),(42,.slice (some ⟨g42,0,none⟩) (onL (graphF p) (memF p free)).length c42),(43,.pointer (some (elt g42 0 1 0))),(9,.pointer (some ⟨b9,0,none⟩)),(2,.pointer (some ⟨b2,0,none⟩)),(4,.pointer (some ⟨b4,0,none⟩)),(5,.slice A8 p.fFuns.length c8),(6,.slice F8 p.fFuns.length e8)] [row (Kd.int .i64) B.e 3 (.slice (some ⟨g42,0,none⟩) (onL (graphF p) (memF p free)).length c42) (onL (graphF p) (memF p free)),blk b9 49 [.int .i64 0,.int .i64 0,.string ByteArray.empty,.int .i64 0,.slice none 0 0,.int .i64 0,.bool false,.int .i64 0,.int .i64 0,.slice none 0 0,.slice none 0 0,.slice none 0 0,.slice none 0 0],blk b2 29 (pcL p A0 c0 A1 c1),blk b4 32 [.int .i64 0,.int .i64 0,.int .i64 0]]:=by
  intro g42 c42 b9
  refine anPut hR7 (ZM (i:=0) (rs:=[6]) ZK ?_)
  refine ZA J ?_ ?_
  refine Zz (n:=0) (m:=0) J J J (Z7 ?_)
  exact anCov hR7 (an7_36 g42 c42 b9) rfl cv Lh
  refine ZA J ?_ ?_
  refine ZR1 (i:=0) J ZP (by have:=(List.getElem?_eq_some_iff.1 hc44).1;exact this) J (fun u44 hu44=>?_)
  obtain rfl:u44=(c44:Int):=Option.some.inj (hu44.symm.trans hc44)
  refine Z7 ?_
  exact anCov hR7 (an7_37 g42 c42 b9) rfl cv Lh
  exact ZB
 have an7_27:∀ (g42 c42:Nat),R7 6 #[tT,tT,tT,tT,tT,fF,fF,fF,fF,fF,fF] [(38,.pointer (some ⟨b2,0,none⟩)),(39,.slice A0 p.fFuns.length c0),(40,.slice A8 p.fFuns.length c8),(41,.slice F8 p.fFuns.length e8),(42,.slice (some ⟨g42,0,none⟩) (onL (graphF p) (memF p free)).length c42),(2,.pointer (some ⟨b2,0,none⟩)),(4,.pointer (some ⟨b4,0,none⟩)),(5,.slice A8 p.fFuns.length c8),(6,.slice F8 p.fFuns.length e8)] [row (Kd.int .i64) B.e 3 (.slice (some ⟨g42,0,none⟩) (onL (graphF p) (memF p free)).length c42) (onL (graphF p) (memF p free)),blk b2 29 (pcL p A0 c0 A1 c1),blk b4 32 [.int .i64 0,.int .i64 0,.int .i64 0]]:=by
  intro g42 c42
  refine anPut hR7 (ZM (i:=5) (rs:=[9]) ZK ?_)
  refine ZA J ?_ ?_
  refine ZR (i:=0) J J ZP (by have:=(List.getElem?_eq_some_iff.1 hc44).1;exact this) J J (fun g43 hg43=>?_)
  injection hg43 with hg43;injection hg43 with hg43;subst hg43
  refine Z7 ?_
  exact anCov hR7 (an7_33 g42 c42) rfl cv Lh
  refine ZA J ?_ ?_
  refine oAlloc J ZP (fun b9=>?_)
  refine Z7 ?_
  exact anCov hR7 (an7_34 g42 c42 b9) rfl cv Lh
  exact ZB
 have an7_28:∀ (b9:Nat),R7 6 #[tT,tT,tT,tT,fF,fF,fF,fF,fF,tT,fF] [(38,.pointer (some ⟨b2,0,none⟩)),(39,.slice A0 p.fFuns.length c0),(40,.slice A8 p.fFuns.length c8),(41,.slice F8 p.fFuns.length e8),(9,.pointer (some ⟨b9,0,none⟩)),(2,.pointer (some ⟨b2,0,none⟩)),(4,.pointer (some ⟨b4,0,none⟩)),(5,.slice A8 p.fFuns.length c8),(6,.slice F8 p.fFuns.length e8)] [blk b9 49 [.int .i64 0,.int .i64 0,.string ByteArray.empty,.int .i64 0,.slice none 0 0,.int .i64 0,.bool false,.int .i64 0,.int .i64 0,.slice none 0 0,.slice none 0 0,.slice none 0 0,.slice none 0 0],blk b2 29 (pcL p A0 c0 A1 c1),blk b4 32 [.int .i64 0,.int .i64 0,.int .i64 0]]:=by
  intro b9
  refine anPut hR7 (ZM (i:=4) (rs:=[]) ZK ?_)
  refine ZA J ?_ ?_
  (refine ZC0 rfl ZK (fun w hS=>frame hS ZQ (fun B' hB hS'=>onRRh hS' hsm free A8 c8 (Kd.C_grow hB hG) F8 e8 (Kd.C_grow hB hM) hne44 B.e)) ?_;rintro ⟨g42,c42⟩ -)
  refine Z7 ?_
  exact anCov hR7 (an7_34 g42 c42 b9) rfl cv Lh
  exact ZB
 have an7_29:∀ (g42 c42:Nat),R7 6 #[tT,fF,tT,tT,tT,tT,fF,fF,fF,fF,fF] [(38,.pointer (some ⟨b2,0,none⟩)),(40,.slice A8 p.fFuns.length c8),(41,.slice F8 p.fFuns.length e8),(42,.slice (some ⟨g42,0,none⟩) (onL (graphF p) (memF p free)).length c42),(43,.pointer (some (elt g42 0 1 0))),(2,.pointer (some ⟨b2,0,none⟩)),(4,.pointer (some ⟨b4,0,none⟩)),(5,.slice A8 p.fFuns.length c8),(6,.slice F8 p.fFuns.length e8)] [row (Kd.int .i64) B.e 3 (.slice (some ⟨g42,0,none⟩) (onL (graphF p) (memF p free)).length c42) (onL (graphF p) (memF p free)),blk b2 29 (pcL p A0 c0 A1 c1),blk b4 32 [.int .i64 0,.int .i64 0,.int .i64 0]]:=by
  intro g42 c42
  refine anPut hR7 (ZM (i:=1) (rs:=[6,9]) ZK ?_)
  refine ZA J ?_ ?_
  refine Zld ?_
  refine Z7 ?_
  exact anCov hR7 (an7_33 g42 c42) rfl cv Lh
  refine ZA J ?_ ?_
  refine ZR1 (i:=0) J ZP (by have:=(List.getElem?_eq_some_iff.1 hc44).1;exact this) J (fun u44 hu44=>?_)
  obtain rfl:u44=(c44:Int):=Option.some.inj (hu44.symm.trans hc44)
  refine Z7 ?_
  exact anCov hR7 (an7_35 g42 c42) rfl cv Lh
  refine ZA J ?_ ?_
  refine oAlloc J ZP (fun b9=>?_)
  refine Z7 ?_
  exact anCov hR7 (an7_36 g42 c42 b9) rfl cv Lh
  exact ZB
 have an7_31:∀ (g42 c42:Nat),R7 6 #[fF,fF,tT,tT,tT,tT,tT,fF,fF,fF,fF] [(40,.slice A8 p.fFuns.length c8),(41,.slice F8 p.fFuns.length e8),(42,.slice (some ⟨g42,0,none⟩) (onL (graphF p) (memF p free)).length c42),(43,.pointer (some (elt g42 0 1 0))),(44,.int .i64 (c44:Int)),(2,.pointer (some ⟨b2,0,none⟩)),(4,.pointer (some ⟨b4,0,none⟩)),(5,.slice A8 p.fFuns.length c8),(6,.slice F8 p.fFuns.length e8)] [row (Kd.int .i64) B.e 3 (.slice (some ⟨g42,0,none⟩) (onL (graphF p) (memF p free)).length c42) (onL (graphF p) (memF p free)),blk b2 29 (pcL p A0 c0 A1 c1),blk b4 32 [.int .i64 0,.int .i64 0,.int .i64 0]]:=by
  intro g42 c42
  refine anPut hR7 (ZM (i:=0) (rs:=[9]) ZK ?_)
  refine ZA J ?_ ?_
  refine Zz (n:=0) (m:=0) J J J (Z7 ?_)
  exact anCov hR7 (an7_35 g42 c42) rfl cv Lh
  refine ZA J ?_ ?_
  refine oAlloc J ZP (fun b9=>?_)
  refine Z7 ?_
  exact anCov hR7 (an7_37 g42 c42 b9) rfl cv Lh
  exact ZB
 have an7_30:∀ (g42 c42:Nat) (b9:Nat),R7 6 #[tT,fF,tT,tT,tT,fF,fF,fF,fF,tT,fF] [(38,.pointer (some ⟨b2,0,none⟩)),(40,.slice A8 p.fFuns.length c8),(41,.slice F8 p.fFuns.length e8),(42,.slice (some ⟨g42,0,none⟩) (onL (graphF p) (memF p free)).length c42),(9,.pointer (some ⟨b9,0,none⟩)),(2,.pointer (some ⟨b2,0,none⟩)),(4,.pointer (some ⟨b4,0,none⟩)),(5,.slice A8 p.fFuns.length c8),(6,.slice F8 p.fFuns.length e8)] [row (Kd.int .i64) B.e 3 (.slice (some ⟨g42,0,none⟩) (onL (graphF p) (memF p free)).length c42) (onL (graphF p) (memF p free)),blk b9 49 [.int .i64 0,.int .i64 0,.string ByteArray.empty,.int .i64 0,.slice none 0 0,.int .i64 0,.bool false,.int .i64 0,.int .i64 0,.slice none 0 0,.slice none 0 0,.slice none 0 0,.slice none 0 0],blk b2 29 (pcL p A0 c0 A1 c1),blk b4 32 [.int .i64 0,.int .i64 0,.int .i64 0]]:=by
  intro g42 c42 b9
  refine anPut hR7 (ZM (i:=1) (rs:=[5]) ZK ?_)
  refine ZA J ?_ ?_
  refine Zld ?_
  refine Z7 ?_
  exact anCov hR7 (an7_34 g42 c42 b9) rfl cv Lh
  refine ZA J ?_ ?_
  refine ZR (i:=0) J J ZP (by have:=(List.getElem?_eq_some_iff.1 hc44).1;exact this) J J (fun g43 hg43=>?_)
  injection hg43 with hg43;injection hg43 with hg43;subst hg43
  refine Z7 ?_
  exact anCov hR7 (an7_36 g42 c42 b9) rfl cv Lh
  exact ZB
 have an7_26:∀ (g42 c42:Nat) (b9:Nat),R7 7 #[fF,fF,tT,tT,tT,fF,fF,fF,fF,tT,fF] [(40,.slice A8 p.fFuns.length c8),(41,.slice F8 p.fFuns.length e8),(42,.slice (some ⟨g42,0,none⟩) (onL (graphF p) (memF p free)).length c42),(9,.pointer (some ⟨b9,0,none⟩)),(2,.pointer (some ⟨b2,0,none⟩)),(4,.pointer (some ⟨b4,0,none⟩)),(5,.slice A8 p.fFuns.length c8),(6,.slice F8 p.fFuns.length e8)] [row (Kd.int .i64) B.e 3 (.slice (some ⟨g42,0,none⟩) (onL (graphF p) (memF p free)).length c42) (onL (graphF p) (memF p free)),blk b9 49 [.int .i64 0,.int .i64 0,.string ByteArray.empty,.int .i64 0,.slice none 0 0,.int .i64 0,.bool false,.int .i64 0,.int .i64 0,.slice none 0 0,.slice none 0 0,.slice none 0 0,.slice none 0 0],blk b2 29 (pcL p A0 c0 A1 c1),blk b4 32 [.int .i64 0,.int .i64 0,.int .i64 0]]:=by
  intro g42 c42 b9
  refine anPut hR7 (ZM (i:=0) (rs:=[5]) ZK ?_)
  refine ZA J ?_ ?_
  refine Zz (n:=0) (m:=0) J J J (Z7 ?_)
  exact anCov hR7 (an7_30 g42 c42 b9) rfl cv Lh
  refine ZA J ?_ ?_
  refine ZR (i:=0) J J ZP (by have:=(List.getElem?_eq_some_iff.1 hc44).1;exact this) J J (fun g43 hg43=>?_)
  injection hg43 with hg43;injection hg43 with hg43;subst hg43
  refine Z7 ?_
  exact anCov hR7 (an7_32 g42 c42 b9) rfl cv Lh
  exact ZB
 have an7_23:∀ (g42 c42:Nat),R7 7 #[tT,fF,tT,tT,tT,fF,fF,fF,fF,fF,fF] [(38,.pointer (some ⟨b2,0,none⟩)),(40,.slice A8 p.fFuns.length c8),(41,.slice F8 p.fFuns.length e8),(42,.slice (some ⟨g42,0,none⟩) (onL (graphF p) (memF p free)).length c42),(2,.pointer (some ⟨b2,0,none⟩)),(4,.pointer (some ⟨b4,0,none⟩)),(5,.slice A8 p.fFuns.length c8),(6,.slice F8 p.fFuns.length e8)] [row (Kd.int .i64) B.e 3 (.slice (some ⟨g42,0,none⟩) (onL (graphF p) (memF p free)).length c42) (onL (graphF p) (memF p free)),blk b2 29 (pcL p A0 c0 A1 c1),blk b4 32 [.int .i64 0,.int .i64 0,.int .i64 0]]:=by
  intro g42 c42
  refine anPut hR7 (ZM (i:=1) (rs:=[5,9]) ZK ?_)
  refine ZA J ?_ ?_
  refine Zld ?_
  refine Z7 ?_
  exact anCov hR7 (an7_27 g42 c42) rfl cv Lh
  refine ZA J ?_ ?_
  refine ZR (i:=0) J J ZP (by have:=(List.getElem?_eq_some_iff.1 hc44).1;exact this) J J (fun g43 hg43=>?_)
  injection hg43 with hg43;injection hg43 with hg43;subst hg43
  refine Z7 ?_
  exact anCov hR7 (an7_29 g42 c42) rfl cv Lh
  refine ZA J ?_ ?_
  refine oAlloc J ZP (fun b9=>?_)
  refine Z7 ?_
  exact anCov hR7 (an7_30 g42 c42 b9) rfl cv Lh
  exact ZB
 have an7_21:∀ (b9:Nat),R7 7 #[tT,tT,tT,fF,fF,fF,fF,fF,fF,tT,fF] [(38,.pointer (some ⟨b2,0,none⟩)),(39,.slice A0 p.fFuns.length c0),(40,.slice A8 p.fFuns.length c8),(9,.pointer (some ⟨b9,0,none⟩)),(2,.pointer (some ⟨b2,0,none⟩)),(4,.pointer (some ⟨b4,0,none⟩)),(5,.slice A8 p.fFuns.length c8),(6,.slice F8 p.fFuns.length e8)] [blk b9 49 [.int .i64 0,.int .i64 0,.string ByteArray.empty,.int .i64 0,.slice none 0 0,.int .i64 0,.bool false,.int .i64 0,.int .i64 0,.slice none 0 0,.slice none 0 0,.slice none 0 0,.slice none 0 0],blk b2 29 (pcL p A0 c0 A1 c1),blk b4 32 [.int .i64 0,.int .i64 0,.int .i64 0]]:=by
  intro b9
  refine anPut hR7 (ZM (i:=3) (rs:=[]) ZK ?_)
  refine ZA J ?_ ?_
  refine Zo J (Z7 ?_)
  exact anCov hR7 (an7_28 b9) rfl cv Lh
  exact ZB
 have an7_24:∀ (b9:Nat),R7 7 #[tT,fF,tT,tT,fF,fF,fF,fF,fF,tT,fF] [(38,.pointer (some ⟨b2,0,none⟩)),(40,.slice A8 p.fFuns.length c8),(41,.slice F8 p.fFuns.length e8),(9,.pointer (some ⟨b9,0,none⟩)),(2,.pointer (some ⟨b2,0,none⟩)),(4,.pointer (some ⟨b4,0,none⟩)),(5,.slice A8 p.fFuns.length c8),(6,.slice F8 p.fFuns.length e8)] [blk b9 49 [.int .i64 0,.int .i64 0,.string ByteArray.empty,.int .i64 0,.slice none 0 0,.int .i64 0,.bool false,.int .i64 0,.int .i64 0,.slice none 0 0,.slice none 0 0,.slice none 0 0,.slice none 0 0],blk b2 29 (pcL p A0 c0 A1 c1),blk b4 32 [.int .i64 0,.int .i64 0,.int .i64 0]]:=by
  intro b9
  refine anPut hR7 (ZM (i:=1) (rs:=[4]) ZK ?_)
  refine ZA J ?_ ?_
  refine Zld ?_
  refine Z7 ?_
  exact anCov hR7 (an7_28 b9) rfl cv Lh
  refine ZA J ?_ ?_
  (refine ZC0 rfl ZK (fun w hS=>frame hS ZQ (fun B' hB hS'=>onRRh hS' hsm free A8 c8 (Kd.C_grow hB hG) F8 e8 (Kd.C_grow hB hM) hne44 B.e)) ?_;rintro ⟨g42,c42⟩ -)
  refine Z7 ?_
  exact anCov hR7 (an7_30 g42 c42 b9) rfl cv Lh
  exact ZB
 have an7_25:∀ (g42 c42:Nat),R7 7 #[fF,fF,tT,tT,tT,tT,fF,fF,fF,fF,fF] [(40,.slice A8 p.fFuns.length c8),(41,.slice F8 p.fFuns.length e8),(42,.slice (some ⟨g42,0,none⟩) (onL (graphF p) (memF p free)).length c42),(43,.pointer (some (elt g42 0 1 0))),(2,.pointer (some ⟨b2,0,none⟩)),(4,.pointer (some ⟨b4,0,none⟩)),(5,.slice A8 p.fFuns.length c8),(6,.slice F8 p.fFuns.length e8)] [row (Kd.int .i64) B.e 3 (.slice (some ⟨g42,0,none⟩) (onL (graphF p) (memF p free)).length c42) (onL (graphF p) (memF p free)),blk b2 29 (pcL p A0 c0 A1 c1),blk b4 32 [.int .i64 0,.int .i64 0,.int .i64 0]]:=by
  intro g42 c42
  refine anPut hR7 (ZM (i:=0) (rs:=[6,9]) ZK ?_)
  refine ZA J ?_ ?_
  refine Zz (n:=0) (m:=0) J J J (Z7 ?_)
  exact anCov hR7 (an7_29 g42 c42) rfl cv Lh
  refine ZA J ?_ ?_
  refine ZR1 (i:=0) J ZP (by have:=(List.getElem?_eq_some_iff.1 hc44).1;exact this) J (fun u44 hu44=>?_)
  obtain rfl:u44=(c44:Int):=Option.some.inj (hu44.symm.trans hc44)
  refine Z7 ?_
  exact anCov hR7 (an7_31 g42 c42) rfl cv Lh
  refine ZA J ?_ ?_
  refine oAlloc J ZP (fun b9=>?_)
  refine Z7 ?_
  exact anCov hR7 (an7_32 g42 c42 b9) rfl cv Lh
  exact ZB
 have an7_20:R7 7 #[tT,tT,tT,tT,fF,fF,fF,fF,fF,fF,fF] [(38,.pointer (some ⟨b2,0,none⟩)),(39,.slice A0 p.fFuns.length c0),(40,.slice A8 p.fFuns.length c8),(41,.slice F8 p.fFuns.length e8),(2,.pointer (some ⟨b2,0,none⟩)),(4,.pointer (some ⟨b4,0,none⟩)),(5,.slice A8 p.fFuns.length c8),(6,.slice F8 p.fFuns.length e8)] [blk b2 29 (pcL p A0 c0 A1 c1),blk b4 32 [.int .i64 0,.int .i64 0,.int .i64 0]]:=by
  refine anPut hR7 (ZM (i:=4) (rs:=[9]) ZK ?_)
  refine ZA J ?_ ?_
  (refine ZC0 rfl ZK (fun w hS=>frame hS ZQ (fun B' hB hS'=>onRRh hS' hsm free A8 c8 (Kd.C_grow hB hG) F8 e8 (Kd.C_grow hB hM) hne44 B.e)) ?_;rintro ⟨g42,c42⟩ -)
  refine Z7 ?_
  exact anCov hR7 (an7_27 g42 c42) rfl cv Lh
  refine ZA J ?_ ?_
  refine oAlloc J ZP (fun b9=>?_)
  refine Z7 ?_
  exact anCov hR7 (an7_28 b9) rfl cv Lh
  exact ZB
 have an7_22:∀ (b9:Nat),R7 7 #[tT,tT,fF,tT,fF,fF,fF,fF,fF,tT,fF] [(38,.pointer (some ⟨b2,0,none⟩)),(39,.slice A0 p.fFuns.length c0),(41,.slice F8 p.fFuns.length e8),(9,.pointer (some ⟨b9,0,none⟩)),(2,.pointer (some ⟨b2,0,none⟩)),(4,.pointer (some ⟨b4,0,none⟩)),(5,.slice A8 p.fFuns.length c8),(6,.slice F8 p.fFuns.length e8)] [blk b9 49 [.int .i64 0,.int .i64 0,.string ByteArray.empty,.int .i64 0,.slice none 0 0,.int .i64 0,.bool false,.int .i64 0,.int .i64 0,.slice none 0 0,.slice none 0 0,.slice none 0 0,.slice none 0 0],blk b2 29 (pcL p A0 c0 A1 c1),blk b4 32 [.int .i64 0,.int .i64 0,.int .i64 0]]:=by
  intro b9
  refine anPut hR7 (ZM (i:=2) (rs:=[]) ZK ?_)
  refine ZA J ?_ ?_
  refine Zo J (Z7 ?_)
  exact anCov hR7 (an7_28 b9) rfl cv Lh
  exact ZB
 have an7_18:∀ (g42 c42:Nat),R7 8 #[fF,fF,tT,tT,tT,fF,fF,fF,fF,fF,fF] [(40,.slice A8 p.fFuns.length c8),(41,.slice F8 p.fFuns.length e8),(42,.slice (some ⟨g42,0,none⟩) (onL (graphF p) (memF p free)).length c42),(2,.pointer (some ⟨b2,0,none⟩)),(4,.pointer (some ⟨b4,0,none⟩)),(5,.slice A8 p.fFuns.length c8),(6,.slice F8 p.fFuns.length e8)] [row (Kd.int .i64) B.e 3 (.slice (some ⟨g42,0,none⟩) (onL (graphF p) (memF p free)).length c42) (onL (graphF p) (memF p free)),blk b2 29 (pcL p A0 c0 A1 c1),blk b4 32 [.int .i64 0,.int .i64 0,.int .i64 0]]:=by
  intro g42 c42
  refine anPut hR7 (ZM (i:=0) (rs:=[5,9]) ZK ?_)
  refine ZA J ?_ ?_
  refine Zz (n:=0) (m:=0) J J J (Z7 ?_)
  exact anCov hR7 (an7_23 g42 c42) rfl cv Lh
  refine ZA J ?_ ?_
  refine ZR (i:=0) J J ZP (by have:=(List.getElem?_eq_some_iff.1 hc44).1;exact this) J J (fun g43 hg43=>?_)
  injection hg43 with hg43;injection hg43 with hg43;subst hg43
  refine Z7 ?_
  exact anCov hR7 (an7_25 g42 c42) rfl cv Lh
  refine ZA J ?_ ?_
  refine oAlloc J ZP (fun b9=>?_)
  refine Z7 ?_
  exact anCov hR7 (an7_26 g42 c42 b9) rfl cv Lh
  exact ZB
 have an7_19:∀ (b9:Nat),R7 8 #[fF,fF,tT,tT,fF,fF,fF,fF,fF,tT,fF] [(40,.slice A8 p.fFuns.length c8),(41,.slice F8 p.fFuns.length e8),(9,.pointer (some ⟨b9,0,none⟩)),(2,.pointer (some ⟨b2,0,none⟩)),(4,.pointer (some ⟨b4,0,none⟩)),(5,.slice A8 p.fFuns.length c8),(6,.slice F8 p.fFuns.length e8)] [blk b9 49 [.int .i64 0,.int .i64 0,.string ByteArray.empty,.int .i64 0,.slice none 0 0,.int .i64 0,.bool false,.int .i64 0,.int .i64 0,.slice none 0 0,.slice none 0 0,.slice none 0 0,.slice none 0 0],blk b2 29 (pcL p A0 c0 A1 c1),blk b4 32 [.int .i64 0,.int .i64 0,.int .i64 0]]:=by
  intro b9
  refine anPut hR7 (ZM (i:=0) (rs:=[4]) ZK ?_)
  refine ZA J ?_ ?_
  refine Zz (n:=0) (m:=0) J J J (Z7 ?_)
  exact anCov hR7 (an7_24 b9) rfl cv Lh
  refine ZA J ?_ ?_
  (refine ZC0 rfl ZK (fun w hS=>frame hS ZQ (fun B' hB hS'=>onRRh hS' hsm free A8 c8 (Kd.C_grow hB hG) F8 e8 (Kd.C_grow hB hM) hne44 B.e)) ?_;rintro ⟨g42,c42⟩ -)
  refine Z7 ?_
  exact anCov hR7 (an7_26 g42 c42 b9) rfl cv Lh
  exact ZB
 have an7_15:R7 8 #[tT,fF,tT,tT,fF,fF,fF,fF,fF,fF,fF] [(38,.pointer (some ⟨b2,0,none⟩)),(40,.slice A8 p.fFuns.length c8),(41,.slice F8 p.fFuns.length e8),(2,.pointer (some ⟨b2,0,none⟩)),(4,.pointer (some ⟨b4,0,none⟩)),(5,.slice A8 p.fFuns.length c8),(6,.slice F8 p.fFuns.length e8)] [blk b2 29 (pcL p A0 c0 A1 c1),blk b4 32 [.int .i64 0,.int .i64 0,.int .i64 0]]:=by
  refine anPut hR7 (ZM (i:=1) (rs:=[4,9]) ZK ?_)
  refine ZA J ?_ ?_
  refine Zld ?_
  refine Z7 ?_
  exact anCov hR7 (an7_20 ) rfl cv Lh
  refine ZA J ?_ ?_
  (refine ZC0 rfl ZK (fun w hS=>frame hS ZQ (fun B' hB hS'=>onRRh hS' hsm free A8 c8 (Kd.C_grow hB hG) F8 e8 (Kd.C_grow hB hM) hne44 B.e)) ?_;rintro ⟨g42,c42⟩ -)
  refine Z7 ?_
  exact anCov hR7 (an7_23 g42 c42) rfl cv Lh
  refine ZA J ?_ ?_
  refine oAlloc J ZP (fun b9=>?_)
  refine Z7 ?_
  exact anCov hR7 (an7_24 b9) rfl cv Lh
  exact ZB
 have an7_17:∀ (b9:Nat),R7 8 #[tT,fF,fF,tT,fF,fF,fF,fF,fF,tT,fF] [(38,.pointer (some ⟨b2,0,none⟩)),(41,.slice F8 p.fFuns.length e8),(9,.pointer (some ⟨b9,0,none⟩)),(2,.pointer (some ⟨b2,0,none⟩)),(4,.pointer (some ⟨b4,0,none⟩)),(5,.slice A8 p.fFuns.length c8),(6,.slice F8 p.fFuns.length e8)] [blk b9 49 [.int .i64 0,.int .i64 0,.string ByteArray.empty,.int .i64 0,.slice none 0 0,.int .i64 0,.bool false,.int .i64 0,.int .i64 0,.slice none 0 0,.slice none 0 0,.slice none 0 0,.slice none 0 0],blk b2 29 (pcL p A0 c0 A1 c1),blk b4 32 [.int .i64 0,.int .i64 0,.int .i64 0]]:=by
  intro b9
  refine anPut hR7 (ZM (i:=1) (rs:=[2]) ZK ?_)
  refine ZA J ?_ ?_
  refine Zld ?_
  refine Z7 ?_
  exact anCov hR7 (an7_22 b9) rfl cv Lh
  refine ZA J ?_ ?_
  refine Zo J (Z7 ?_)
  exact anCov hR7 (an7_24 b9) rfl cv Lh
  exact ZB
 have an7_14:∀ (b9:Nat),R7 8 #[tT,tT,fF,fF,fF,fF,fF,fF,fF,tT,fF] [(38,.pointer (some ⟨b2,0,none⟩)),(39,.slice A0 p.fFuns.length c0),(9,.pointer (some ⟨b9,0,none⟩)),(2,.pointer (some ⟨b2,0,none⟩)),(4,.pointer (some ⟨b4,0,none⟩)),(5,.slice A8 p.fFuns.length c8),(6,.slice F8 p.fFuns.length e8)] [blk b9 49 [.int .i64 0,.int .i64 0,.string ByteArray.empty,.int .i64 0,.slice none 0 0,.int .i64 0,.bool false,.int .i64 0,.int .i64 0,.slice none 0 0,.slice none 0 0,.slice none 0 0,.slice none 0 0],blk b2 29 (pcL p A0 c0 A1 c1),blk b4 32 [.int .i64 0,.int .i64 0,.int .i64 0]]:=by
  intro b9
  refine anPut hR7 (ZM (i:=2) (rs:=[3]) ZK ?_)
  refine ZA J ?_ ?_
  refine Zo J (Z7 ?_)
  exact anCov hR7 (an7_21 b9) rfl cv Lh
  refine ZA J ?_ ?_
  refine Zo J (Z7 ?_)
  exact anCov hR7 (an7_22 b9) rfl cv Lh
  exact ZB
 have an7_12:R7 8 #[tT,tT,tT,fF,fF,fF,fF,fF,fF,fF,fF] [(38,.pointer (some ⟨b2,0,none⟩)),(39,.slice A0 p.fFuns.length c0),(40,.slice A8 p.fFuns.length c8),(2,.pointer (some ⟨b2,0,none⟩)),(4,.pointer (some ⟨b4,0,none⟩)),(5,.slice A8 p.fFuns.length c8),(6,.slice F8 p.fFuns.length e8)] [blk b2 29 (pcL p A0 c0 A1 c1),blk b4 32 [.int .i64 0,.int .i64 0,.int .i64 0]]:=by
  refine anPut hR7 (ZM (i:=3) (rs:=[9]) ZK ?_)
  refine ZA J ?_ ?_
  refine Zo J (Z7 ?_)
  exact anCov hR7 (an7_20 ) rfl cv Lh
  refine ZA J ?_ ?_
  refine oAlloc J ZP (fun b9=>?_)
  refine Z7 ?_
  exact anCov hR7 (an7_21 b9) rfl cv Lh
  exact ZB
 have an7_13:R7 8 #[tT,tT,fF,tT,fF,fF,fF,fF,fF,fF,fF] [(38,.pointer (some ⟨b2,0,none⟩)),(39,.slice A0 p.fFuns.length c0),(41,.slice F8 p.fFuns.length e8),(2,.pointer (some ⟨b2,0,none⟩)),(4,.pointer (some ⟨b4,0,none⟩)),(5,.slice A8 p.fFuns.length c8),(6,.slice F8 p.fFuns.length e8)] [blk b2 29 (pcL p A0 c0 A1 c1),blk b4 32 [.int .i64 0,.int .i64 0,.int .i64 0]]:=by
  refine anPut hR7 (ZM (i:=2) (rs:=[9]) ZK ?_)
  refine ZA J ?_ ?_
  refine Zo J (Z7 ?_)
  exact anCov hR7 (an7_20 ) rfl cv Lh
  refine ZA J ?_ ?_
  refine oAlloc J ZP (fun b9=>?_)
  refine Z7 ?_
  exact anCov hR7 (an7_22 b9) rfl cv Lh
  exact ZB
 have an7_16:∀ (b9:Nat),R7 8 #[tT,fF,tT,fF,fF,fF,fF,fF,fF,tT,fF] [(38,.pointer (some ⟨b2,0,none⟩)),(40,.slice A8 p.fFuns.length c8),(9,.pointer (some ⟨b9,0,none⟩)),(2,.pointer (some ⟨b2,0,none⟩)),(4,.pointer (some ⟨b4,0,none⟩)),(5,.slice A8 p.fFuns.length c8),(6,.slice F8 p.fFuns.length e8)] [blk b9 49 [.int .i64 0,.int .i64 0,.string ByteArray.empty,.int .i64 0,.slice none 0 0,.int .i64 0,.bool false,.int .i64 0,.int .i64 0,.slice none 0 0,.slice none 0 0,.slice none 0 0,.slice none 0 0],blk b2 29 (pcL p A0 c0 A1 c1),blk b4 32 [.int .i64 0,.int .i64 0,.int .i64 0]]:=by
  intro b9
  refine anPut hR7 (ZM (i:=1) (rs:=[3]) ZK ?_)
  refine ZA J ?_ ?_
  refine Zld ?_
  refine Z7 ?_
  exact anCov hR7 (an7_21 b9) rfl cv Lh
  refine ZA J ?_ ?_
  refine Zo J (Z7 ?_)
  exact anCov hR7 (an7_24 b9) rfl cv Lh
  exact ZB
 have an7_9:R7 9 #[fF,fF,tT,tT,fF,fF,fF,fF,fF,fF,fF] [(40,.slice A8 p.fFuns.length c8),(41,.slice F8 p.fFuns.length e8),(2,.pointer (some ⟨b2,0,none⟩)),(4,.pointer (some ⟨b4,0,none⟩)),(5,.slice A8 p.fFuns.length c8),(6,.slice F8 p.fFuns.length e8)] [blk b2 29 (pcL p A0 c0 A1 c1),blk b4 32 [.int .i64 0,.int .i64 0,.int .i64 0]]:=by
  refine anPut hR7 (ZM (i:=0) (rs:=[4,9]) ZK ?_)
  refine ZA J ?_ ?_
  refine Zz (n:=0) (m:=0) J J J (Z7 ?_)
  exact anCov hR7 (an7_15 ) rfl cv Lh
  refine ZA J ?_ ?_
  (refine ZC0 rfl ZK (fun w hS=>frame hS ZQ (fun B' hB hS'=>onRRh hS' hsm free A8 c8 (Kd.C_grow hB hG) F8 e8 (Kd.C_grow hB hM) hne44 B.e)) ?_;rintro ⟨g42,c42⟩ -)
  refine Z7 ?_
  exact anCov hR7 (an7_18 g42 c42) rfl cv Lh
  refine ZA J ?_ ?_
  refine oAlloc J ZP (fun b9=>?_)
  refine Z7 ?_
  exact anCov hR7 (an7_19 b9) rfl cv Lh
  exact ZB
 have an7_11:∀ (b9:Nat),R7 9 #[fF,fF,fF,tT,fF,fF,fF,fF,fF,tT,fF] [(41,.slice F8 p.fFuns.length e8),(9,.pointer (some ⟨b9,0,none⟩)),(2,.pointer (some ⟨b2,0,none⟩)),(4,.pointer (some ⟨b4,0,none⟩)),(5,.slice A8 p.fFuns.length c8),(6,.slice F8 p.fFuns.length e8)] [blk b9 49 [.int .i64 0,.int .i64 0,.string ByteArray.empty,.int .i64 0,.slice none 0 0,.int .i64 0,.bool false,.int .i64 0,.int .i64 0,.slice none 0 0,.slice none 0 0,.slice none 0 0,.slice none 0 0],blk b2 29 (pcL p A0 c0 A1 c1),blk b4 32 [.int .i64 0,.int .i64 0,.int .i64 0]]:=by
  intro b9
  refine anPut hR7 (ZM (i:=0) (rs:=[2]) ZK ?_)
  refine ZA J ?_ ?_
  refine Zz (n:=0) (m:=0) J J J (Z7 ?_)
  exact anCov hR7 (an7_17 b9) rfl cv Lh
  refine ZA J ?_ ?_
  refine Zo J (Z7 ?_)
  exact anCov hR7 (an7_19 b9) rfl cv Lh
  exact ZB
 have an7_10:∀ (b9:Nat),R7 9 #[fF,fF,tT,fF,fF,fF,fF,fF,fF,tT,fF] [(40,.slice A8 p.fFuns.length c8),(9,.pointer (some ⟨b9,0,none⟩)),(2,.pointer (some ⟨b2,0,none⟩)),(4,.pointer (some ⟨b4,0,none⟩)),(5,.slice A8 p.fFuns.length c8),(6,.slice F8 p.fFuns.length e8)] [blk b9 49 [.int .i64 0,.int .i64 0,.string ByteArray.empty,.int .i64 0,.slice none 0 0,.int .i64 0,.bool false,.int .i64 0,.int .i64 0,.slice none 0 0,.slice none 0 0,.slice none 0 0,.slice none 0 0],blk b2 29 (pcL p A0 c0 A1 c1),blk b4 32 [.int .i64 0,.int .i64 0,.int .i64 0]]:=by
  intro b9
  refine anPut hR7 (ZM (i:=0) (rs:=[3]) ZK ?_)
  refine ZA J ?_ ?_
  refine Zz (n:=0) (m:=0) J J J (Z7 ?_)
  exact anCov hR7 (an7_16 b9) rfl cv Lh
  refine ZA J ?_ ?_
  refine Zo J (Z7 ?_)
  exact anCov hR7 (an7_19 b9) rfl cv Lh
  exact ZB
 have an7_7:R7 9 #[tT,fF,fF,tT,fF,fF,fF,fF,fF,fF,fF] [(38,.pointer (some ⟨b2,0,none⟩)),(41,.slice F8 p.fFuns.length e8),(2,.pointer (some ⟨b2,0,none⟩)),(4,.pointer (some ⟨b4,0,none⟩)),(5,.slice A8 p.fFuns.length c8),(6,.slice F8 p.fFuns.length e8)] [blk b2 29 (pcL p A0 c0 A1 c1),blk b4 32 [.int .i64 0,.int .i64 0,.int .i64 0]]:=by
  refine anPut hR7 (ZM (i:=1) (rs:=[2,9]) ZK ?_)
  refine ZA J ?_ ?_
  refine Zld ?_
  refine Z7 ?_
  exact anCov hR7 (an7_13 ) rfl cv Lh
  refine ZA J ?_ ?_
  refine Zo J (Z7 ?_)
  exact anCov hR7 (an7_15 ) rfl cv Lh
  refine ZA J ?_ ?_
  refine oAlloc J ZP (fun b9=>?_)
  refine Z7 ?_
  exact anCov hR7 (an7_17 b9) rfl cv Lh
  exact ZB
 have an7_6:R7 9 #[tT,fF,tT,fF,fF,fF,fF,fF,fF,fF,fF] [(38,.pointer (some ⟨b2,0,none⟩)),(40,.slice A8 p.fFuns.length c8),(2,.pointer (some ⟨b2,0,none⟩)),(4,.pointer (some ⟨b4,0,none⟩)),(5,.slice A8 p.fFuns.length c8),(6,.slice F8 p.fFuns.length e8)] [blk b2 29 (pcL p A0 c0 A1 c1),blk b4 32 [.int .i64 0,.int .i64 0,.int .i64 0]]:=by
  refine anPut hR7 (ZM (i:=1) (rs:=[3,9]) ZK ?_)
  refine ZA J ?_ ?_
  refine Zld ?_
  refine Z7 ?_
  exact anCov hR7 (an7_12 ) rfl cv Lh
  refine ZA J ?_ ?_
  refine Zo J (Z7 ?_)
  exact anCov hR7 (an7_15 ) rfl cv Lh
  refine ZA J ?_ ?_
  refine oAlloc J ZP (fun b9=>?_)
  refine Z7 ?_
  exact anCov hR7 (an7_16 b9) rfl cv Lh
  exact ZB
 have an7_5:R7 9 #[tT,tT,fF,fF,fF,fF,fF,fF,fF,fF,fF] [(38,.pointer (some ⟨b2,0,none⟩)),(39,.slice A0 p.fFuns.length c0),(2,.pointer (some ⟨b2,0,none⟩)),(4,.pointer (some ⟨b4,0,none⟩)),(5,.slice A8 p.fFuns.length c8),(6,.slice F8 p.fFuns.length e8)] [blk b2 29 (pcL p A0 c0 A1 c1),blk b4 32 [.int .i64 0,.int .i64 0,.int .i64 0]]:=by
  refine anPut hR7 (ZM (i:=2) (rs:=[3,9]) ZK ?_)
  refine ZA J ?_ ?_
  refine Zo J (Z7 ?_)
  exact anCov hR7 (an7_12 ) rfl cv Lh
  refine ZA J ?_ ?_
  refine Zo J (Z7 ?_)
  exact anCov hR7 (an7_13 ) rfl cv Lh
  refine ZA J ?_ ?_
  refine oAlloc J ZP (fun b9=>?_)
  refine Z7 ?_
  exact anCov hR7 (an7_14 b9) rfl cv Lh
  exact ZB
 have an7_8:∀ (b9:Nat),R7 9 #[tT,fF,fF,fF,fF,fF,fF,fF,fF,tT,fF] [(38,.pointer (some ⟨b2,0,none⟩)),(9,.pointer (some ⟨b9,0,none⟩)),(2,.pointer (some ⟨b2,0,none⟩)),(4,.pointer (some ⟨b4,0,none⟩)),(5,.slice A8 p.fFuns.length c8),(6,.slice F8 p.fFuns.length e8)] [blk b9 49 [.int .i64 0,.int .i64 0,.string ByteArray.empty,.int .i64 0,.slice none 0 0,.int .i64 0,.bool false,.int .i64 0,.int .i64 0,.slice none 0 0,.slice none 0 0,.slice none 0 0,.slice none 0 0],blk b2 29 (pcL p A0 c0 A1 c1),blk b4 32 [.int .i64 0,.int .i64 0,.int .i64 0]]:=by
  intro b9
  refine anPut hR7 (ZM (i:=1) (rs:=[2,3]) ZK ?_)
  refine ZA J ?_ ?_
  refine Zld ?_
  refine Z7 ?_
  exact anCov hR7 (an7_14 b9) rfl cv Lh
  refine ZA J ?_ ?_
  refine Zo J (Z7 ?_)
  exact anCov hR7 (an7_16 b9) rfl cv Lh
  refine ZA J ?_ ?_
  refine Zo J (Z7 ?_)
  exact anCov hR7 (an7_17 b9) rfl cv Lh
  exact ZB
 have an7_4:∀ (b9:Nat),R7 10 #[fF,fF,fF,fF,fF,fF,fF,fF,fF,tT,fF] [(9,.pointer (some ⟨b9,0,none⟩)),(2,.pointer (some ⟨b2,0,none⟩)),(4,.pointer (some ⟨b4,0,none⟩)),(5,.slice A8 p.fFuns.length c8),(6,.slice F8 p.fFuns.length e8)] [blk b9 49 [.int .i64 0,.int .i64 0,.string ByteArray.empty,.int .i64 0,.slice none 0 0,.int .i64 0,.bool false,.int .i64 0,.int .i64 0,.slice none 0 0,.slice none 0 0,.slice none 0 0,.slice none 0 0],blk b2 29 (pcL p A0 c0 A1 c1),blk b4 32 [.int .i64 0,.int .i64 0,.int .i64 0]]:=by
  intro b9
  refine anPut hR7 (ZM (i:=0) (rs:=[2,3]) ZK ?_)
  refine ZA J ?_ ?_
  refine Zz (n:=0) (m:=0) J J J (Z7 ?_)
  exact anCov hR7 (an7_8 b9) rfl cv Lh
  refine ZA J ?_ ?_
  refine Zo J (Z7 ?_)
  exact anCov hR7 (an7_10 b9) rfl cv Lh
  refine ZA J ?_ ?_
  refine Zo J (Z7 ?_)
  exact anCov hR7 (an7_11 b9) rfl cv Lh
  exact ZB
 have an7_2:R7 10 #[fF,fF,tT,fF,fF,fF,fF,fF,fF,fF,fF] [(40,.slice A8 p.fFuns.length c8),(2,.pointer (some ⟨b2,0,none⟩)),(4,.pointer (some ⟨b4,0,none⟩)),(5,.slice A8 p.fFuns.length c8),(6,.slice F8 p.fFuns.length e8)] [blk b2 29 (pcL p A0 c0 A1 c1),blk b4 32 [.int .i64 0,.int .i64 0,.int .i64 0]]:=by
  refine anPut hR7 (ZM (i:=0) (rs:=[3,9]) ZK ?_)
  refine ZA J ?_ ?_
  refine Zz (n:=0) (m:=0) J J J (Z7 ?_)
  exact anCov hR7 (an7_6 ) rfl cv Lh
  refine ZA J ?_ ?_
  refine Zo J (Z7 ?_)
  exact anCov hR7 (an7_9 ) rfl cv Lh
  refine ZA J ?_ ?_
  refine oAlloc J ZP (fun b9=>?_)
  refine Z7 ?_
  exact anCov hR7 (an7_10 b9) rfl cv Lh
  exact ZB
 have an7_3:R7 10 #[fF,fF,fF,tT,fF,fF,fF,fF,fF,fF,fF] [(41,.slice F8 p.fFuns.length e8),(2,.pointer (some ⟨b2,0,none⟩)),(4,.pointer (some ⟨b4,0,none⟩)),(5,.slice A8 p.fFuns.length c8),(6,.slice F8 p.fFuns.length e8)] [blk b2 29 (pcL p A0 c0 A1 c1),blk b4 32 [.int .i64 0,.int .i64 0,.int .i64 0]]:=by
  refine anPut hR7 (ZM (i:=0) (rs:=[2,9]) ZK ?_)
  refine ZA J ?_ ?_
  refine Zz (n:=0) (m:=0) J J J (Z7 ?_)
  exact anCov hR7 (an7_7 ) rfl cv Lh
  refine ZA J ?_ ?_
  refine Zo J (Z7 ?_)
  exact anCov hR7 (an7_9 ) rfl cv Lh
  refine ZA J ?_ ?_
  refine oAlloc J ZP (fun b9=>?_)
  refine Z7 ?_
  exact anCov hR7 (an7_11 b9) rfl cv Lh
  exact ZB
 have an7_1:R7 10 #[tT,fF,fF,fF,fF,fF,fF,fF,fF,fF,fF] [(38,.pointer (some ⟨b2,0,none⟩)),(2,.pointer (some ⟨b2,0,none⟩)),(4,.pointer (some ⟨b4,0,none⟩)),(5,.slice A8 p.fFuns.length c8),(6,.slice F8 p.fFuns.length e8)] [blk b2 29 (pcL p A0 c0 A1 c1),blk b4 32 [.int .i64 0,.int .i64 0,.int .i64 0]]:=by
  refine anPut hR7 (ZM (i:=1) (rs:=[2,3,9]) ZK ?_)
  refine ZA J ?_ ?_
  refine Zld ?_
  refine Z7 ?_
  exact anCov hR7 (an7_5 ) rfl cv Lh
  refine ZA J ?_ ?_
  refine Zo J (Z7 ?_)
  exact anCov hR7 (an7_6 ) rfl cv Lh
  refine ZA J ?_ ?_
  refine Zo J (Z7 ?_)
  exact anCov hR7 (an7_7 ) rfl cv Lh
  refine ZA J ?_ ?_
  refine oAlloc J ZP (fun b9=>?_)
  refine Z7 ?_
  exact anCov hR7 (an7_8 b9) rfl cv Lh
  exact ZB
 refine anPut hR7 (ZM (i:=0) (rs:=[2,3,9]) ZK ?_)
 refine ZA J ?_ ?_
 refine Zz (n:=0) (m:=0) J J J (Z7 ?_)
 exact anCov hR7 (an7_1 ) rfl cv Lh
 refine ZA J ?_ ?_
 refine Zo J (Z7 ?_)
 exact anCov hR7 (an7_2 ) rfl cv Lh
 refine ZA J ?_ ?_
 refine Zo J (Z7 ?_)
 exact anCov hR7 (an7_3 ) rfl cv Lh
 refine ZA J ?_ ?_
 refine oAlloc J ZP (fun b9=>?_)
 refine Z7 ?_
 exact anCov hR7 (an7_4 b9) rfl cv Lh
 exact ZB
 have hok:okN p free=true:=by first | exact decide_eq_true (Classical.not_not.1 h37) | simpa using h37
 have hdl:(dN p free).length=p.fFuns.length:=dN_len hok
 obtain ⟨d0e,hd0e⟩:∃ d,(dN p free)[e0]?=some d:=⟨_,List.getElem?_eq_getElem ZO⟩
 have hin:=dN_in p free e0
 rw [getD_at hd0e] at hin
 obtain ⟨e1,cs1,hE0⟩:=hD.elm hd0e
 obtain rfl:=(show cs1=[Value.int .i64 d0e] from hE0.K)
 have hdf:deepF p free p.fEntry=decide (56<1+d0e):=by rw [he0];exact deepF_at hd0e
 refine Zj (Za (Zh (Zh (Zi (Zo J (Zz (n:=2) (m:=2) J J J (Zld ?_)))))))
 refine ZS0 (t:=54) (v':=.int .i64 (e0:Int)) rfl (by rw [he0]) ?_
 refine oIdxE J J (hE0) ZO J J ?_
 have hc55:=(hE0).cell
 refine Zlx hc55 ?_
 first | refine oAdd rfl rfl ZO ?_ | refine oAddW rfl rfl ?_
 refine Z1 J J (Zn (Za (wC (fun h58=>?_) (fun h58=>?_))))
 refine Zh (Zi (oBuild (Parts.cons J (Parts.cons J (Parts.cons J Parts.nil))) J J (Built.cons (off:=0) (s:=1) J ZP J ZP (Built.cons (off:=1) (s:=1) J ZP J ZP (Built.cons (off:=2) (s:=1) J ZP J ZP Built.nil))) ?_))
 refine Zsa ?_
 refine Zn (Za (Zl (Zc (Zw (ZI ?_)))))
 exact ⟨(),trivial,by rw [chk_ent he1 he2 hok (by rw [hdf,decide_eq_true_eq];first | exact h58 | omega)];rfl,Lh⟩
 have hd:deepF p free p.fEntry=false:=by rw [hdf,decide_eq_false_iff_not];first | exact h58 | omega
 refine Zj (Zzm ?_)
 (refine ZC0 rfl ZK (fun w hS=>frame hS ZQ (fun B' hB hS'=>ref26_Called hS' p _ (gPg hB hp) hsm B.e)) ?_;rintro ⟨C8,d8⟩ -)
 refine Zp J (Zn (Za (wFreeze [row Kd.bool B.e 4 (.slice C8 p.fFuns.length d8) (calledL p)] ZQ (fun B2 hB2 hq2=>?_))))
 have hCl:=row_Cs (W:=B.e) (e:=4) (n:=p.fFuns.length) (cp:=d8) (xs:=calledL p) (hq2 _ _ ZP)
 have hG:=Kd.C_grow hB2 hG
 have hM:=Kd.C_grow hB2 hM
 have hD:=Kd.C_grow hB2 hD
 have g0:=Kd.C_grow hB2 g0
 refine Zh (Zh (Zi (Zp J (Zn (Za (Zk (wLoop (ι:=Nat) (fun i=>[(2,.pointer (some ⟨b2,0,none⟩)),(4,.pointer (some ⟨b4,0,none⟩)),(5,.slice A8 p.fFuns.length c8),(6,.slice F8 p.fFuns.length e8),(7,.slice A9 (dN p free).length c9),(10,.slice C8 p.fFuns.length d8),(11,.int .i64 (i:Int))]) (fun i=>[blk b2 29 (pcL p A0 c0 A1 c1),blk b4 32 [.int .i64 0,.int .i64 0,.int .i64 0]]) (fun i=>i≤p.fFuns.length∧∀ j,j<i→badF p free j=false) (fun i=>p.fFuns.length-i) 0 ?_ cv Lh ?_)))))))
 exact ⟨Nat.zero_le _,fun j hj=>by omega⟩
 rintro i ⟨hi,hs⟩
 try dsimp only
 refine Zh (Zh (Zi (Zo J (Zz (n:=0) (m:=0) J J J (Zld ?_)))))
 refine Zv J J (Zx J J (Zn (Za (wC (fun h66=>?_) (fun h66=>?_)))))
 obtain ⟨l,hl⟩:∃ l,(graphF p)[i]?=some l:=⟨_,List.getElem?_eq_getElem ZO⟩
 obtain ⟨e2,cs2,hEg⟩:=hG.elm hl
 obtain ⟨Al,cl,rfl,hll,hCr⟩:=hEg.K
 have hlb:=hCr.1
 obtain ⟨uc,huc⟩:∃ u,(calledL p)[i]?=some u:=⟨_,List.getElem?_eq_getElem ZO⟩
 obtain ⟨e3,cs3,hEc⟩:=hCl.elm huc
 obtain rfl:=(show cs3=[Value.bool uc] from hEc.K)
 obtain ⟨um,hum⟩:∃ u,(memF p free)[i]?=some u:=⟨_,List.getElem?_eq_getElem ZO⟩
 obtain ⟨e4,cs4,hEm⟩:=hM.elm hum
 obtain rfl:=(show cs4=[Value.bool um] from hEm.K)
 obtain ⟨f,hf⟩:∃ f,p.fFuns[i]?=some f:=⟨_,List.getElem?_eq_getElem ZO⟩
 obtain ⟨e1,cs1,hE⟩:=g0.elm hf
 have hEK:=hE.K
 obtain ⟨D0,d0,D1,d1,D2,d2,D3,d3,D4,d4,rfl,m0,q0,m1,q1,m2,q2,m3,q3,m4,q4⟩:=kApiFun_open hE.K
 refine Zj (Za (Zh (Zk (Zh (Zi (Zp J (Zn (Za (Zk (wLoop (ι:=Nat) (fun j=>[(2,.pointer (some ⟨b2,0,none⟩)),(4,.pointer (some ⟨b4,0,none⟩)),(5,.slice A8 p.fFuns.length c8),(6,.slice F8 p.fFuns.length e8),(7,.slice A9 (dN p free).length c9),(10,.slice C8 p.fFuns.length d8),(11,.int .i64 (i:Int)),(12,.int .i64 (j:Int))]) (fun j=>[blk b2 29 (pcL p A0 c0 A1 c1),blk b4 32 [.int .i64 0,.int .i64 0,.int .i64 0]]) (fun j=>j≤l.length∧∀ y ∈ l.take j,bdY p free i y=false) (fun j=>l.length-j) 0 ?_ cv Lh ?_))))))))))
 exact ⟨Nat.zero_le _,by simp⟩
 rintro j ⟨hj,hsj⟩
 try dsimp only
 refine Zh (Zh (Zi (Zo J (Zo J (Zo J (oIdxE J J (hEg) ZO J J ?_))))))
 have hc72:=(hEg).cell
 refine Zlx hc72 ?_
 refine Zv J J (Zx J J (Zn (Za (wC (fun h75=>?_) (fun h75=>?_)))))
 obtain ⟨y,hy⟩:∃ y,l[j]?=some y:=⟨_,List.getElem?_eq_getElem ZO⟩
 obtain ⟨e5,cs5,hEy⟩:=hCr.elm hy
 obtain rfl:=(show cs5=[Value.int .i64 y] from hEy.K)
 obtain ⟨yc,rfl,hyl⟩:=eg_in (p:=p) (i:=i) ZO (x:=y) (by rw [getD_at hl];exact List.mem_of_getElem? hy)
 obtain ⟨dy,hdy⟩:∃ d,(dN p free)[yc]?=some d:=⟨_,List.getElem?_eq_getElem ZO⟩
 have hiny:=dN_in p free yc
 rw [getD_at hdy] at hiny
 obtain ⟨e6,cs6,hEd⟩:=hD.elm hdy
 obtain rfl:=(show cs6=[Value.int .i64 dy] from hEd.K)
 have hdfy:=deepF_at hdy
 refine Zj (Za (Zh (Zk (Zh (Zi (Zo J (Zo J (oIdxE J J (hEc) ZO J J ?_))))))))
 have hc80:=(hEc).cell
 refine Zlx hc80 ?_
 refine Zo J (ZS (ZT 82) (fun h82=>?_) (fun h82=>?_))
 refine Zq J J (Zo J (Zq J J (Zo J (Zq J J (oIdxE J J (hEm) ZO J J ?_)))))
 have hc85:=(hEm).cell
 refine Zq J J (Zlx hc85 ?_)
 refine Zq J J (Zno ?_)
 refine Zt J J (Zo J (ZS (ZT 89) (fun h89=>?_) (fun h89=>?_)))
 refine Zq J J (Zo J (Zq J J (Zo J (Zq J J (Zo J (Zq J J (oIdxE J J (hEg) ZO J J ?_)))))))
 have hc93:=(hEg).cell
 refine Zq J J (Zlx hc93 ?_)
 refine Zq J J (Zo J (Zq J J (oIdxE J J (hEy) ZO J J ?_)))
 have hc96:=(hEy).cell
 refine Zq J J (Zlx hc96 ?_)
 refine Zq J J (oIdxE J J (hEd) ZO J J ?_)
 have hc98:=(hEd).cell
 refine Zq J J (Zlx hc98 ?_)
 refine Zq J J ?_
 first | refine oAdd rfl rfl ZO ?_ | refine oAddW rfl rfl ?_
 refine Zq J J (Z1 J J (Zt J J (Zn (Za (wC (fun h102=>?_) (fun h102=>?_))))))
 refine Zh (wDrawG J [0,1,2,3,4,5,6,7,8,9,10,11,12] [] [13] 24 ZK J J (fun w0=>?_))
 refine Zz (n:=0) (m:=0) J J J (Zld ?_)
 refine Zo J (oIdxE J J (hE) ZO J J ?_)
 have hc106:=(hE).cell
 refine ZF (ZT 0) (ZT 0) ?_
 refine Zlx hc106 ?_
 refine Zz (n:=0) (m:=0) J J J (Zld ?_)
 refine Zo J (oIdxE J J (hE) ZO J J ?_)
 have hc112:=(hE).cell
 refine ZF (ZT 1) (ZT 1) ?_
 refine Zlx hc112 ?_
 refine oBuild (Parts.cons J (Parts.cons J (Parts.cons J Parts.nil))) J J (Built.cons (off:=0) (s:=1) J ZP J ZP (Built.cons (off:=1) (s:=1) J ZP J ZP (Built.cons (off:=2) (s:=1) J ZP J ZP Built.nil))) ?_
 refine Z6 (Zsa ?_)
 refine Zn (Za (Zl (Zf (Zc (Zc (Zf (Zf (Zc (Zc (Zf (Zc (Zw (ZI ?_)))))))))))))
 exact ⟨(),trivial,by rw [chk_bad he1 he2 hok hd (bad_4 hl (by rw [huc];congr 1) (by rw [hum];congr 1;simpa using h89) (List.mem_of_getElem? hy) (by rw [hdfy,decide_eq_true_eq];first | exact h102 | omega)) hs hf];rfl,Lh⟩
 have hby:bdY p free i (yc:Int)=false:=by unfold bdY;rw [hdfy,decide_eq_false (by first | exact h102 | omega)];simp
 refine Zj (Zzd ?_)
 refine Zp J (Zn (Za ?_))
 exact ⟨rfl,j+1,⟨by omega,take_not hsj hy hby⟩,by omega,cv,Lh⟩
 have hby:bdY p free i (yc:Int)=false:=by unfold bdY;rw [getD_at hum,show um=true by simpa using h89];simp
 refine Zr J J J J (Zr J J J J (Zr J J J J (Zr J J J J (Zr J J J J (Zr J J J J (Zr J J J J (Zr J J J J (Zr J J J J (Zr J J J J (Zr J J J J (Zr J J J J (Zu J J (Zn (Za (wCondF J (Zj (Zzd ?_)))))))))))))))))
 refine Zp J (Zn (Za ?_))
 exact ⟨rfl,j+1,⟨by omega,take_not hsj hy hby⟩,by omega,cv,Lh⟩
 have hby:bdY p free i (yc:Int)=false:=by unfold bdY;rw [getD_at huc,show uc=false from h82];simp
 refine Zr J J J J (Zr J J J J (Zr J J J J (Zr J J J J (Zr J J J J (Zu J J (Zo J (Zr J J J J (Zr J J J J (Zr J J J J (Zr J J J J (Zr J J J J (Zr J J J J (Zr J J J J (Zr J J J J (Zr J J J J (Zr J J J J (Zr J J J J (Zr J J J J (Zu J J (Zn (Za (wCondF J (Zj (Zzd ?_))))))))))))))))))))))))
 refine Zp J (Zn (Za ?_))
 exact ⟨rfl,j+1,⟨by omega,take_not hsj hy hby⟩,by omega,cv,Lh⟩
 obtain rfl:j=l.length:=by omega
 rw [List.take_length] at hsj
 have hbf:badF p free i=false:=bad_5 hl hsj
 refine Zm (Zb (Zb (Ze (Zzd ?_))))
 refine Zp J (Zn (Za ?_))
 exact ⟨rfl,i+1,⟨by omega,fun j hj=>by rcases Nat.lt_succ_iff_lt_or_eq.1 hj with h | rfl;exact hs j h;exact hbf⟩,by omega,cv,Lh⟩
 obtain rfl:i=p.fFuns.length:=by omega
 refine Zm (Zb (Zb (Ze (Za (Zh (Zi (oBuild Parts.nil J J Built.nil (Zsa ?_))))))))
 refine Zn (Za (Zl (Zw (ZI ?_))))
 exact ⟨(),trivial,by rw [chk_fine he1 he2 hok hd hs];rfl,Lh⟩
theorem two_frm:frmL twoP=[2,10,70,1]:=by decide
theorem two_nos:nosL twoP=[false,true,false,false]:=by decide
theorem two_mem (free:List Bool):memF twoP free=[free.getD 0 false,free.getD 1 false,free.getD 2 false,false]:=by
 unfold memF
 rw [two_called]
 show (List.range 4).map _=_
 rw [show List.range 4=[0,1,2,3] by decide]
 simp
theorem two_dN (free:List Bool):dN twoP free=DLo [[1,2],[],[],[]] [free.getD 0 false,free.getD 1 false,free.getD 2 false,false] [2,10,70,1] 1 1:=by
 unfold dN;rw [two_graph,two_mem,two_frm]
theorem two_okN (free:List Bool):okN twoP free=okO [[1,2],[],[],[]] [free.getD 0 false,free.getD 1 false,free.getD 2 false,false]:=by
 unfold okN;rw [two_graph,two_mem]
theorem ok_fff:okN twoP [false,true,false,false]=true:=by rw [two_okN];decide
theorem dN_fff:dN twoP [false,true,false,false]=[1,10,1,1]:=by rw [two_dN];decide
theorem ok_all:okN twoP [true,true,true,true]=true:=by rw [two_okN];decide
theorem dN_all:dN twoP [true,true,true,true]=[73,10,70,1]:=by rw [two_dN];decide
theorem way_all:wayN twoP [true,true,true,true] 0=[0,2]:=by
 unfold wayN
 rw [two_graph,two_mem,two_frm]
 show wsL [[1,2],[],[],[]] [true,true,true,false] [2,10,70,1] 1 1 ((0:Nat):Int)=[0,2]
 rw [wsL_yes (k:=0) (by decide) (by decide),show DL [[1,2],[],[],[]] [true,true,true,false] [2,10,70,1] 1 1=[73,10,70,1] from by decide]
 rw [show ([[1,2],[],[],[]]:Graph).length+1=3+1+1 from rfl,wy_go (c:=2) (by decide) (by rw [← bTo_all];decide),wy_stop (.inr (by rw [← bTo_all];decide))]
 rfl
theorem find_none {P:Nat→Bool}{n:Nat}(h:∀ i,i<n→P i=false):(List.range n).find? P=none:=List.find?_eq_none.2 (fun i hi=>by rw [h i (List.mem_range.1 hi)];simp)
theorem chk_two {free:List Bool}{D:List Int}(h1:okN twoP free=true) (h2:dN twoP free=D) (h3:D.getD 0 0≤55) (h4:free.getD 0 false=true∨(D.getD 1 0≤55∧D.getD 2 0≤55)):checkN twoP free=(0,0,0):=by
  unfold checkN
  rw [if_pos (by decide),if_pos h1,if_neg (by unfold deepF;rw [h2];simp only [decide_eq_true_eq];show ¬ 56<1+D.getD (Int.toNat 0) 0;rw [Int.toNat_zero];omega)]
  rw [find_none (P:=badF twoP free) (n:=twoP.fFuns.length) (fun i hi=>?_)]
  unfold badF deepF
  rw [two_graph,two_mem,two_called,h2]
  match i,hi with
  | 0,_=>
    rcases h4 with h4 | h4
    · rw [h4];rfl
    · cases free.getD 0 false
      · show ([1,2].any fun x=>decide (56<1+D.getD (Int.toNat x) 0))=false
        rw [List.any_eq_false]
        intro x hx
        rcases List.mem_cons.1 hx with rfl | hx
        · show ¬ decide (56<1+D.getD 1 0)=true;rw [decide_eq_true_eq];omega
        · obtain rfl:=List.mem_singleton.1 hx
          show ¬ decide (56<1+D.getD 2 0)=true;rw [decide_eq_true_eq];omega
      · rfl
  | 1,_=>simp
  | 2,_=>simp
  | 3,_=>simp
theorem chk_fff:checkN twoP [false,true,false,false]=(0,0,0):=chk_two ok_fff dN_fff (by decide) (.inr (by decide))
theorem chk_deep {free:List Bool}{D:List Int}(h1:okN twoP free=true) (h2:dN twoP free=D) (h3:56≤D.getD 0 0):checkN twoP free=(18,-1,-1):=by
 unfold checkN
 rw [if_pos (by decide),if_pos h1,if_pos (by unfold deepF;rw [h2];simp only [decide_eq_true_eq];show 56<1+D.getD (Int.toNat 0) 0;rw [Int.toNat_zero];omega)]
theorem chk_all:checkN twoP [true,true,true,true]=(18,-1,-1):=chk_deep ok_all dN_all (by decide)
theorem known27 {B:Base}{w:World}(hS:St B [] w) :
 CW 38 #[] w (Ret B (fun _:Unit=>True) (fun _=>.bool true) (fun _=>[])):=by
 refine ZX Tryz.func38 hS ?_
 refine Zh (Zi (Zp J (Zn (Za (Zh (Zi ?_))))))
 (refine ZC0 rfl ZK (fun w hS=>frame hS ZQ (fun B' hB hS'=>law_Two hS' B.e)) ?_;rintro ⟨A2,S2⟩ -)
 refine oAlloc J ZP (fun b1=>?_)
 refine Zsa ?_
 refine Zn (Zzm ?_)
 (refine ZD J (fun w B' hB hR hS'=>chain_Nosplit hS' twoP _ (two_K (A:=A2) (rdr_C (hR _ _ ZP) hB) (by decide)) two_small B.e) ?_;rintro ⟨A8,c8⟩ -)
 rw [two_nos]
 refine Zp J (Zn (Zzm ?_))
 refine Zo J ?_
 (refine ZD J (fun w B' hB hR hS'=>chain_Needs hS' twoP _ (two_K (A:=A2) (rdr_C (hR _ _ ZP) hB) (by decide)) two_small [false,true,false,false] A8 c8 (row_Cs (W:=B.e) (e:=4) (A:=A8) (n:=twoP.fFuns.length) (cp:=c8) (xs:=[false,true,false,false]) (hR _ _ ZP)) B.e) ?_;rintro ⟨A12,c12⟩ -)
 rw [dN_fff,ok_fff]
 refine Zo J (oExt J ZP ?_)
 refine oExt J ZP ?_
 refine Zp J (Zp J (Zn (Za (Zh (Zi ?_)))))
 refine oBuildSliceF (Parts.cons J (Parts.cons J (Parts.cons J (Parts.cons J Parts.nil)))) J J J J J (Fulls.cons ZP J (Fulls.cons ZP J (Fulls.cons ZP J (Fulls.cons ZP J Fulls.nil ap) ap) ap) ap) (fun b15=>?_)
 refine oConv (blk_row (enc:=Value.bool) (h1:=fun _=>J) (W:=B.e) (xs:=([true,true,true,true]:List Bool)) (n:=4) ZP J J (by decide)) ?_
 refine Zp J (Zn (Zzn ?_))
 refine oBuildSliceF (Parts.cons J (Parts.cons J (Parts.cons J (Parts.cons J Parts.nil)))) J J J J J (Fulls.cons ZP J (Fulls.cons ZP J (Fulls.cons ZP J (Fulls.cons ZP J Fulls.nil ap) ap) ap) ap) (fun b17=>?_)
 refine oConv (blk_row (enc:=Value.bool) (h1:=fun _=>J) (W:=B.e) (xs:=([false,true,false,false]:List Bool)) (n:=4) ZP J J (by decide)) ?_
 (refine ZD J (fun w B' hB hR hS'=>ref01_Bools hS' [false,true,false,false] A8 c8 (row_Cs (W:=B.e) (e:=4) (A:=A8) (n:=twoP.fFuns.length) (cp:=c8) (xs:=[false,true,false,false]) (hR _ _ ZP)) (some ⟨b17,0,none⟩) 4 (row_Cs (W:=B.e) (e:=4) (A:=(some ⟨b17,0,none⟩)) (n:=4) (cp:=4) (xs:=[false,true,false,false]) (hR _ _ ZP))) ?_;rintro ⟨⟩ -)
 refine Zo J (Zq J J (Zo J (Zq J J ?_)))
 refine oBuildSliceF (Parts.cons J (Parts.cons J (Parts.cons J (Parts.cons J Parts.nil)))) J J J J J (Fulls.cons ZP J (Fulls.cons ZP J (Fulls.cons ZP J (Fulls.cons ZP J Fulls.nil ap) ap) ap) ap) (fun b21=>?_)
 refine oConv (blk_row (enc:=Value.int .i64) (h1:=fun _=>J) (W:=B.e) (xs:=([1,10,1,1]:List Int)) (n:=4) ZP J J (by decide)) ?_
 refine Zq J J ?_
 (refine ZD J (fun w B' hB hR hS'=>ints_any hS' A12 c12 [1,10,1,1] (row_Cs (W:=B.e) (e:=3) (A:=A12) (n:=([1,10,1,1]:List Int).length) (cp:=c12) (xs:=[1,10,1,1]) (hR _ _ ZP)) (some ⟨b21,0,none⟩) 4 [1,10,1,1] (row_Cs (W:=B.e) (e:=3) (A:=(some ⟨b21,0,none⟩)) (n:=4) (cp:=4) (xs:=[1,10,1,1]) (hR _ _ ZP))) ?_;rintro ⟨⟩ -)
 rw [show decide (([1,10,1,1]:List Int)=[1,10,1,1])=true by decide]
 refine Zt J J (Zo J (Zq J J (Zo J (Zt J J (Zo J (Zq J J (Zla ?_)))))))
 refine Zq J J (Zo J (Zq J J ?_))
 (refine ZD J (fun w B' hB hR hS'=>chain_Check hS' twoP _ (two_K (A:=A2) (rdr_C (hR _ _ ZP) hB) (by decide)) two_small [false,true,false,false] A8 c8 (row_Cs (W:=B.e) (e:=4) (A:=A8) (n:=twoP.fFuns.length) (cp:=c8) (xs:=[false,true,false,false]) (hR _ _ ZP))) ?_;rintro ⟨⟩ -)
 rw [chk_fff]
 refine Zq J J (oBuild Parts.nil J J Built.nil (Zq J J (oBinV (r:=.bool true) J J (fun w=>run_eqGuard_agg w .eql _ _ _ _ _ Tryz.eqGuardType32) (fun w=>rej_eql (0,0,0) (0,0,0) w) ?_)))
 refine Zt J J (Zo J (Zq J J (Zla ?_)))
 refine Zq J J (Zo J (Zq J J ?_))
 (refine ZD J (fun w B' hB hR hS'=>chain_Check hS' twoP _ (two_K (A:=A2) (rdr_C (hR _ _ ZP) hB) (by decide)) two_small [true,true,true,true] (some ⟨b15,0,none⟩) 4 (row_Cs (W:=B.e) (e:=4) (A:=(some ⟨b15,0,none⟩)) (n:=4) (cp:=4) (xs:=[true,true,true,true]) (hR _ _ ZP))) ?_;rintro ⟨⟩ -)
 rw [chk_all]
 refine Zq J J (oBuild (Parts.cons J (Parts.cons J (Parts.cons J Parts.nil))) J J (Built.cons (off:=0) (s:=1) J ZP J ZP (Built.cons (off:=1) (s:=1) J ZP J ZP (Built.cons (off:=2) (s:=1) J ZP J ZP Built.nil))) ?_)
 refine Zq J J (oBinV (r:=.bool true) J J (fun w=>run_eqGuard_agg w .eql _ _ _ _ _ Tryz.eqGuardType32) (fun w=>rej_eql (18,-1,-1) (18,-1,-1) w) ?_)
 refine Zt J J (Zo J (Zq J J (Zla ?_)))
 refine Zq J J (Zo J (Zq J J ?_))
 (refine ZD J (fun w B' hB hR hS'=>chain_Way hS' twoP _ (two_K (A:=A2) (rdr_C (hR _ _ ZP) hB) (by decide)) two_small [true,true,true,true] (some ⟨b15,0,none⟩) 4 (row_Cs (W:=B.e) (e:=4) (A:=(some ⟨b15,0,none⟩)) (n:=4) (cp:=4) (xs:=[true,true,true,true]) (hR _ _ ZP)) 0 B.e) ?_;rintro ⟨A44,c44⟩ -)
 rw [way_all]
 refine Zq J J ?_
 refine oBuildSliceF (Parts.cons J (Parts.cons J Parts.nil)) J J J J J (Fulls.cons ZP J (Fulls.cons ZP J Fulls.nil ap) ap) (fun b45=>?_)
 refine oConv (blk_row (enc:=Value.int .i64) (h1:=fun _=>J) (W:=B.e) (xs:=([0,2]:List Int)) (n:=2) ZP J J (by decide)) ?_
 refine Zq J J ?_
 (refine ZD J (fun w B' hB hR hS'=>ints_any hS' A44 c44 [0,2] (row_Cs (W:=B.e) (e:=3) (A:=A44) (n:=([0,2]:List Int).length) (cp:=c44) (xs:=[0,2]) (hR _ _ ZP)) (some ⟨b45,0,none⟩) 2 [0,2] (row_Cs (W:=B.e) (e:=3) (A:=(some ⟨b45,0,none⟩)) (n:=2) (cp:=2) (xs:=[0,2]) (hR _ _ ZP))) ?_;rintro ⟨⟩ -)
 rw [show decide (([0,2]:List Int)=[0,2])=true by decide]
 refine Zt J J (Zza ?_)
 exact ⟨(),trivial,rfl,Lh⟩
theorem chainTells {B:Base}{w:World}(hS:St B [] w) (A:Option Addr) (cp:Nat) (l:List ApiObject) (hC:kApiObject.C B.e A l) (hv:∀ o ∈ l,vApiObject o) (A':Option Addr) (c':Nat) (free:List Bool) (hF:Kd.bool.C B.e A' free) (at_ entry:Int) :
 CW 8 #[.slice A l.length cp,.slice A' free.length c',.int .i64 at_,.int .i64 entry] w (Ret B (fun _:Unit=>True) (fun _=>.bool true) (fun _=>[])):=by
 refine ZX Tryz.func8 hS ?_
 refine Zh (Zi (Zp J (Zn (Za (Zzv ?_)))))
 (refine ZC0 rfl ZK (fun w hS=>frame hS ZQ (fun B' hB hS'=>law27_few hS' A cp l B.e hB hC hv free A' c')) ?_;rintro ⟨z,e,ok⟩ ⟨hz,hzp⟩)
 dsimp only at hz hzp ⊢
 refine Zo J (oExt J ZP ?_)
 refine oExt J ZP ?_
 refine oAlloc J ZP (fun b9=>?_)
 refine Zsa ?_
 refine Zp J (Zn (Za (Zh (Zh (Zi (Zo J (Zno ?_)))))))
 refine Zn (Za (wC (fun h22=>?_) (fun h22=>?_)))
 refine Zh (Zi ?_)
 (refine ZC0 rfl ZK (fun w hS=>frame hS ZQ (fun B' hB hS'=>known27 hS')) ?_;rintro ⟨⟩ -)
 refine Zp J (Zn (Za (Zl (Zc (Zw (fi1 J ?_))))))
 exact ⟨(),trivial,rfl,Lh⟩
 obtain ⟨hsp,hpe,hbr,hfr⟩:=hzp (by simpa using h22)
 have hsn:SmallP (z.prog entry):=⟨hsp.funs,hsp.dats,hsp.fn,hsp.dt⟩
 have hnl:(nosL (z.prog e)).length=(z.prog e).fFuns.length:=by unfold nosL;simp
 refine Zj (Zzm ?_)
 refine Zo J ?_
 (refine ZD J (fun w B' hB hR hS'=>chain_Needs hS' (z.prog e) _ (prog_K hz (hR _ _ ZP) (hR _ _ ZP) (hR _ _ ZP) (hR _ _ ZP) hB e) hsp free A' c' (Kd.C_grow hB hF) B.e) ?_;rintro ⟨A27,c27⟩ -)
 refine Zo J (oExt J ZP ?_)
 refine oExt J ZP ?_
 refine Zp J (Zp J (Zn (Zzm ?_)))
 refine Zo J ?_
 (refine ZD J (fun w B' hB hR hS'=>ref27_Needs hS' (z.prog e) _ (prog_K hz (hR _ _ ZP) (hR _ _ ZP) (hR _ _ ZP) (hR _ _ ZP) hB e) hsp free A' c' (Kd.C_grow hB hF) B.e) ?_;rintro ⟨A33,c33⟩ -)
 refine Zo J (oExt J ZP ?_)
 refine oExt J ZP ?_
 refine Zp J (Zp J (Zn (Za (Zh (Zh (wDrawG J [0,2] [(1,[2],[]),(3,[],[]),(4,[],[5,6,7,8]),(9,[],[10,11,12,13,14,15,16,17,18,19,21,22]),(20,[21,22],[]),(23,[],[24,25,26,27,28,29,31,32,33]),(30,[31,32,33],[]),(34,[],[]),(35,[],[36,37])] [] 24 ZK J J (fun w0=>?_)))))))
 refine Zla ?_
 refine Zla ?_
 refine Z4 (Z5 J ?_)
 (refine ZD J (fun w B' hB hR hS'=>chain_Nosplit hS' (z.prog e) _ (prog_K hz (hR _ _ ZP) (hR _ _ ZP) (hR _ _ ZP) (hR _ _ ZP) hB e) hsp B.e) ?_;rintro ⟨A37,c37⟩ -)
 refine ZG ?_ J (fun w0=>?_)
 refine Z8 J J J J (fun w0=>?_) ?_
 refine Zla ?_
 exact Z9 rfl
 exact AgainG.nil
 refine Z4 (Z5 J ?_)
 (refine ZD J (fun w B' hB hR hS'=>ref27_Nosplit hS' (z.prog e) _ (prog_K hz (hR _ _ ZP) (hR _ _ ZP) (hR _ _ ZP) (hR _ _ ZP) hB e) hsp B.e) ?_;rintro ⟨A39,c39⟩ -)
 refine ZG ?_ J (fun w0=>?_)
 exact AgainG.nil
 refine Z4 (Z5 J ?_)
 (refine ZD J (fun w B' hB hR hS'=>ref01_Bools' hS' (nosL (z.prog e)) (z.prog e).fFuns.length hnl A37 c37 (row_Cs (W:=B.e) (e:=4) (A:=A37) (n:=(z.prog e).fFuns.length) (cp:=c37) (xs:=nosL (z.prog e)) (hR _ _ ZP)) A39 c39 (row_Cs (W:=B.e) (e:=4) (A:=A39) (n:=(z.prog e).fFuns.length) (cp:=c39) (xs:=nosL (z.prog e)) (hR _ _ ZP))) ?_;rintro ⟨⟩ -)
 refine ZG ?_ J (fun w0=>?_)
 exact AgainG.nil
 refine oNotT J (Zo J (Zq J J (Zo J (Zq J J (Zo J (Z4 (Z5 J (Zq J J ?_))))))))
 (refine ZD J (fun w B' hB hR hS'=>ints_any hS' A27 c27 (dN (z.prog e) free) (row_Cs (W:=B.e) (e:=3) (A:=A27) (n:=(dN (z.prog e) free).length) (cp:=c27) (xs:=dN (z.prog e) free) (hR _ _ ZP)) A33 c33 (dN (z.prog e) free) (row_Cs (W:=B.e) (e:=3) (A:=A33) (n:=(dN (z.prog e) free).length) (cp:=c33) (xs:=dN (z.prog e) free) (hR _ _ ZP))) ?_;rintro ⟨⟩ -)
 rw [show decide (dN (z.prog e) free=dN (z.prog e) free)=true from decide_eq_true rfl]
 refine ZG ?_ J (fun w0=>?_)
 exact AgainG.nil
 refine Zq J J (oNotT J (Zu J J (Zo J (Zq J J (Zo J (Zq J J (Zo J (Zq J J (oNeqBool J J J (ZS0 (t:=51) (v':=.bool false) J (by simp) ?_))))))))))
 refine Zu J J (Zo J (Zq J J (Zla ?_)))
 refine Zq J J (Zo J (Zq J J (Zla ?_)))
 refine Zq J J (Zo J (Z4 (Z5 J (Zq J J ?_))))
 (refine ZD J (fun w B' hB hR hS'=>chain_Check hS' (z.prog e) _ (prog_K hz (hR _ _ ZP) (hR _ _ ZP) (hR _ _ ZP) (hR _ _ ZP) hB e) hsp free A' c' (Kd.C_grow hB hF)) ?_;rintro ⟨⟩ -)
 refine ZG ?_ J (fun w0=>?_)
 refine Z8 J J J J (fun w0=>?_) ?_
 refine Zq J J (Zla ?_)
 exact Z9 rfl
 refine Z8 J J J J (fun w0=>?_) ?_
 refine Zq J J (Zo J ?_)
 exact Z9 rfl
 exact AgainG.nil
 refine Z4 (Z5 J (Zq J J ?_))
 (refine ZD J (fun w B' hB hR hS'=>ref27_Check hS' (z.prog e) _ (prog_K hz (hR _ _ ZP) (hR _ _ ZP) (hR _ _ ZP) (hR _ _ ZP) hB e) hsp free A' c' (Kd.C_grow hB hF)) ?_;rintro ⟨⟩ -)
 refine ZG ?_ J (fun w0=>?_)
 exact AgainG.nil
 refine Zq J J ?_
 refine oBinV (r:=.bool false) rfl rfl (fun w=>run_eqGuard_agg w .neq _ _ _ _ _ Tryz.eqGuardType32) (fun w=>by rw [rej_neq];simp) ?_
 refine Zu J J (Zo J (Zq J J (Zla ?_)))
 refine Zq J J (Zo J (Zq J J (Zo J (Zq J J (Zla ?_)))))
 refine Zq J J (Zo J (Zq J J (Zo J (Z4 (Z5 J (Zq J J ?_))))))
 (refine ZD J (fun w B' hB hR hS'=>chain_Way hS' (z.prog e) _ (prog_K hz (hR _ _ ZP) (hR _ _ ZP) (hR _ _ ZP) (hR _ _ ZP) hB e) hsp free A' c' (Kd.C_grow hB hF) at_ B.e) ?_;rintro ⟨A66,c66⟩ -)
 refine ZG ?_ J (fun w0=>?_)
 refine Z8 J J J J (fun w0=>?_) ?_
 refine Zq J J (Zla ?_)
 exact Z9 rfl
 refine Z8 J J J J (fun w0=>?_) ?_
 refine Zq J J (Zo J ?_)
 exact Z9 rfl
 refine Z8 J J J J (fun w0=>?_) ?_
 refine Zq J J (Zo J ?_)
 exact Z9 rfl
 exact AgainG.nil
 refine Z4 (Z5 J (Zq J J ?_))
 (refine ZD J (fun w B' hB hR hS'=>ref27_Way hS' (z.prog e) _ (prog_K hz (hR _ _ ZP) (hR _ _ ZP) (hR _ _ ZP) (hR _ _ ZP) hB e) hsp free A' c' (Kd.C_grow hB hF) at_ B.e) ?_;rintro ⟨A70,c70⟩ -)
 refine ZG ?_ J (fun w0=>?_)
 exact AgainG.nil
 refine Z4 (Z5 J (Zq J J ?_))
 (refine ZD J (fun w B' hB hR hS'=>ints_any hS' A66 c66 (wayN (z.prog e) free at_) (row_Cs (W:=B.e) (e:=3) (A:=A66) (n:=(wayN (z.prog e) free at_).length) (cp:=c66) (xs:=wayN (z.prog e) free at_) (hR _ _ ZP)) A70 c70 (wayN (z.prog e) free at_) (row_Cs (W:=B.e) (e:=3) (A:=A70) (n:=(wayN (z.prog e) free at_).length) (cp:=c70) (xs:=wayN (z.prog e) free at_) (hR _ _ ZP))) ?_;rintro ⟨⟩ -)
 rw [show decide (wayN (z.prog e) free at_=wayN (z.prog e) free at_)=true from decide_eq_true rfl]
 refine ZG ?_ J (fun w0=>?_)
 exact AgainG.nil
 refine Zq J J (oNotT J (Zu J J (Z6 (Zn (Za (wCondF J (Zj (Za (Zh (Zi (Zo J (Zz (n:=2) (m:=2) J J J (Zst ?_)))))))))))))
 refine Zn (Za (Zh (wDrawG J [0,1,3,4] [(2,[3,4],[]),(5,[],[6,7]),(8,[],[9])] [10] 24 ZK J J (fun w0=>?_))))
 refine Zla ?_
 refine Zo J (Zla ?_)
 refine Zo J (Z4 (Z5 J ?_))
 (refine ZD J (fun w B' hB hR hS'=>chain_Check hS' (z.prog entry) _ (prog_K hz (hR _ _ ZP) (hR _ _ ZP) (hR _ _ ZP) (hR _ _ ZP) hB entry) hsn free A' c' (Kd.C_grow hB hF)) ?_;rintro ⟨⟩ -)
 refine ZG ?_ J (fun w0=>?_)
 refine Z8 J J J J (fun w0=>?_) ?_
 refine Zla ?_
 exact Z9 rfl
 refine Z8 J J J J (fun w0=>?_) ?_
 refine Zo J ?_
 exact Z9 rfl
 exact AgainG.nil
 refine Z4 (Z5 J ?_)
 (refine ZD J (fun w B' hB hR hS'=>ref27_Check hS' (z.prog entry) _ (prog_K hz (hR _ _ ZP) (hR _ _ ZP) (hR _ _ ZP) (hR _ _ ZP) hB entry) hsn free A' c' (Kd.C_grow hB hF)) ?_;rintro ⟨⟩ -)
 refine ZG ?_ J (fun w0=>?_)
 exact AgainG.nil
 refine oBinV (r:=.bool true) rfl rfl (fun w=>run_eqGuard_agg w .eql _ _ _ _ _ Tryz.eqGuardType32) (fun w=>by rw [rej_eql];simp) ?_
 refine Zo J (Z4 (Z5 J (Zq J J ?_)))
 (refine ZC0 rfl ZK (fun w hS=>frame hS ZQ (fun B' hB hS'=>known27 hS')) ?_;rintro ⟨⟩ -)
 refine ZG ?_ J (fun w0=>?_)
 exact AgainG.nil
 refine Zt J J (Z6 (Zza ?_))
 exact ⟨(),trivial,rfl,Lh⟩
end Go.Proofs.YtogaiijhicfoaaaGreatY
