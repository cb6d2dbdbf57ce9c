/-
  Part 6 of the proof of ElideSafe: contracts of functions, and what follows from them; without conditions.
-/
import Derived.Test.YtogaiijhicfoaaaGreatElideSafe5
import Derived.Laws.StructEq
set_option linter.unusedVariables false
set_option linter.unusedSimpArgs false
set_option linter.defProp false
namespace Go.Proofs.YtogaiijhicfoaaaGreatY
set_option maxRecDepth 100000
set_option maxHeartbeats 4000000
open Go.RowKit Go.Proofs.YtogaiijhicfoaaaGreatK Go.Proofs.YtogaiijhicfoaaaGreatT Go.Proofs.YtogaiijhicfoaaaGreatL Go.Proofs.YtogaiijhicfoaaaGreatV Go.Proofs.YtogaiijhicfoaaaGreatG Go.Proofs.YtogaiijhicfoaaaGreatW Go.Proofs.YtogaiijhicfoaaaGreatU

section
variable {c : Cx} {M : Md c} {d : Nat} {ty : TypeId} {pos : String} {af : Array Edge} {rest : List Oper} {E : Env} {D : List Deferred} {H : List Res} {x y : Operand} {t t' : TypeId}
end
theorem find_non {P:Nat→Bool}{n:Nat}(h:∀ i,i<n→P i=false):(List.range n).find? P=none:=List.find?_eq_none.2 (fun i hi=>by rw [h i (List.mem_range.1 hi)];simp)
theorem find_one {P:Nat→Bool}{i:Nat}(h:P i=true) (hs:∀ j,j<i→P j=false):∀ n,i<n→(List.range n).find? P=some i
 | 0,hi=>by omega
 | n+1,hi=>by
  rw [List.range_succ,List.find?_append]
  by_cases e:i=n
  · subst e;rw [find_non hs,Option.none_or,List.find?_cons,h]
  · rw [find_one h hs n ZO,Option.some_or]
theorem plc_at {p:ApiProgram}{e:Int}{i:Nat}{f:ApiFun}(h:p.fFuns[i]?=some f):plcF p e i=(e,f.fFile,f.fItem):=by unfold plcF;rw [List.getD_eq_getElem?_getD,h];rfl
section
variable {p : ApiProgram} {free : List Bool}
theorem chk_arg (h:p.fEntry<0∨(p.fFuns.length:Int)≤p.fEntry):checkN p free=(2,-1,-1):=by unfold checkN;rw [if_neg ZO]
theorem chk_cyc (h1:¬ p.fEntry<0) (h2:¬ (p.fFuns.length:Int)≤p.fEntry) (hok:okN p free=false) {i:Nat}{f:ApiFun}(hx:(onL (graphF p) (memF p free))[0]?=some (i:Int)) (hf:p.fFuns[i]?=some f):checkN p free=(17,f.fFile,f.fItem):=by
 unfold checkN
 rw [if_pos ⟨by omega,by omega⟩,if_neg (by rw [hok];simp),List.getD_eq_getElem?_getD,hx]
 exact plc_at hf
theorem chk_ent (h1:¬ p.fEntry<0) (h2:¬ (p.fFuns.length:Int)≤p.fEntry) (hok:okN p free=true) (hd:deepF p free p.fEntry=true):checkN p free=(18,-1,-1):=by
 unfold checkN
 rw [if_pos ⟨by omega,by omega⟩,if_pos hok,if_pos hd]
theorem chk_bad (h1:¬ p.fEntry<0) (h2:¬ (p.fFuns.length:Int)≤p.fEntry) (hok:okN p free=true) (hd:deepF p free p.fEntry=false) {i:Nat}{f:ApiFun}(hb:badF p free i=true) (hs:∀ j,j<i→badF p free j=false) (hf:p.fFuns[i]?=some f):checkN p free=(18,f.fFile,f.fItem):=by
 have hi:=(List.getElem?_eq_some_iff.1 hf).1
 unfold checkN
 rw [if_pos ⟨by omega,by omega⟩,if_pos hok,if_neg (by rw [hd];simp),find_one hb hs _ hi]
 exact plc_at hf
theorem chk_fine (h1:¬ p.fEntry<0) (h2:¬ (p.fFuns.length:Int)≤p.fEntry) (hok:okN p free=true) (hd:deepF p free p.fEntry=false) (hs:∀ j,j<p.fFuns.length→badF p free j=false):checkN p free=(0,0,0):=by
 unfold checkN
 rw [if_pos ⟨by omega,by omega⟩,if_pos hok,if_neg (by rw [hd];simp),find_non hs]
theorem on_head (hok:okN p free=false):∃ c:Nat,(onL (graphF p) (memF p free))[0]?=some (c:Int)∧c<p.fFuns.length:=by
 cases he:onL (graphF p) (memF p free) with
 | nil=>have:=on_nil.1 he;unfold okN at hok;rw [this] at hok;cases hok
 | cons x l=>
  obtain ⟨c,rfl,hp⟩:=on_mem.1 (show x ∈ onL (graphF p) (memF p free) by rw [he];exact List.mem_cons_self)
  refine ⟨c,rfl,?_⟩
  rw [← Go.Proofs.YtogaiijhicfoaaaGreatU.graphF_len]
  cases hp with
  | one h=>exact (edE_iff.1 h).1
  | snoc _ h=>exact (edE_iff.1 h).2.1
theorem deepF_at {x:Nat}{d:Int}(h:(dN p free)[x]?=some d):deepF p free (x:Int)=decide (56<1+d):=by unfold deepF;rw [Int.toNat_natCast,getD_at h]
theorem bad_1 {i:Nat}{l:List Int}(h:(calledL p)[i]?=some false):badF p free i=false:=by unfold badF;rw [getD_at h];simp
theorem bad_2 {i:Nat}(h:(memF p free)[i]?=some true):badF p free i=false:=by unfold badF;rw [getD_at h];simp
theorem bad_3 {i:Nat}{l:List Int}(hl:(graphF p)[i]?=some l) (h:∀ y ∈ l,deepF p free y=false):badF p free i=false:=by
 unfold badF
 rw [getD_at hl,List.any_eq_false.2 (fun y hy=>by rw [h y hy];simp)];simp
theorem bad_4 {i:Nat}{l:List Int}{y:Int}(hl:(graphF p)[i]?=some l) (h1:(calledL p)[i]?=some true) (h2:(memF p free)[i]?=some false) (hy:y ∈ l) (h:deepF p free y=true):badF p free i=true:=by
 unfold badF
 rw [getD_at hl,getD_at h1,getD_at h2,List.any_eq_true.2 ⟨y,hy,h⟩];rfl
noncomputable def bdY (p:ApiProgram) (free:List Bool) (i:Nat) (y:Int):Bool:=(calledL p).getD i false && !(memF p free).getD i false && deepF p free y
theorem bad_5 {i:Nat}{l:List Int}(hl:(graphF p)[i]?=some l) (h:∀ y ∈ l,bdY p free i y=false):badF p free i=false:=by
 cases hb:badF p free i with
 | false=>rfl
 | true=>
  unfold badF at hb
  rw [getD_at hl,Bool.and_eq_true,List.any_eq_true] at hb
  obtain ⟨h1,y,hy,h2⟩:=hb
  have:=h y hy
  unfold bdY at this
  rw [h1,h2] at this;cases this
end
theorem onPP {B:Base}{w:World}(hS:St B [] w) {p:ApiProgram}(hsm:SmallP p) (free:List Bool) (A:Option Addr) (cp:Nat) (hC:(Kd.slice (Kd.int .i64)).C B.e A (graphF p)) (A1:Option Addr) (cp1:Nat) (hC1:Kd.bool.C B.e A1 (memF p free)) (W0:World) :
 CW 104 #[.slice A p.fFuns.length cp,.slice A1 p.fFuns.length cp1] w (Ret B (fun _:Option Addr×Nat=>True) (fun z=>.slice z.1 (onL (graphF p) (memF p free)).length z.2) (fun z=>[row (Kd.int .i64) W0 3 (.slice z.1 (onL (graphF p) (memF p free)).length z.2) (onL (graphF p) (memF p free))])):=by
 have hn:=hsm.funs
 have h:=on_any hS (graphF p) A cp hC (grG_small hsm) (memF p free) A1 cp1 hC1 (by rw [memF_len];omega) W0
 rw [Go.Proofs.YtogaiijhicfoaaaGreatU.graphF_len,memF_len] at h
 exact h
theorem onRR {B:Base}{w:World}(hS:St B [] w) {p:ApiProgram}(hsm:SmallP p) (free:List Bool) (A:Option Addr) (cp:Nat) (hC:(Kd.slice (Kd.int .i64)).C B.e A (graphF p)) (A1:Option Addr) (cp1:Nat) (hC1:Kd.bool.C B.e A1 (memF p free)) (W0:World) :
 CW 106 #[.slice A p.fFuns.length cp,.slice A1 p.fFuns.length cp1] w (Ret B (fun _:Option Addr×Nat=>True) (fun z=>.slice z.1 (onL (graphF p) (memF p free)).length z.2) (fun z=>[row (Kd.int .i64) W0 3 (.slice z.1 (onL (graphF p) (memF p free)).length z.2) (onL (graphF p) (memF p free))])):=by
 have h:=refOn hS (graphF p) A cp hC (grG_small hsm) (memF p free) A1 cp1 hC1 W0
 rw [Go.Proofs.YtogaiijhicfoaaaGreatU.graphF_len,memF_len] at h
 exact h
theorem onRRh {B:Base}{w:World}(hS:St B [] w) {p:ApiProgram}(hsm:SmallP p) (free:List Bool) (A:Option Addr) (cp:Nat) (hC:(Kd.slice (Kd.int .i64)).C B.e A (graphF p)) (A1:Option Addr) (cp1:Nat) (hC1:Kd.bool.C B.e A1 (memF p free)) (hne:onL (graphF p) (memF p free)≠[]) (W0:World) :
 CW 106 #[.slice A p.fFuns.length cp,.slice A1 p.fFuns.length cp1] w (Ret B (fun _:Nat×Nat=>True) (fun z=>.slice (some ⟨z.1,0,none⟩) (onL (graphF p) (memF p free)).length z.2) (fun z=>[row (Kd.int .i64) W0 3 (.slice (some ⟨z.1,0,none⟩) (onL (graphF p) (memF p free)).length z.2) (onL (graphF p) (memF p free))])):=
 (onRR hS hsm free A cp hC A1 cp1 hC1 W0).mono (fun e w' ⟨⟨A3,c3⟩,h1,h2,h3⟩=>by
  have hq:=h3.get .here
  have hA:∃ g,A3=some ⟨g,0,none⟩:=by
   obtain ⟨cs,ho,hr⟩:=hq
   exact (row_C (kd:=Kd.int .i64) (W:=w') (e:=3) (A:=A3) (n:=(onL (graphF p) (memF p free)).length) (cp:=c3) (xs:=onL (graphF p) (memF p free)) (w:=w') ⟨cs,ho,cat_scalar.2 (cat_scalar.1 hr)⟩ (Grow.refl _)).2.2.2 (List.length_pos_iff.2 hne)
  obtain ⟨g,rfl⟩:=hA
  exact ⟨(g,c3),trivial,h2,h3⟩)
theorem check1 {B:Base}{w:World}{p:ApiProgram}{free:List Bool}(b6:Nat) (A9:Option Addr) (c9:Nat) (hS:St B [blk b6 42 [.slice A9 (dN p free).length c9]] w) (hC:(Kd.int .i64).C B.e A9 (dN p free)) (hl:(dN p free).length≤24) (x:Nat) (hx:x<(dN p free).length) :
 CW 105 #[.int .i64 (x:Int),.pointer (some ⟨b6,0,none⟩)] w (Ret B (fun _:Unit=>True) (fun _=>.bool (deepF p free (x:Int))) (fun _=>[blk b6 42 [.slice A9 (dN p free).length c9]])):=by
 obtain ⟨d,hd⟩:∃ d,(dN p free)[x]?=some d:=⟨_,List.getElem?_eq_getElem hx⟩
 have hin:=dN_in p free x
 rw [getD_at hd] at hin
 obtain ⟨e1,cs1,hE⟩:=hC.elm hd
 obtain rfl:=(show cs1=[Value.int .i64 d] from hE.K)
 rw [deepF_at hd]
 refine ZX Tryz.func105 hS ?_
 refine Zh (Zi (Zp J (Zn (Za (Zh (Zi (Zld ?_)))))))
 refine Zo J (oIdxE J J (hE) ZO J J ?_)
 have hc6:=(hE).cell
 refine Zlx hc6 ?_
 first | refine oAdd rfl rfl ZO ?_ | refine oAddW rfl rfl ?_
 refine Z1 J J (Zza ?_)
 exact ⟨(),trivial,rfl,Lh⟩
theorem chain_Check {B:Base}{w:World}(hS:St B [] w) (p:ApiProgram) (pc:List Value) (hp:kApiProgram.K B.e p pc) (hsm:SmallP p) (free:List Bool) (A':Option Addr) (c':Nat) (hF:Kd.bool.C B.e A' free) :
 CW 44 #[.agg pc.toArray,.slice A' free.length c'] w (Ret B (fun _:Unit=>True) (fun _=>.agg (rejL (checkN p free)).toArray) (fun _=>[])):=by
 obtain ⟨A0,c0,A1,c1,rfl,l0,g0,l1,g1⟩:=kApiProgram_open hp
 have hn:=hsm.funs
 have hcl:=calledL_len p
 have hml:=memF_len p free
 have hgl:=Go.Proofs.YtogaiijhicfoaaaGreatU.graphF_len p
 refine ZX Tryz.func44 hS ?_
 refine Zh (Zi (oBox J ZP (fun b2=>?_)))
 refine oAlloc J ZP (fun b4=>?_)
 refine Zn (Za (Zh (Zh (Zi (Zz (n:=2) (m:=2) J J J (Zld ?_))))))
 refine Zx J J (Zo J (ZS (ZT 16) (fun h16=>?_) (fun h16=>?_)))
 refine Zr J J J J (Zr J J J J (Zr J J J J (Zr J J J J (Zr J J J J (Zr J J J J (Zt J J (Zn (Za (wCondT J (Zh (Zi ?_)))))))))))
 (refine ZC0 rfl ZK (fun w hS=>frame hS ZQ (fun B' hB hS'=>chain_nowhere hS' 2)) ?_;rintro ⟨⟩ -)
 refine Zsa ?_
 refine Zn (Za (Zl (Zc (Zw (ZI ?_)))))
 exact ⟨(),trivial,by rw [chk_arg (.inl (by first | exact h16 | simpa using h16))];rfl,Lh⟩
 refine Zq J J (Zz (n:=2) (m:=2) J J J (Zzg ?_))
 refine Zq J J (Zz (n:=0) (m:=0) J J J (Zzg ?_))
 refine Zq J J (Zv J J (Zq J J (Z2 J J (Zu J J (Zn (Za (wC (fun h23=>?_) (fun h23=>?_))))))))
 refine Zh (Zi ?_)
 (refine ZC0 rfl ZK (fun w hS=>frame hS ZQ (fun B' hB hS'=>chain_nowhere hS' 2)) ?_;rintro ⟨⟩ -)
 refine Zsa ?_
 refine Zn (Za (Zl (Zc (Zw (ZI ?_)))))
 exact ⟨(),trivial,by rw [chk_arg (.inr (by first | exact h23 | simpa using h23))];rfl,Lh⟩
 have he1:¬ p.fEntry<0:=by first | exact h16 | simpa using h16
 have he2:¬ (p.fFuns.length:Int)≤p.fEntry:=by first | exact h23 | simpa using h23
 obtain ⟨e0,he0⟩:=Int.eq_ofNat_of_zero_le (show 0≤p.fEntry by omega)
 refine Zj (Zzl ?_)
 refine Zo J ?_
 (refine ZC0 rfl ZK (fun w hS=>frame hS ZQ (fun B' hB hS'=>chain_look hS' p _ (gPg hB hp) hsm free A' c' (Kd.C_grow hB hF) B.e)) ?_;rintro ⟨b8,⟨A8,c8,hs8⟩,⟨C8,d8⟩,⟨F8,e8⟩,⟨R8,k8⟩⟩ hl8)
 dsimp only at hl8 ⊢
 refine Zp J (Zn (Za (wFreeze [row kHdr B.e 42 (.slice A8 p.fFuns.length c8) hs8,bun (rws (Kd.int .i64) B.e 3 hs8 (graphF p)),row Kd.bool B.e 4 (.slice C8 p.fFuns.length d8) (calledL p),row Kd.bool B.e 4 (.slice F8 p.fFuns.length e8) (memF p free),row (Kd.int .i64) B.e 3 (.slice R8 p.fFuns.length k8) (frmL p)] ZQ (fun B1 hB1 hq1=>?_))))
 have hG:=grid_C (hq1 _ _ ZP) (hq1 _ _ ZP) (by rw [hl8,hgl]) hB1
 have hCl:=row_Cs (W:=B.e) (e:=4) (n:=p.fFuns.length) (cp:=d8) (xs:=calledL p) (hq1 _ _ ZP)
 have hM:=row_Cs (W:=B.e) (e:=4) (n:=p.fFuns.length) (cp:=e8) (xs:=memF p free) (hq1 _ _ ZP)
 have hO:=row_Cs (W:=B.e) (e:=3) (n:=p.fFuns.length) (cp:=k8) (xs:=frmL p) (hq1 _ _ ZP)
 have hp:=kApiProgram.K_grow hB1 hp
 have g0:=Kd.C_grow hB1 g0
 refine Zh (Zi (Zo J ?_))
 (refine ZC0 rfl ZK (fun w hS=>frame hS ZQ (fun B' hB hS'=>view_needs hS' hsm free (Kd.C_grow hB hG) (Kd.C_grow hB hM) (Kd.C_grow hB hO) B.e)) ?_;rintro ⟨A9,c9⟩ -)
 refine Zo J (oExt J ZP ?_)
 refine oExt J ZP ?_
 refine oAlloc J ZP (fun b6=>?_)
 refine Zst ?_
 refine Zp J (Zn (Za (Zh (Zh (Zi (Zo J (Zno ?_)))))))
 refine Zn (Za (wC (fun h34=>?_) (fun h34=>?_)))
 have hok:okN p free=false:=by first | exact decide_eq_false h34 | simpa using h34
 obtain ⟨c47,hc47,hl47⟩:=on_head hok
 obtain ⟨f,hf⟩:∃ f,p.fFuns[c47]?=some f:=⟨_,List.getElem?_eq_getElem ZO⟩
 obtain ⟨e1,cs1,hE⟩:=g0.elm hf
 have hEK:=hE.K
 obtain ⟨D0,d0,D1,d1,D2,d2,D3,d3,D4,d4,rfl,m0,q0,m1,q1,m2,q2,m3,q3,m4,q4⟩:=kApiFun_open hE.K
 refine Zh (wDrawG J [0,1,2,3,4,5,6,7,8,9] [(10,[0,1],[11,12,13,14]),(15,[],[])] [16] 24 ZK J J (fun w0=>?_))
 refine Zz (n:=0) (m:=0) J J J (Zld ?_)
 refine Zo J (Z3 J (Zz (n:=0) (m:=0) J J J (Zld ?_)))
 refine Zo J (Z3 J (Zz (n:=2) (m:=2) J J J (Zld ?_)))
 refine Z4 (Z5 J ?_)
 (refine ZC0 rfl ZK (fun w hS=>frame hS ZQ (fun B' hB hS'=>onPP hS' hsm free A8 c8 (Kd.C_grow hB hG) F8 e8 (Kd.C_grow hB hM) B.e)) ?_;rintro ⟨A45,c45⟩ -)
 refine ZG ?_ J (fun w0=>?_)
 refine Z8 J J J J (fun w0=>?_) ?_
 refine Zz (n:=0) (m:=0) J J J ?_
 exact Z9 rfl
 refine Z8 J J J J (fun w0=>?_) ?_
 refine Zld ?_
 exact Z9 rfl
 exact AgainG.nil
 refine ZR (i:=0) J J ZP (by have:=(List.getElem?_eq_some_iff.1 hc47).1;exact this) J J (fun g46 hg46=>?_)
 subst hg46
 refine ZR1 (i:=0) J ZP (by have:=(List.getElem?_eq_some_iff.1 hc47).1;exact this) J (fun u47 hu47=>?_)
 obtain rfl:u47=(c47:Int):=Option.some.inj (hu47.symm.trans hc47)
 refine oIdxE J J (hE) ZO J J ?_
 have hc48:=(hE).cell
 refine Zlx hc48 ?_
 refine Z4 (Z5 J ?_)
 (refine ZC0 rfl ZK (fun w hS=>frame hS ZQ (fun B' hB hS'=>chain_at hS' 17 f _ (kApiFun.K_grow hB hEK))) ?_;rintro ⟨⟩ -)
 refine ZG ?_ J (fun w0=>?_)
 exact AgainG.nil
 refine Z6 (Zsa ?_)
 refine Zn (Za (Zl (Zc (Zw (ZI ?_)))))
 exact ⟨(),trivial,by rw [chk_cyc he1 he2 hok hc47 hf];rfl,Lh⟩
 have hok:okN p free=true:=by first | exact decide_eq_true (Classical.not_not.1 h34) | simpa using h34
 have hdl:(dN p free).length=p.fFuns.length:=dN_len hok
 refine Zj (Za (Zh (Zi (oMakeFunc J (Zp J (Zn (Za (Zh (Zh (Zi (Zo J (Zz (n:=2) (m:=2) J J J (Zld ?_)))))))))))))
 refine ZS0 (t:=54) (v':=.int .i64 (e0:Int)) rfl (by rw [he0]) ?_
 (refine oCallV rfl rfl rfl ZK (fun w hS=>frame' hS (Ψ:=[blk b6 42 [.slice A9 (dN p free).length c9]]) ZQ (fun B' hB hR hS'=>check1 b6 A9 c9 hS' (row_Cs (W:=B.e) (e:=3) (n:=(dN p free).length) (cp:=c9) (hR _ _ ZP)) ZO e0 ZO)) ?_;rintro ⟨⟩ -)
 rw [← he0]
 refine Zn (Za (wC (fun h55=>?_) (fun h55=>?_)))
 refine Zh (Zi ?_)
 (refine ZC0 rfl ZK (fun w hS=>frame hS ZQ (fun B' hB hS'=>chain_nowhere hS' 18)) ?_;rintro ⟨⟩ -)
 refine Zsa ?_
 refine Zn (Za (Zl (Zc (Zw (ZI ?_)))))
 exact ⟨(),trivial,by rw [chk_ent he1 he2 hok (by first | exact h55 | exact decide_eq_true h55)];rfl,Lh⟩
 have hd55:deepF p free p.fEntry=false:=by first | exact h55 | exact decide_eq_false h55
 refine Zj (Za (Zh (Zh (Zi (Zo J (Z3 J (Zz (n:=0) (m:=0) J J J (Zld ?_))))))))
 refine Zv J J (Zo J (Zn (Za (Zk (wLoop (ι:=Nat) (fun i=>[(2,.pointer (some ⟨b2,0,none⟩)),(4,.pointer (some ⟨b4,0,none⟩)),(5,.pointer (some ⟨b8,0,none⟩)),(8,.func (.func 105) #[] #[.pointer (some ⟨b6,0,none⟩)]),(60,.slice A8 p.fFuns.length c8),(61,.int .i64 (p.fFuns.length:Int)),(62,.int .i64 (i:Int))]) (fun i=>[blk b2 29 (pcL p A0 c0 A1 c1),blk b4 32 [.int .i64 0,.int .i64 0,.int .i64 0],blk b8 123 [.slice A8 p.fFuns.length c8,.slice C8 p.fFuns.length d8,.slice F8 p.fFuns.length e8,.slice R8 p.fFuns.length k8],blk b6 42 [.slice A9 (dN p free).length c9],row (Kd.int .i64) B.e 3 (.slice A9 (dN p free).length c9) (dN p free)]) (fun i=>i≤p.fFuns.length∧∀ j,j<i→badF p free j=false) (fun i=>p.fFuns.length-i) 0 ?_ cv Lh ?_)))))
 exact ⟨Nat.zero_le _,fun j hj=>by omega⟩
 rintro i ⟨hi,hs⟩
 try dsimp only
 refine Zh (Zi (Zx J J (Zn (Za (Zh (wC (fun h63=>?_) (fun h63=>?_)))))))
 obtain ⟨l,hl⟩:∃ l,(graphF p)[i]?=some l:=⟨_,List.getElem?_eq_getElem ZO⟩
 obtain ⟨e2,cs2,hEg⟩:=hG.elm hl
 obtain ⟨Al,cl,rfl,hll,hCr⟩:=hEg.K
 have hlb:=hCr.1
 obtain ⟨uc,huc⟩:∃ u,(calledL p)[i]?=some u:=⟨_,List.getElem?_eq_getElem ZO⟩
 obtain ⟨e3,cs3,hEc⟩:=hCl.elm huc
 obtain rfl:=(show cs3=[Value.bool uc] from hEc.K)
 obtain ⟨um,hum⟩:∃ u,(memF p free)[i]?=some u:=⟨_,List.getElem?_eq_getElem ZO⟩
 obtain ⟨e4,cs4,hEm⟩:=hM.elm hum
 obtain rfl:=(show cs4=[Value.bool um] from hEm.K)
 obtain ⟨f,hf⟩:∃ f,p.fFuns[i]?=some f:=⟨_,List.getElem?_eq_getElem ZO⟩
 obtain ⟨e1,cs1,hE⟩:=g0.elm hf
 have hEK:=hE.K
 obtain ⟨D0,d0,D1,d1,D2,d2,D3,d3,D4,d4,rfl,m0,q0,m1,q1,m2,q2,m3,q3,m4,q4⟩:=kApiFun_open hE.K
 refine Zj (Za (Zh (Zk (Zh (Zi (Zo J (oIdxE J J (hEg) ZO J J ?_)))))))
 have hc65:=(hEg).cell
 refine Zlx hc65 ?_
 refine Zp J (Zp J (Zn (Za (Zh (Zh (Zi (Zo J (Z3 J (Zz (n:=1) (m:=1) J J J (Zld ?_))))))))))
 refine Zo J (oIdxE J J (hEc) ZO J J ?_)
 have hc72:=(hEc).cell
 refine Zlx hc72 ?_
 refine Zno ?_
 refine Zo J (ZS (ZT 75) (fun h75=>?_) (fun h75=>?_))
 have hbf:badF p free i=false:=bad_1 (l:=l) (by rw [huc];congr 1;simpa using h75)
 refine Zr J J J J (Zr J J J J (Zr J J J J (Zr J J J J (Zr J J J J (Zr J J J J (Zr J J J J (Zt J J (Zn (Za (wCondT J (Zm (Zb (Ze (Za (Zi (Zsu ?_))))))))))))))))
 refine Zo J (Zn (Za ?_))
 exact ⟨rfl,i+1,⟨by omega,fun j hj=>by rcases Nat.lt_succ_iff_lt_or_eq.1 hj with h | rfl;exact hs j h;exact hbf⟩,by omega,cv,Lh⟩
 refine Zq J J (Zo J (Zq J J (Z3 J (Zq J J (Zz (n:=2) (m:=2) J J J (Zzg ?_))))))
 refine Zq J J (Zo J (Zq J J (oIdxE J J (hEm) ZO J J ?_)))
 have hc81:=(hEm).cell
 refine Zq J J (Zlx hc81 ?_)
 refine Zu J J (Zn (Za (wC (fun h83=>?_) (fun h83=>?_))))
 have hbf:badF p free i=false:=bad_2 (by rw [hum];congr 1)
 refine Zm (Zb (Ze (Za (Zi (Zsu ?_)))))
 refine Zo J (Zn (Za ?_))
 exact ⟨rfl,i+1,⟨by omega,fun j hj=>by rcases Nat.lt_succ_iff_lt_or_eq.1 hj with h | rfl;exact hs j h;exact hbf⟩,by omega,cv,Lh⟩
 refine Zj (Za (Zh (Zi (Zo J (Zv J J (Zo J (Zn (Za (Zk (wLoop (ι:=Nat) (fun j=>[(2,.pointer (some ⟨b2,0,none⟩)),(4,.pointer (some ⟨b4,0,none⟩)),(5,.pointer (some ⟨b8,0,none⟩)),(8,.func (.func 105) #[] #[.pointer (some ⟨b6,0,none⟩)]),(9,.int .i64 (i:Int)),(60,.slice A8 p.fFuns.length c8),(61,.int .i64 (p.fFuns.length:Int)),(62,.int .i64 (i:Int)),(84,.slice Al l.length cl),(85,.int .i64 (l.length:Int)),(86,.int .i64 (j:Int))]) (fun j=>[blk b2 29 (pcL p A0 c0 A1 c1),blk b4 32 [.int .i64 0,.int .i64 0,.int .i64 0],blk b8 123 [.slice A8 p.fFuns.length c8,.slice C8 p.fFuns.length d8,.slice F8 p.fFuns.length e8,.slice R8 p.fFuns.length k8],blk b6 42 [.slice A9 (dN p free).length c9],row (Kd.int .i64) B.e 3 (.slice A9 (dN p free).length c9) (dN p free)]) (fun j=>j≤l.length∧∀ y ∈ l.take j,deepF p free y=false) (fun j=>l.length-j) 0 ?_ cv Lh ?_))))))))))
 exact ⟨Nat.zero_le _,by simp⟩
 rintro j ⟨hj,hsj⟩
 try dsimp only
 refine Zh (Zi (Zx J J (Zn (Za (Zh (wC (fun h87=>?_) (fun h87=>?_)))))))
 obtain ⟨y,hy⟩:∃ y,l[j]?=some y:=⟨_,List.getElem?_eq_getElem ZO⟩
 obtain ⟨e5,cs5,hEy⟩:=hCr.elm hy
 obtain rfl:=(show cs5=[Value.int .i64 y] from hEy.K)
 obtain ⟨yc,rfl,hyl⟩:=eg_in (p:=p) (i:=i) ZO (x:=y) (by rw [getD_at hl];exact List.mem_of_getElem? hy)
 refine Zj (Za (Zh (Zk (Zh (Zi (oIdxE J J (hEy) ZO J J ?_))))))
 have hc88:=(hEy).cell
 refine Zlx hc88 ?_
 refine Zp J (Zn (Za (Zzv ?_)))
 (refine oCallV rfl rfl rfl ZK (fun w hS=>frame' hS (Ψ:=[blk b6 42 [.slice A9 (dN p free).length c9]]) ZQ (fun B' hB hR hS'=>check1 b6 A9 c9 hS' (row_Cs (W:=B.e) (e:=3) (n:=(dN p free).length) (cp:=c9) (hR _ _ ZP)) ZO yc ZO)) ?_;rintro ⟨⟩ -)
 refine Zn (Za (wC (fun h92=>?_) (fun h92=>?_)))
 refine Zh (Zi (Zz (n:=0) (m:=0) J J J (Zld ?_)))
 refine Zo J (oIdxE J J (hE) ZO J J ?_)
 have hc96:=(hE).cell
 refine Zlx hc96 ?_
 (refine ZC0 rfl ZK (fun w hS=>frame hS ZQ (fun B' hB hS'=>chain_at hS' 18 f _ (kApiFun.K_grow hB hEK))) ?_;rintro ⟨⟩ -)
 refine Zsa ?_
 refine Zn (Za (Zl (Zf (Zc (Zc (Zf (Zf (Zc (Zc (Zf (Zc (Zw (ZI ?_)))))))))))))
 exact ⟨(),trivial,by rw [chk_bad he1 he2 hok hd55 (bad_4 hl (by rw [huc];congr 1;simpa using h75) (by rw [hum];congr 1) (List.mem_of_getElem? hy) (by first | exact h92 | exact decide_eq_true h92)) hs hf];rfl,Lh⟩
 refine Zj (Zzi ?_)
 refine Zo J (Zn (Za ?_))
 exact ⟨rfl,j+1,⟨by omega,take_not hsj hy (by first | exact h92 | exact decide_eq_false h92)⟩,by omega,cv,Lh⟩
 obtain rfl:j=l.length:=by omega
 rw [List.take_length] at hsj
 have hbf:badF p free i=false:=bad_3 hl hsj
 refine Zm (Zb (Zb (Ze (Zzi ?_))))
 refine Zo J (Zn (Za ?_))
 exact ⟨rfl,i+1,⟨by omega,fun j hj=>by rcases Nat.lt_succ_iff_lt_or_eq.1 hj with h | rfl;exact hs j h;exact hbf⟩,by omega,cv,Lh⟩
 obtain rfl:i=p.fFuns.length:=by omega
 refine Zm (Zb (Zb (Ze (Za (Zh (Zi (oBuild Parts.nil J J Built.nil (Zsa ?_))))))))
 refine Zn (Za (Zl (Zw (ZI ?_))))
 exact ⟨(),trivial,by rw [chk_fine he1 he2 hok hd55 hs];rfl,Lh⟩
theorem ref27_Check {B:Base}{w:World}(hS:St B [] w) (p:ApiProgram) (pc:List Value) (hp:kApiProgram.K B.e p pc) (hsm:SmallP p) (free:List Bool) (A':Option Addr) (c':Nat) (hF:Kd.bool.C B.e A' free) :
 CW 45 #[.agg pc.toArray,.slice A' free.length c'] w (Ret B (fun _:Unit=>True) (fun _=>.agg (rejL (checkN p free)).toArray) (fun _=>[])):=by
 obtain ⟨A0,c0,A1,c1,rfl,l0,g0,l1,g1⟩:=kApiProgram_open hp
 have hn:=hsm.funs
 have hcl:=calledL_len p
 have hml:=memF_len p free
 have hgl:=Go.Proofs.YtogaiijhicfoaaaGreatU.graphF_len p
 refine ZX Tryz.func45 hS ?_
 refine Zh (Zi (oBox J ZP (fun b2=>?_)))
 refine oAlloc J ZP (fun b4=>?_)
 refine Zn (Za (Zh (Zh (Zi (Zz (n:=2) (m:=2) J J J (Zld ?_))))))
 refine Zx J J (Zo J (ZS (ZT 16) (fun h16=>?_) (fun h16=>?_)))
 refine Zr J J J J (Zr J J J J (Zr J J J J (Zr J J J J (Zr J J J J (Zr J J J J (Zt J J (Zn (Za (wCondT J (Zh (Zi (oBuild (Parts.cons J (Parts.cons J (Parts.cons J Parts.nil))) J J (Built.cons (off:=0) (s:=1) J ZP J ZP (Built.cons (off:=1) (s:=1) J ZP J ZP (Built.cons (off:=2) (s:=1) J ZP J ZP Built.nil))) ?_))))))))))))
 refine Zsa ?_
 refine Zn (Za (Zl (Zc (Zw (ZI ?_)))))
 exact ⟨(),trivial,by rw [chk_arg (.inl (by first | exact h16 | simpa using h16))];rfl,Lh⟩
 refine Zq J J (Zz (n:=2) (m:=2) J J J (Zzg ?_))
 refine Zq J J (Zz (n:=0) (m:=0) J J J (Zzg ?_))
 refine Zq J J (Zv J J (Zq J J (Z2 J J (Zu J J (Zn (Za (wC (fun h23=>?_) (fun h23=>?_))))))))
 refine Zh (Zi (oBuild (Parts.cons J (Parts.cons J (Parts.cons J Parts.nil))) J J (Built.cons (off:=0) (s:=1) J ZP J ZP (Built.cons (off:=1) (s:=1) J ZP J ZP (Built.cons (off:=2) (s:=1) J ZP J ZP Built.nil))) ?_))
 refine Zsa ?_
 refine Zn (Za (Zl (Zc (Zw (ZI ?_)))))
 exact ⟨(),trivial,by rw [chk_arg (.inr (by first | exact h23 | simpa using h23))];rfl,Lh⟩
 have he1:¬ p.fEntry<0:=by first | exact h16 | simpa using h16
 have he2:¬ (p.fFuns.length:Int)≤p.fEntry:=by first | exact h23 | simpa using h23
 obtain ⟨e0,he0⟩:=Int.eq_ofNat_of_zero_le (show 0≤p.fEntry by omega)
 refine Zj (Zzl ?_)
 (refine ZC0 rfl ZK (fun w hS=>frame hS ZQ (fun B' hB hS'=>ref26_Graph hS' p _ (gPg hB hp) hsm B.e)) ?_;rintro ⟨A8,c8,hs8⟩ hl8)
 dsimp only at hl8 ⊢
 refine Zp J (Zn (Zzl ?_))
 refine Zo J ?_
 (refine ZC0 rfl ZK (fun w hS=>frame hS ZQ (fun B' hB hS'=>ref27_members hS' p _ (gPg hB hp) hsm free A' c' (Kd.C_grow hB hF) B.e)) ?_;rintro ⟨F8,e8⟩ -)
 refine Zp J (Zn (Zzl ?_))
 refine Zo J ?_
 (refine ZC0 rfl ZK (fun w hS=>frame hS ZQ (fun B' hB hS'=>ref27_Needs hS' p _ (gPg hB hp) hsm free A' c' (Kd.C_grow hB hF) B.e)) ?_;rintro ⟨A9,c9⟩ -)
 refine Zo J (oExt J ZP ?_)
 refine oExt J ZP ?_
 refine Zp J (Zp J (Zn (Za (wFreeze [row kHdr B.e 42 (.slice A8 p.fFuns.length c8) hs8,bun (rws (Kd.int .i64) B.e 3 hs8 (graphF p)),row Kd.bool B.e 4 (.slice F8 p.fFuns.length e8) (memF p free),row (Kd.int .i64) B.e 3 (.slice A9 (dN p free).length c9) (dN p free)] ZQ (fun B1 hB1 hq1=>?_)))))
 have hG:=grid_C (hq1 _ _ ZP) (hq1 _ _ ZP) (by rw [hl8,hgl]) hB1
 have hM:=row_Cs (W:=B.e) (e:=4) (n:=p.fFuns.length) (cp:=e8) (xs:=memF p free) (hq1 _ _ ZP)
 have hD:=row_Cs (W:=B.e) (e:=3) (n:=(dN p free).length) (cp:=c9) (xs:=dN p free) (hq1 _ _ ZP)
 have hp:=kApiProgram.K_grow hB1 hp
 have g0:=Kd.C_grow hB1 g0
 refine Zh (Zh (Zi (Zo J (Zno ?_))))
 refine Zn (Za (wC (fun h37=>?_) (fun h37=>?_)))
 have hok:okN p free=false:=by first | exact decide_eq_false h37 | simpa using h37
 obtain ⟨c44,hc44,hl44⟩:=on_head hok
 have hne44:onL (graphF p) (memF p free)≠[]:=by intro h;rw [h] at hc44;cases hc44
 obtain ⟨f,hf⟩:∃ f,p.fFuns[c44]?=some f:=⟨_,List.getElem?_eq_getElem ZO⟩
 obtain ⟨e1,cs1,hE⟩:=g0.elm hf
 have hEK:=hE.K
 obtain ⟨D0,d0,D1,d1,D2,d2,D3,d3,D4,d4,rfl,m0,q0,m1,q1,m2,q2,m3,q3,m4,q4⟩:=kApiFun_open hE.K
 have hc45:=hE.cell
 refine Zh (wDrawN J J (anWith (fun R7 hR7=>?_)))
 have an7_43:∀ (g42 c42:Nat),R7 2 #[tT,tT,tT,tT,tT,tT,tT,tT,tT,fF,fF] [(38,.pointer (some ⟨b2,0,none⟩)),(39,.slice A0 p.fFuns.length c0),(40,.slice A8 p.fFuns.length c8),(41,.slice F8 p.fFuns.length e8),(42,.slice (some ⟨g42,0,none⟩) (onL (graphF p) (memF p free)).length c42),(43,.pointer (some (elt g42 0 1 0))),(44,.int .i64 (c44:Int)),(45,.pointer (some (adr e1 0))),(46,.agg #[.int .i64 f.fFile,.int .i64 f.fItem,.string f.fName,.int .i64 f.fF.fClass,.slice D0 f.fF.fKinds.length d0,.int .i64 f.fF.fPad,.bool f.fF.fNosplit,.int .i64 f.fF.fFrom,.int .i64 f.fF.fTo,.slice D1 f.fF.fLines.length d1,.slice D2 f.fF.fCode.length d2,.slice D3 f.fF.fRelocs.length d3,.slice D4 f.fRefs.length d4]),(2,.pointer (some ⟨b2,0,none⟩)),(4,.pointer (some ⟨b4,0,none⟩)),(5,.slice A8 p.fFuns.length c8),(6,.slice F8 p.fFuns.length e8)] [row (Kd.int .i64) B.e 3 (.slice (some ⟨g42,0,none⟩) (onL (graphF p) (memF p free)).length c42) (onL (graphF p) (memF p free)),blk b2 29 (pcL p A0 c0 A1 c1),blk b4 32 [.int .i64 0,.int .i64 0,.int .i64 0]]:=by
  intro g42 c42
  refine anPut hR7 (ZM (i:=9) (rs:=[]) ZK ?_)
  refine ZA J ?_ ?_
  refine oAlloc J ZP (fun b9=>?_)
  refine Z7 (ZM (i:=10) (rs:=[]) ZK ?_)
  refine ZA J ?_ ?_
  refine Zsa ?_
  refine Z7 (anNil ZK ?_)
  refine Za (Zh (Zi (Zz (n:=0) (m:=0) J J J (Zld ?_))))
  refine Zz (n:=1) (m:=1) J J J (Zld ?_)
  refine oBuild (Parts.cons J (Parts.cons J (Parts.cons J Parts.nil))) J J (Built.cons (off:=0) (s:=1) J ZP J ZP (Built.cons (off:=1) (s:=1) J ZP J ZP (Built.cons (off:=2) (s:=1) J ZP J ZP Built.nil))) ?_
  refine Zsa ?_
  refine Zn (Za (Zl (Zc (Zw (ZI ?_)))))
  exact ⟨(),trivial,by rw [chk_cyc he1 he2 hok hc44 hf];rfl,Lh⟩
  exact ZB
  exact ZB
 have an7_44:∀ (g42 c42:Nat) (b9:Nat),R7 2 #[tT,tT,tT,tT,tT,tT,tT,tT,fF,tT,fF] [(38,.pointer (some ⟨b2,0,none⟩)),(39,.slice A0 p.fFuns.length c0),(40,.slice A8 p.fFuns.length c8),(41,.slice F8 p.fFuns.length e8),(42,.slice (some ⟨g42,0,none⟩) (onL (graphF p) (memF p free)).length c42),(43,.pointer (some (elt g42 0 1 0))),(44,.int .i64 (c44:Int)),(45,.pointer (some (adr e1 0))),(9,.pointer (some ⟨b9,0,none⟩)),(2,.pointer (some ⟨b2,0,none⟩)),(4,.pointer (some ⟨b4,0,none⟩)),(5,.slice A8 p.fFuns.length c8),(6,.slice F8 p.fFuns.length e8)] [row (Kd.int .i64) B.e 3 (.slice (some ⟨g42,0,none⟩) (onL (graphF p) (memF p free)).length c42) (onL (graphF p) (memF p free)),blk b9 49 [.int .i64 0,.int .i64 0,.string ByteArray.empty,.int .i64 0,.slice none 0 0,.int .i64 0,.bool false,.int .i64 0,.int .i64 0,.slice none 0 0,.slice none 0 0,.slice none 0 0,.slice none 0 0],blk b2 29 (pcL p A0 c0 A1 c1),blk b4 32 [.int .i64 0,.int .i64 0,.int .i64 0]]:=by
  intro g42 c42 b9
  refine anPut hR7 (ZM (i:=8) (rs:=[]) ZK ?_)
  refine ZA J ?_ ?_
  refine Zlx hc45 ?_
  refine Z7 (ZM (i:=10) (rs:=[]) ZK ?_)
  refine ZA J ?_ ?_
  refine Zsa ?_
  refine Z7 (anNil ZK ?_)
  refine Za (Zh (Zi (Zz (n:=0) (m:=0) J J J (Zld ?_))))
  refine Zz (n:=1) (m:=1) J J J (Zld ?_)
  refine oBuild (Parts.cons J (Parts.cons J (Parts.cons J Parts.nil))) J J (Built.cons (off:=0) (s:=1) J ZP J ZP (Built.cons (off:=1) (s:=1) J ZP J ZP (Built.cons (off:=2) (s:=1) J ZP J ZP Built.nil))) ?_
  refine Zsa ?_
  refine Zn (Za (Zl (Zc (Zw (ZI ?_)))))
  exact ⟨(),trivial,by rw [chk_cyc he1 he2 hok hc44 hf];rfl,Lh⟩
  exact ZB
  exact ZB
 have an7_41:∀ (g42 c42:Nat),R7 3 #[tT,tT,tT,tT,tT,tT,tT,tT,fF,fF,fF] [(38,.pointer (some ⟨b2,0,none⟩)),(39,.slice A0 p.fFuns.length c0),(40,.slice A8 p.fFuns.length c8),(41,.slice F8 p.fFuns.length e8),(42,.slice (some ⟨g42,0,none⟩) (onL (graphF p) (memF p free)).length c42),(43,.pointer (some (elt g42 0 1 0))),(44,.int .i64 (c44:Int)),(45,.pointer (some (adr e1 0))),(2,.pointer (some ⟨b2,0,none⟩)),(4,.pointer (some ⟨b4,0,none⟩)),(5,.slice A8 p.fFuns.length c8),(6,.slice F8 p.fFuns.length e8)] [row (Kd.int .i64) B.e 3 (.slice (some ⟨g42,0,none⟩) (onL (graphF p) (memF p free)).length c42) (onL (graphF p) (memF p free)),blk b2 29 (pcL p A0 c0 A1 c1),blk b4 32 [.int .i64 0,.int .i64 0,.int .i64 0]]:=by
  intro g42 c42
  refine anPut hR7 (ZM (i:=8) (rs:=[9]) ZK ?_)
  refine ZA J ?_ ?_
  refine Zlx hc45 ?_
  refine Z7 ?_
  exact anCov hR7 (an7_43 g42 c42) rfl cv Lh
  refine ZA J ?_ ?_
  refine oAlloc J ZP (fun b9=>?_)
  refine Z7 ?_
  exact anCov hR7 (an7_44 g42 c42 b9) rfl cv Lh
  exact ZB
 have an7_42:∀ (g42 c42:Nat) (b9:Nat),R7 3 #[tT,tT,tT,tT,tT,tT,tT,fF,fF,tT,fF] [(38,.pointer (some ⟨b2,0,none⟩)),(39,.slice A0 p.fFuns.length c0),(40,.slice A8 p.fFuns.length c8),(41,.slice F8 p.fFuns.length e8),(42,.slice (some ⟨g42,0,none⟩) (onL (graphF p) (memF p free)).length c42),(43,.pointer (some (elt g42 0 1 0))),(44,.int .i64 (c44:Int)),(9,.pointer (some ⟨b9,0,none⟩)),(2,.pointer (some ⟨b2,0,none⟩)),(4,.pointer (some ⟨b4,0,none⟩)),(5,.slice A8 p.fFuns.length c8),(6,.slice F8 p.fFuns.length e8)] [row (Kd.int .i64) B.e 3 (.slice (some ⟨g42,0,none⟩) (onL (graphF p) (memF p free)).length c42) (onL (graphF p) (memF p free)),blk b9 49 [.int .i64 0,.int .i64 0,.string ByteArray.empty,.int .i64 0,.slice none 0 0,.int .i64 0,.bool false,.int .i64 0,.int .i64 0,.slice none 0 0,.slice none 0 0,.slice none 0 0,.slice none 0 0],blk b2 29 (pcL p A0 c0 A1 c1),blk b4 32 [.int .i64 0,.int .i64 0,.int .i64 0]]:=by
  intro g42 c42 b9
  refine anPut hR7 (ZM (i:=7) (rs:=[]) ZK ?_)
  refine ZA J ?_ ?_
  refine oIdxE J J (hE) ZO J J ?_
  have hc45:=(hE).cell
  refine Z7 ?_
  exact anCov hR7 (an7_44 g42 c42 b9) rfl cv Lh
  exact ZB
 have an7_39:∀ (g42 c42:Nat) (b9:Nat),R7 4 #[tT,tT,tT,tT,tT,tT,fF,fF,fF,tT,fF] [(38,.pointer (some ⟨b2,0,none⟩)),(39,.slice A0 p.fFuns.length c0),(40,.slice A8 p.fFuns.length c8),(41,.slice F8 p.fFuns.length e8),(42,.slice (some ⟨g42,0,none⟩) (onL (graphF p) (memF p free)).length c42),(43,.pointer (some (elt g42 0 1 0))),(9,.pointer (some ⟨b9,0,none⟩)),(2,.pointer (some ⟨b2,0,none⟩)),(4,.pointer (some ⟨b4,0,none⟩)),(5,.slice A8 p.fFuns.length c8),(6,.slice F8 p.fFuns.length e8)] [row (Kd.int .i64) B.e 3 (.slice (some ⟨g42,0,none⟩) (onL (graphF p) (memF p free)).length c42) (onL (graphF p) (memF p free)),blk b9 49 [.int .i64 0,.int .i64 0,.string ByteArray.empty,.int .i64 0,.slice none 0 0,.int .i64 0,.bool false,.int .i64 0,.int .i64 0,.slice none 0 0,.slice none 0 0,.slice none 0 0,.slice none 0 0],blk b2 29 (pcL p A0 c0 A1 c1),blk b4 32 [.int .i64 0,.int .i64 0,.int .i64 0]]:=by
  intro g42 c42 b9
  refine anPut hR7 (ZM (i:=6) (rs:=[]) ZK ?_)
  refine ZA J ?_ ?_
  refine ZR1 (i:=0) J ZP (by have:=(List.getElem?_eq_some_iff.1 hc44).1;exact this) J (fun u44 hu44=>?_)
  obtain rfl:u44=(c44:Int):=Option.some.inj (hu44.symm.trans hc44)
  refine Z7 ?_
  exact anCov hR7 (an7_42 g42 c42 b9) rfl cv Lh
  exact ZB
 have an7_38:∀ (g42 c42:Nat),R7 4 #[tT,tT,tT,tT,tT,tT,tT,fF,fF,fF,fF] [(38,.pointer (some ⟨b2,0,none⟩)),(39,.slice A0 p.fFuns.length c0),(40,.slice A8 p.fFuns.length c8),(41,.slice F8 p.fFuns.length e8),(42,.slice (some ⟨g42,0,none⟩) (onL (graphF p) (memF p free)).length c42),(43,.pointer (some (elt g42 0 1 0))),(44,.int .i64 (c44:Int)),(2,.pointer (some ⟨b2,0,none⟩)),(4,.pointer (some ⟨b4,0,none⟩)),(5,.slice A8 p.fFuns.length c8),(6,.slice F8 p.fFuns.length e8)] [row (Kd.int .i64) B.e 3 (.slice (some ⟨g42,0,none⟩) (onL (graphF p) (memF p free)).length c42) (onL (graphF p) (memF p free)),blk b2 29 (pcL p A0 c0 A1 c1),blk b4 32 [.int .i64 0,.int .i64 0,.int .i64 0]]:=by
  intro g42 c42
  refine anPut hR7 (ZM (i:=7) (rs:=[9]) ZK ?_)
  refine ZA J ?_ ?_
  refine oIdxE J J (hE) ZO J J ?_
  have hc45:=(hE).cell
  refine Z7 ?_
  exact anCov hR7 (an7_41 g42 c42) rfl cv Lh
  refine ZA J ?_ ?_
  refine oAlloc J ZP (fun b9=>?_)
  refine Z7 ?_
  exact anCov hR7 (an7_42 g42 c42 b9) rfl cv Lh
  exact ZB
 have an7_40:∀ (g42 c42:Nat) (b9:Nat),R7 4 #[tT,fF,tT,tT,tT,tT,tT,fF,fF,tT,fF] [(38,.pointer (some ⟨b2,0,none⟩)),(40,.slice A8 p.fFuns.length c8),(41,.slice F8 p.fFuns.length e8),(42,.slice (some ⟨g42,0,none⟩) (onL (graphF p) (memF p free)).length c42),(43,.pointer (some (elt g42 0 1 0))),(44,.int .i64 (c44:Int)),(9,.pointer (some ⟨b9,0,none⟩)),(2,.pointer (some ⟨b2,0,none⟩)),(4,.pointer (some ⟨b4,0,none⟩)),(5,.slice A8 p.fFuns.length c8),(6,.slice F8 p.fFuns.length e8)] [row (Kd.int .i64) B.e 3 (.slice (some ⟨g42,0,none⟩) (onL (graphF p) (memF p free)).length c42) (onL (graphF p) (memF p free)),blk b9 49 [.int .i64 0,.int .i64 0,.string ByteArray.empty,.int .i64 0,.slice none 0 0,.int .i64 0,.bool false,.int .i64 0,.int .i64 0,.slice none 0 0,.slice none 0 0,.slice none 0 0,.slice none 0 0],blk b2 29 (pcL p A0 c0 A1 c1),blk b4 32 [.int .i64 0,.int .i64 0,.int .i64 0]]:=by
  intro g42 c42 b9
  refine anPut hR7 (ZM (i:=1) (rs:=[]) ZK ?_)
  refine ZA J ?_ ?_
  refine Zld ?_
  refine Z7 ?_
  exact anCov hR7 (an7_42 g42 c42 b9) rfl cv Lh
  exact ZB
 have an7_34:∀ (g42 c42:Nat) (b9:Nat),R7 5 #[tT,tT,tT,tT,tT,fF,fF,fF,fF,tT,fF] [(38,.pointer (some ⟨b2,0,none⟩)),(39,.slice A0 p.fFuns.length c0),(40,.slice A8 p.fFuns.length c8),(41,.slice F8 p.fFuns.length e8),(42,.slice (some ⟨g42,0,none⟩) (onL (graphF p) (memF p free)).length c42),(9,.pointer (some ⟨b9,0,none⟩)),(2,.pointer (some ⟨b2,0,none⟩)),(4,.pointer (some ⟨b4,0,none⟩)),(5,.slice A8 p.fFuns.length c8),(6,.slice F8 p.fFuns.length e8)] [row (Kd.int .i64) B.e 3 (.slice (some ⟨g42,0,none⟩) (onL (graphF p) (memF p free)).length c42) (onL (graphF p) (memF p free)),blk b9 49 [.int .i64 0,.int .i64 0,.string ByteArray.empty,.int .i64 0,.slice none 0 0,.int .i64 0,.bool false,.int .i64 0,.int .i64 0,.slice none 0 0,.slice none 0 0,.slice none 0 0,.slice none 0 0],blk b2 29 (pcL p A0 c0 A1 c1),blk b4 32 [.int .i64 0,.int .i64 0,.int .i64 0]]:=by
  intro g42 c42 b9
  refine anPut hR7 (ZM (i:=5) (rs:=[]) ZK ?_)
  refine ZA J ?_ ?_
  refine ZR (i:=0) J J ZP (by have:=(List.getElem?_eq_some_iff.1 hc44).1;exact this) J J (fun g43 hg43=>?_)
  injection hg43 with hg43;injection hg43 with hg43;subst hg43
  refine Z7 ?_
  exact anCov hR7 (an7_39 g42 c42 b9) rfl cv Lh
  exact ZB
 have an7_35:∀ (g42 c42:Nat),R7 5 #[tT,fF,tT,tT,tT,tT,tT,fF,fF,fF,fF] [(38,.pointer (some ⟨b2,0,none⟩)),(40,.slice A8 p.fFuns.length c8),(41,.slice F8 p.fFuns.length e8),(42,.slice (some ⟨g42,0,none⟩) (onL (graphF p) (memF p free)).length c42),(43,.pointer (some (elt g42 0 1 0))),(44,.int .i64 (c44:Int)),(2,.pointer (some ⟨b2,0,none⟩)),(4,.pointer (some ⟨b4,0,none⟩)),(5,.slice A8 p.fFuns.length c8),(6,.slice F8 p.fFuns.length e8)] [row (Kd.int .i64) B.e 3 (.slice (some ⟨g42,0,none⟩) (onL (graphF p) (memF p free)).length c42) (onL (graphF p) (memF p free)),blk b2 29 (pcL p A0 c0 A1 c1),blk b4 32 [.int .i64 0,.int .i64 0,.int .i64 0]]:=by
  intro g42 c42
  refine anPut hR7 (ZM (i:=1) (rs:=[9]) ZK ?_)
  refine ZA J ?_ ?_
  refine Zld ?_
  refine Z7 ?_
  exact anCov hR7 (an7_38 g42 c42) rfl cv Lh
  refine ZA J ?_ ?_
  refine oAlloc J ZP (fun b9=>?_)
  refine Z7 ?_
  exact anCov hR7 (an7_40 g42 c42 b9) rfl cv Lh
  exact ZB
 have an7_37:∀ (g42 c42:Nat) (b9:Nat),R7 5 #[fF,fF,tT,tT,tT,tT,tT,fF,fF,tT,fF] [(40,.slice A8 p.fFuns.length c8),(41,.slice F8 p.fFuns.length e8),(42,.slice (some ⟨g42,0,none⟩) (onL (graphF p) (memF p free)).length c42),(43,.pointer (some (elt g42 0 1 0))),(44,.int .i64 (c44:Int)),(9,.pointer (some ⟨b9,0,none⟩)),(2,.pointer (some ⟨b2,0,none⟩)),(4,.pointer (some ⟨b4,0,none⟩)),(5,.slice A8 p.fFuns.length c8),(6,.slice F8 p.fFuns.length e8)] [row (Kd.int .i64) B.e 3 (.slice (some ⟨g42,0,none⟩) (onL (graphF p) (memF p free)).length c42) (onL (graphF p) (memF p free)),blk b9 49 [.int .i64 0,.int .i64 0,.string ByteArray.empty,.int .i64 0,.slice none 0 0,.int .i64 0,.bool false,.int .i64 0,.int .i64 0,.slice none 0 0,.slice none 0 0,.slice none 0 0,.slice none 0 0],blk b2 29 (pcL p A0 c0 A1 c1),blk b4 32 [.int .i64 0,.int .i64 0,.int .i64 0]]:=by
  intro g42 c42 b9
  refine anPut hR7 (ZM (i:=0) (rs:=[]) ZK ?_)
  refine ZA J ?_ ?_
  refine Zz (n:=0) (m:=0) J J J (Z7 ?_)
  exact anCov hR7 (an7_40 g42 c42 b9) rfl cv Lh
  exact ZB
 have an7_36:∀ (g42 c42:Nat) (b9:Nat),R7 5 #[tT,fF,tT,tT,tT,tT,fF,fF,fF,tT,fF] [(38,.pointer (some ⟨b2,0,none⟩)),(40,.slice A8 p.fFuns.length c8),(41,.slice F8 p.fFuns.length e8),(42,.slice (some ⟨g42,0,none⟩) (onL (graphF p) (memF p free)).length c42),(43,.pointer (some (elt g42 0 1 0))),(9,.pointer (some ⟨b9,0,none⟩)),(2,.pointer (some ⟨b2,0,none⟩)),(4,.pointer (some ⟨b4,0,none⟩)),(5,.slice A8 p.fFuns.length c8),(6,.slice F8 p.fFuns.length e8)] [row (Kd.int .i64) B.e 3 (.slice (some ⟨g42,0,none⟩) (onL (graphF p) (memF p free)).length c42) (onL (graphF p) (memF p free)),blk b9 49 [.int .i64 0,.int .i64 0,.string ByteArray.empty,.int .i64 0,.slice none 0 0,.int .i64 0,.bool false,.int .i64 0,.int .i64 0,.slice none 0 0,.slice none 0 0,.slice none 0 0,.slice none 0 0],blk b2 29 (pcL p A0 c0 A1 c1),blk b4 32 [.int .i64 0,.int .i64 0,.int .i64 0]]:=by
  intro g42 c42 b9
  refine anPut hR7 (ZM (i:=1) (rs:=[6]) ZK ?_)
  refine ZA J ?_ ?_
  refine Zld ?_
  refine Z7 ?_
  exact anCov hR7 (an7_39 g42 c42 b9) rfl cv Lh
  refine ZA J ?_ ?_
  refine ZR1 (i:=0) J ZP (by have:=(List.getElem?_eq_some_iff.1 hc44).1;exact this) J (fun u44 hu44=>?_)
  obtain rfl:u44=(c44:Int):=Option.some.inj (hu44.symm.trans hc44)
  refine Z7 ?_
  exact anCov hR7 (an7_40 g42 c42 b9) rfl cv Lh
  exact ZB
 have an7_33:∀ (g42 c42:Nat),R7 5 #[tT,tT,tT,tT,tT,tT,fF,fF,fF,fF,fF] [(38,.pointer (some ⟨b2,0,none⟩)),(39,.slice A0 p.fFuns.length c0),(40,.slice A8 p.fFuns.length c8),(41,.slice F8 p.fFuns.length e8),(42,.slice (some ⟨g42,0,none⟩) (onL (graphF p) (memF p free)).length c42),(43,.pointer (some (elt g42 0 1 0))),(2,.pointer (some ⟨b2,0,none⟩)),(4,.pointer (some ⟨b4,0,none⟩)),(5,.slice A8 p.fFuns.length c8),(6,.slice F8 p.fFuns.length e8)] [row (Kd.int .i64) B.e 3 (.slice (some ⟨g42,0,none⟩) (onL (graphF p) (memF p free)).length c42) (onL (graphF p) (memF p free)),blk b2 29 (pcL p A0 c0 A1 c1),blk b4 32 [.int .i64 0,.int .i64 0,.int .i64 0]]:=by
  intro g42 c42
  refine anPut hR7 (ZM (i:=6) (rs:=[9]) ZK ?_)
  refine ZA J ?_ ?_
  refine ZR1 (i:=0) J ZP (by have:=(List.getElem?_eq_some_iff.1 hc44).1;exact this) J (fun u44 hu44=>?_)
  obtain rfl:u44=(c44:Int):=Option.some.inj (hu44.symm.trans hc44)
  refine Z7 ?_
  exact anCov hR7 (an7_38 g42 c42) rfl cv Lh
  refine ZA J ?_ ?_
  refine oAlloc J ZP (fun b9=>?_)
  refine Z7 ?_
  exact anCov hR7 (an7_39 g42 c42 b9) rfl cv Lh
  exact ZB
 have an7_32:∀ (g42 c42:Nat) (b9:Nat),R7 6 #[fF,fF,tT,tT,tT,tT,fF,fF,fF,tT,fF] [(40,.slice A8 p.fFuns.length c8),(41,.slice F8 p.fFuns.length e8),(42,.slice (some ⟨g42,0,none⟩) (onL (graphF p) (memF p free)).length c42),(43,.pointer (some (elt g42 0 1 0))),(9,.pointer (some ⟨b9,0,none⟩)),(2,.pointer (some ⟨b2,0,none⟩)),(4,.pointer (some ⟨b4,0,none⟩)),(5,.slice A8 p.fFuns.length c8),(6,.slice F8 p.fFuns.length e8)] [row (Kd.int .i64) B.e 3 (.slice (some ⟨g42,0,none⟩) (onL (graphF p) (memF p free)).length c42) (onL (graphF p) (memF p free)),blk b9 49 [.int .i64 0,.int .i64 0,.string ByteArray.empty,.int .i64 0,.slice none 0 0,.int .i64 0,.bool false,.int .i64 0,.int .i64 0,.slice none 0 0,.slice none 0 0,.slice none 0 0,.slice none 0 0],blk b2 29 (pcL p A0 c0 A1 c1),blk b4 32 [.int .i64 0,.int .i64 0,.int .i64 0]]:=by
  intro g42 c42 b9
  refine anPut hR7 (ZM (i:=0) (rs:=[6]) ZK ?_)
  refine ZA J ?_ ?_
  refine Zz (n:=0) (m:=0) J J J (Z7 ?_)
  exact anCov hR7 (an7_36 g42 c42 b9) rfl cv Lh
  refine ZA J ?_ ?_
  refine ZR1 (i:=0) J ZP (by have:=(List.getElem?_eq_some_iff.1 hc44).1;exact this) J (fun u44 hu44=>?_)
  obtain rfl:u44=(c44:Int):=Option.some.inj (hu44.symm.trans hc44)
  refine Z7 ?_
  exact anCov hR7 (an7_37 g42 c42 b9) rfl cv Lh
  exact ZB
 have an7_27:∀ (g42 c42:Nat),R7 6 #[tT,tT,tT,tT,tT,fF,fF,fF,fF,fF,fF] [(38,.pointer (some ⟨b2,0,none⟩)),(39,.slice A0 p.fFuns.length c0),(40,.slice A8 p.fFuns.length c8),(41,.slice F8 p.fFuns.length e8),(42,.slice (some ⟨g42,0,none⟩) (onL (graphF p) (memF p free)).length c42),(2,.pointer (some ⟨b2,0,none⟩)),(4,.pointer (some ⟨b4,0,none⟩)),(5,.slice A8 p.fFuns.length c8),(6,.slice F8 p.fFuns.length e8)] [row (Kd.int .i64) B.e 3 (.slice (some ⟨g42,0,none⟩) (onL (graphF p) (memF p free)).length c42) (onL (graphF p) (memF p free)),blk b2 29 (pcL p A0 c0 A1 c1),blk b4 32 [.int .i64 0,.int .i64 0,.int .i64 0]]:=by
  intro g42 c42
  refine anPut hR7 (ZM (i:=5) (rs:=[9]) ZK ?_)
  refine ZA J ?_ ?_
  refine ZR (i:=0) J J ZP (by have:=(List.getElem?_eq_some_iff.1 hc44).1;exact this) J J (fun g43 hg43=>?_)
  injection hg43 with hg43;injection hg43 with hg43;subst hg43
  refine Z7 ?_
  exact anCov hR7 (an7_33 g42 c42) rfl cv Lh
  refine ZA J ?_ ?_
  refine oAlloc J ZP (fun b9=>?_)
  refine Z7 ?_
  exact anCov hR7 (an7_34 g42 c42 b9) rfl cv Lh
  exact ZB
 have an7_28:∀ (b9:Nat),R7 6 #[tT,tT,tT,tT,fF,fF,fF,fF,fF,tT,fF] [(38,.pointer (some ⟨b2,0,none⟩)),(39,.slice A0 p.fFuns.length c0),(40,.slice A8 p.fFuns.length c8),(41,.slice F8 p.fFuns.length e8),(9,.pointer (some ⟨b9,0,none⟩)),(2,.pointer (some ⟨b2,0,none⟩)),(4,.pointer (some ⟨b4,0,none⟩)),(5,.slice A8 p.fFuns.length c8),(6,.slice F8 p.fFuns.length e8)] [blk b9 49 [.int .i64 0,.int .i64 0,.string ByteArray.empty,.int .i64 0,.slice none 0 0,.int .i64 0,.bool false,.int .i64 0,.int .i64 0,.slice none 0 0,.slice none 0 0,.slice none 0 0,.slice none 0 0],blk b2 29 (pcL p A0 c0 A1 c1),blk b4 32 [.int .i64 0,.int .i64 0,.int .i64 0]]:=by
  intro b9
  refine anPut hR7 (ZM (i:=4) (rs:=[]) ZK ?_)
  refine ZA J ?_ ?_
  (refine ZC0 rfl ZK (fun w hS=>frame hS ZQ (fun B' hB hS'=>onRRh hS' hsm free A8 c8 (Kd.C_grow hB hG) F8 e8 (Kd.C_grow hB hM) hne44 B.e)) ?_;rintro ⟨g42,c42⟩ -)
  refine Z7 ?_
  exact anCov hR7 (an7_34 g42 c42 b9) rfl cv Lh
  exact ZB
 have an7_29:∀ (g42 c42:Nat),R7 6 #[tT,fF,tT,tT,tT,tT,fF,fF,fF,fF,fF] [(38,.pointer (some ⟨b2,0,none⟩)),(40,.slice A8 p.fFuns.length c8),(41,.slice F8 p.fFuns.length e8),(42,.slice (some ⟨g42,0,none⟩) (onL (graphF p) (memF p free)).length c42),(43,.pointer (some (elt g42 0 1 0))),(2,.pointer (some ⟨b2,0,none⟩)),(4,.pointer (some ⟨b4,0,none⟩)),(5,.slice A8 p.fFuns.length c8),(6,.slice F8 p.fFuns.length e8)] [row (Kd.int .i64) B.e 3 (.slice (some ⟨g42,0,none⟩) (onL (graphF p) (memF p free)).length c42) (onL (graphF p) (memF p free)),blk b2 29 (pcL p A0 c0 A1 c1),blk b4 32 [.int .i64 0,.int .i64 0,.int .i64 0]]:=by
  intro g42 c42
  refine anPut hR7 (ZM (i:=1) (rs:=[6,9]) ZK ?_)
  refine ZA J ?_ ?_
  refine Zld ?_
  refine Z7 ?_
  exact anCov hR7 (an7_33 g42 c42) rfl cv Lh
  refine ZA J ?_ ?_
  refine ZR1 (i:=0) J ZP (by have:=(List.getElem?_eq_some_iff.1 hc44).1;exact this) J (fun u44 hu44=>?_)
  obtain rfl:u44=(c44:Int):=Option.some.inj (hu44.symm.trans hc44)
  refine Z7 ?_
  exact anCov hR7 (an7_35 g42 c42) rfl cv Lh
  refine ZA J ?_ ?_
  refine oAlloc J ZP (fun b9=>?_)
  refine Z7 ?_
  exact anCov hR7 (an7_36 g42 c42 b9) rfl cv Lh
  exact ZB
 have an7_31:∀ (g42 c42:Nat),R7 6 #[fF,fF,tT,tT,tT,tT,tT,fF,fF,fF,fF] [(40,.slice A8 p.fFuns.length c8),(41,.slice F8 p.fFuns.length e8),(42,.slice (some ⟨g42,0,none⟩) (onL (graphF p) (memF p free)).length c42),(43,.pointer (some (elt g42 0 1 0))),(44,.int .i64 (c44:Int)),(2,.pointer (some ⟨b2,0,none⟩)),(4,.pointer (some ⟨b4,0,none⟩)),(5,.slice A8 p.fFuns.length c8),(6,.slice F8 p.fFuns.length e8)] [row (Kd.int .i64) B.e 3 (.slice (some ⟨g42,0,none⟩) (onL (graphF p) (memF p free)).length c42) (onL (graphF p) (memF p free)),blk b2 29 (pcL p A0 c0 A1 c1),blk b4 32 [.int .i64 0,.int .i64 0,.int .i64 0]]:=by
  intro g42 c42
  refine anPut hR7 (ZM (i:=0) (rs:=[9]) ZK ?_)
  refine ZA J ?_ ?_
  refine Zz (n:=0) (m:=0) J J J (Z7 ?_)
  exact anCov hR7 (an7_35 g42 c42) rfl cv Lh
  refine ZA J ?_ ?_
  refine oAlloc J ZP (fun b9=>?_)
  refine Z7 ?_
  exact anCov hR7 (an7_37 g42 c42 b9) rfl cv Lh
  exact ZB
 have an7_30:∀ (g42 c42:Nat) (b9:Nat),R7 6 #[tT,fF,tT,tT,tT,fF,fF,fF,fF,tT,fF] [(38,.pointer (some ⟨b2,0,none⟩)),(40,.slice A8 p.fFuns.length c8),(41,.slice F8 p.fFuns.length e8),(42,.slice (some ⟨g42,0,none⟩) (onL (graphF p) (memF p free)).length c42),(9,.pointer (some ⟨b9,0,none⟩)),(2,.pointer (some ⟨b2,0,none⟩)),(4,.pointer (some ⟨b4,0,none⟩)),(5,.slice A8 p.fFuns.length c8),(6,.slice F8 p.fFuns.length e8)] [row (Kd.int .i64) B.e 3 (.slice (some ⟨g42,0,none⟩) (onL (graphF p) (memF p free)).length c42) (onL (graphF p) (memF p free)),blk b9 49 [.int .i64 0,.int .i64 0,.string ByteArray.empty,.int .i64 0,.slice none 0 0,.int .i64 0,.bool false,.int .i64 0,.int .i64 0,.slice none 0 0,.slice none 0 0,.slice none 0 0,.slice none 0 0],blk b2 29 (pcL p A0 c0 A1 c1),blk b4 32 [.int .i64 0,.int .i64 0,.int .i64 0]]:=by
  intro g42 c42 b9
  refine anPut hR7 (ZM (i:=1) (rs:=[5]) ZK ?_)
  refine ZA J ?_ ?_
  refine Zld ?_
  refine Z7 ?_
  exact anCov hR7 (an7_34 g42 c42 b9) rfl cv Lh
  refine ZA J ?_ ?_
  refine ZR (i:=0) J J ZP (by have:=(List.getElem?_eq_some_iff.1 hc44).1;exact this) J J (fun g43 hg43=>?_)
  injection hg43 with hg43;injection hg43 with hg43;subst hg43
  refine Z7 ?_
  exact anCov hR7 (an7_36 g42 c42 b9) rfl cv Lh
  exact ZB
 have an7_26:∀ (g42 c42:Nat) (b9:Nat),R7 7 #[fF,fF,tT,tT,tT,fF,fF,fF,fF,tT,fF] [(40,.slice A8 p.fFuns.length c8),(41,.slice F8 p.fFuns.length e8),(42,.slice (some ⟨g42,0,none⟩) (onL (graphF p) (memF p free)).length c42),(9,.pointer (some ⟨b9,0,none⟩)),(2,.pointer (some ⟨b2,0,none⟩)),(4,.pointer (some ⟨b4,0,none⟩)),(5,.slice A8 p.fFuns.length c8),(6,.slice F8 p.fFuns.length e8)] [row (Kd.int .i64) B.e 3 (.slice (some ⟨g42,0,none⟩) (onL (graphF p) (memF p free)).length c42) (onL (graphF p) (memF p free)),blk b9 49 [.int .i64 0,.int .i64 0,.string ByteArray.empty,.int .i64 0,.slice none 0 0,.int .i64 0,.bool false,.int .i64 0,.int .i64 0,.slice none 0 0,.slice none 0 0,.slice none 0 0,.slice none 0 0],blk b2 29 (pcL p A0 c0 A1 c1),blk b4 32 [.int .i64 0,.int .i64 0,.int .i64 0]]:=by
  intro g42 c42 b9
  refine anPut hR7 (ZM (i:=0) (rs:=[5]) ZK ?_)
  refine ZA J ?_ ?_
  refine Zz (n:=0) (m:=0) J J J (Z7 ?_)
  exact anCov hR7 (an7_30 g42 c42 b9) rfl cv Lh
  refine ZA J ?_ ?_
  refine ZR (i:=0) J J ZP (by have:=(List.getElem?_eq_some_iff.1 hc44).1;exact this) J J (fun g43 hg43=>?_)
  injection hg43 with hg43;injection hg43 with hg43;subst hg43
  refine Z7 ?_
  exact anCov hR7 (an7_32 g42 c42 b9) rfl cv Lh
  exact ZB
 have an7_23:∀ (g42 c42:Nat),R7 7 #[tT,fF,tT,tT,tT,fF,fF,fF,fF,fF,fF] [(38,.pointer (some ⟨b2,0,none⟩)),(40,.slice A8 p.fFuns.length c8),(41,.slice F8 p.fFuns.length e8),(42,.slice (some ⟨g42,0,none⟩) (onL (graphF p) (memF p free)).length c42),(2,.pointer (some ⟨b2,0,none⟩)),(4,.pointer (some ⟨b4,0,none⟩)),(5,.slice A8 p.fFuns.length c8),(6,.slice F8 p.fFuns.length e8)] [row (Kd.int .i64) B.e 3 (.slice (some ⟨g42,0,none⟩) (onL (graphF p) (memF p free)).length c42) (onL (graphF p) (memF p free)),blk b2 29 (pcL p A0 c0 A1 c1),blk b4 32 [.int .i64 0,.int .i64 0,.int .i64 0]]:=by
  intro g42 c42
  refine anPut hR7 (ZM (i:=1) (rs:=[5,9]) ZK ?_)
  refine ZA J ?_ ?_
  refine Zld ?_
  refine Z7 ?_
  exact anCov hR7 (an7_27 g42 c42) rfl cv Lh
  refine ZA J ?_ ?_
  refine ZR (i:=0) J J ZP (by have:=(List.getElem?_eq_some_iff.1 hc44).1;exact this) J J (fun g43 hg43=>?_)
  injection hg43 with hg43;injection hg43 with hg43;subst hg43
  refine Z7 ?_
  exact anCov hR7 (an7_29 g42 c42) rfl cv Lh
  refine ZA J ?_ ?_
  refine oAlloc J ZP (fun b9=>?_)
  refine Z7 ?_
  exact anCov hR7 (an7_30 g42 c42 b9) rfl cv Lh
  exact ZB
 have an7_21:∀ (b9:Nat),R7 7 #[tT,tT,tT,fF,fF,fF,fF,fF,fF,tT,fF] [(38,.pointer (some ⟨b2,0,none⟩)),(39,.slice A0 p.fFuns.length c0),(40,.slice A8 p.fFuns.length c8),(9,.pointer (some ⟨b9,0,none⟩)),(2,.pointer (some ⟨b2,0,none⟩)),(4,.pointer (some ⟨b4,0,none⟩)),(5,.slice A8 p.fFuns.length c8),(6,.slice F8 p.fFuns.length e8)] [blk b9 49 [.int .i64 0,.int .i64 0,.string ByteArray.empty,.int .i64 0,.slice none 0 0,.int .i64 0,.bool false,.int .i64 0,.int .i64 0,.slice none 0 0,.slice none 0 0,.slice none 0 0,.slice none 0 0],blk b2 29 (pcL p A0 c0 A1 c1),blk b4 32 [.int .i64 0,.int .i64 0,.int .i64 0]]:=by
  intro b9
  refine anPut hR7 (ZM (i:=3) (rs:=[]) ZK ?_)
  refine ZA J ?_ ?_
  refine Zo J (Z7 ?_)
  exact anCov hR7 (an7_28 b9) rfl cv Lh
  exact ZB
 have an7_24:∀ (b9:Nat),R7 7 #[tT,fF,tT,tT,fF,fF,fF,fF,fF,tT,fF] [(38,.pointer (some ⟨b2,0,none⟩)),(40,.slice A8 p.fFuns.length c8),(41,.slice F8 p.fFuns.length e8),(9,.pointer (some ⟨b9,0,none⟩)),(2,.pointer (some ⟨b2,0,none⟩)),(4,.pointer (some ⟨b4,0,none⟩)),(5,.slice A8 p.fFuns.length c8),(6,.slice F8 p.fFuns.length e8)] [blk b9 49 [.int .i64 0,.int .i64 0,.string ByteArray.empty,.int .i64 0,.slice none 0 0,.int .i64 0,.bool false,.int .i64 0,.int .i64 0,.slice none 0 0,.slice none 0 0,.slice none 0 0,.slice none 0 0],blk b2 29 (pcL p A0 c0 A1 c1),blk b4 32 [.int .i64 0,.int .i64 0,.int .i64 0]]:=by
  intro b9
  refine anPut hR7 (ZM (i:=1) (rs:=[4]) ZK ?_)
  refine ZA J ?_ ?_
  refine Zld ?_
  refine Z7 ?_
  exact anCov hR7 (an7_28 b9) rfl cv Lh
  refine ZA J ?_ ?_
  (refine ZC0 rfl ZK (fun w hS=>frame hS ZQ (fun B' hB hS'=>onRRh hS' hsm free A8 c8 (Kd.C_grow hB hG) F8 e8 (Kd.C_grow hB hM) hne44 B.e)) ?_;rintro ⟨g42,c42⟩ -)
  refine Z7 ?_
  exact anCov hR7 (an7_30 g42 c42 b9) rfl cv Lh
  exact ZB
 have an7_25:∀ (g42 c42:Nat),R7 7 #[fF,fF,tT,tT,tT,tT,fF,fF,fF,fF,fF] [(40,.slice A8 p.fFuns.length c8),(41,.slice F8 p.fFuns.length e8),(42,.slice (some ⟨g42,0,none⟩) (onL (graphF p) (memF p free)).length c42),(43,.pointer (some (elt g42 0 1 0))),(2,.pointer (some ⟨b2,0,none⟩)),(4,.pointer (some ⟨b4,0,none⟩)),(5,.slice A8 p.fFuns.length c8),(6,.slice F8 p.fFuns.length e8)] [row (Kd.int .i64) B.e 3 (.slice (some ⟨g42,0,none⟩) (onL (graphF p) (memF p free)).length c42) (onL (graphF p) (memF p free)),blk b2 29 (pcL p A0 c0 A1 c1),blk b4 32 [.int .i64 0,.int .i64 0,.int .i64 0]]:=by
  intro g42 c42
  refine anPut hR7 (ZM (i:=0) (rs:=[6,9]) ZK ?_)
  refine ZA J ?_ ?_
  refine Zz (n:=0) (m:=0) J J J (Z7 ?_)
  exact anCov hR7 (an7_29 g42 c42) rfl cv Lh
  refine ZA J ?_ ?_
  refine ZR1 (i:=0) J ZP (by have:=(List.getElem?_eq_some_iff.1 hc44).1;exact this) J (fun u44 hu44=>?_)
  obtain rfl:u44=(c44:Int):=Option.some.inj (hu44.symm.trans hc44)
  refine Z7 ?_
  exact anCov hR7 (an7_31 g42 c42) rfl cv Lh
  refine ZA J ?_ ?_
  refine oAlloc J ZP (fun b9=>?_)
  refine Z7 ?_
  exact anCov hR7 (an7_32 g42 c42 b9) rfl cv Lh
  exact ZB
 have an7_20:R7 7 #[tT,tT,tT,tT,fF,fF,fF,fF,fF,fF,fF] [(38,.pointer (some ⟨b2,0,none⟩)),(39,.slice A0 p.fFuns.length c0),(40,.slice A8 p.fFuns.length c8),(41,.slice F8 p.fFuns.length e8),(2,.pointer (some ⟨b2,0,none⟩)),(4,.pointer (some ⟨b4,0,none⟩)),(5,.slice A8 p.fFuns.length c8),(6,.slice F8 p.fFuns.length e8)] [blk b2 29 (pcL p A0 c0 A1 c1),blk b4 32 [.int .i64 0,.int .i64 0,.int .i64 0]]:=by
  refine anPut hR7 (ZM (i:=4) (rs:=[9]) ZK ?_)
  refine ZA J ?_ ?_
  (refine ZC0 rfl ZK (fun w hS=>frame hS ZQ (fun B' hB hS'=>onRRh hS' hsm free A8 c8 (Kd.C_grow hB hG) F8 e8 (Kd.C_grow hB hM) hne44 B.e)) ?_;rintro ⟨g42,c42⟩ -)
  refine Z7 ?_
  exact anCov hR7 (an7_27 g42 c42) rfl cv Lh
  refine ZA J ?_ ?_
  refine oAlloc J ZP (fun b9=>?_)
  refine Z7 ?_
  exact anCov hR7 (an7_28 b9) rfl cv Lh
  exact ZB
 have an7_22:∀ (b9:Nat),R7 7 #[tT,tT,fF,tT,fF,fF,fF,fF,fF,tT,fF] [(38,.pointer (some ⟨b2,0,none⟩)),(39,.slice A0 p.fFuns.length c0),(41,.slice F8 p.fFuns.length e8),(9,.pointer (some ⟨b9,0,none⟩)),(2,.pointer (some ⟨b2,0,none⟩)),(4,.pointer (some ⟨b4,0,none⟩)),(5,.slice A8 p.fFuns.length c8),(6,.slice F8 p.fFuns.length e8)] [blk b9 49 [.int .i64 0,.int .i64 0,.string ByteArray.empty,.int .i64 0,.slice none 0 0,.int .i64 0,.bool false,.int .i64 0,.int .i64 0,.slice none 0 0,.slice none 0 0,.slice none 0 0,.slice none 0 0],blk b2 29 (pcL p A0 c0 A1 c1),blk b4 32 [.int .i64 0,.int .i64 0,.int .i64 0]]:=by
  intro b9
  refine anPut hR7 (ZM (i:=2) (rs:=[]) ZK ?_)
  refine ZA J ?_ ?_
  refine Zo J (Z7 ?_)
  exact anCov hR7 (an7_28 b9) rfl cv Lh
  exact ZB
 have an7_18:∀ (g42 c42:Nat),R7 8 #[fF,fF,tT,tT,tT,fF,fF,fF,fF,fF,fF] [(40,.slice A8 p.fFuns.length c8),(41,.slice F8 p.fFuns.length e8),(42,.slice (some ⟨g42,0,none⟩) (onL (graphF p) (memF p free)).length c42),(2,.pointer (some ⟨b2,0,none⟩)),(4,.pointer (some ⟨b4,0,none⟩)),(5,.slice A8 p.fFuns.length c8),(6,.slice F8 p.fFuns.length e8)] [row (Kd.int .i64) B.e 3 (.slice (some ⟨g42,0,none⟩) (onL (graphF p) (memF p free)).length c42) (onL (graphF p) (memF p free)),blk b2 29 (pcL p A0 c0 A1 c1),blk b4 32 [.int .i64 0,.int .i64 0,.int .i64 0]]:=by
  intro g42 c42
  refine anPut hR7 (ZM (i:=0) (rs:=[5,9]) ZK ?_)
  refine ZA J ?_ ?_
  refine Zz (n:=0) (m:=0) J J J (Z7 ?_)
  exact anCov hR7 (an7_23 g42 c42) rfl cv Lh
  refine ZA J ?_ ?_
  refine ZR (i:=0) J J ZP (by have:=(List.getElem?_eq_some_iff.1 hc44).1;exact this) J J (fun g43 hg43=>?_)
  injection hg43 with hg43;injection hg43 with hg43;subst hg43
  refine Z7 ?_
  exact anCov hR7 (an7_25 g42 c42) rfl cv Lh
  refine ZA J ?_ ?_
  refine oAlloc J ZP (fun b9=>?_)
  refine Z7 ?_
  exact anCov hR7 (an7_26 g42 c42 b9) rfl cv Lh
  exact ZB
 have an7_19:∀ (b9:Nat),R7 8 #[fF,fF,tT,tT,fF,fF,fF,fF,fF,tT,fF] [(40,.slice A8 p.fFuns.length c8),(41,.slice F8 p.fFuns.length e8),(9,.pointer (some ⟨b9,0,none⟩)),(2,.pointer (some ⟨b2,0,none⟩)),(4,.pointer (some ⟨b4,0,none⟩)),(5,.slice A8 p.fFuns.length c8),(6,.slice F8 p.fFuns.length e8)] [blk b9 49 [.int .i64 0,.int .i64 0,.string ByteArray.empty,.int .i64 0,.slice none 0 0,.int .i64 0,.bool false,.int .i64 0,.int .i64 0,.slice none 0 0,.slice none 0 0,.slice none 0 0,.slice none 0 0],blk b2 29 (pcL p A0 c0 A1 c1),blk b4 32 [.int .i64 0,.int .i64 0,.int .i64 0]]:=by
  intro b9
  refine anPut hR7 (ZM (i:=0) (rs:=[4]) ZK ?_)
  refine ZA J ?_ ?_
  refine Zz (n:=0) (m:=0) J J J (Z7 ?_)
  exact anCov hR7 (an7_24 b9) rfl cv Lh
  refine ZA J ?_ ?_
  (refine ZC0 rfl ZK (fun w hS=>frame hS ZQ (fun B' hB hS'=>onRRh hS' hsm free A8 c8 (Kd.C_grow hB hG) F8 e8 (Kd.C_grow hB hM) hne44 B.e)) ?_;rintro ⟨g42,c42⟩ -)
  refine Z7 ?_
  exact anCov hR7 (an7_26 g42 c42 b9) rfl cv Lh
  exact ZB
 have an7_15:R7 8 #[tT,fF,tT,tT,fF,fF,fF,fF,fF,fF,fF] [(38,.pointer (some ⟨b2,0,none⟩)),(40,.slice A8 p.fFuns.length c8),(41,.slice F8 p.fFuns.length e8),(2,.pointer (some ⟨b2,0,none⟩)),(4,.pointer (some ⟨b4,0,none⟩)),(5,.slice A8 p.fFuns.length c8),(6,.slice F8 p.fFuns.length e8)] [blk b2 29 (pcL p A0 c0 A1 c1),blk b4 32 [.int .i64 0,.int .i64 0,.int .i64 0]]:=by
  refine anPut hR7 (ZM (i:=1) (rs:=[4,9]) ZK ?_)
  refine ZA J ?_ ?_
  refine Zld ?_
  refine Z7 ?_
  exact anCov hR7 (an7_20 ) rfl cv Lh
  refine ZA J ?_ ?_
  (refine ZC0 rfl ZK (fun w hS=>frame hS ZQ (fun B' hB hS'=>onRRh hS' hsm free A8 c8 (Kd.C_grow hB hG) F8 e8 (Kd.C_grow hB hM) hne44 B.e)) ?_;rintro ⟨g42,c42⟩ -)
  refine Z7 ?_
  exact anCov hR7 (an7_23 g42 c42) rfl cv Lh
  refine ZA J ?_ ?_
  refine oAlloc J ZP (fun b9=>?_)
  refine Z7 ?_
  exact anCov hR7 (an7_24 b9) rfl cv Lh
  exact ZB
 have an7_17:∀ (b9:Nat),R7 8 #[tT,fF,fF,tT,fF,fF,fF,fF,fF,tT,fF] [(38,.pointer (some ⟨b2,0,none⟩)),(41,.slice F8 p.fFuns.length e8),(9,.pointer (some ⟨b9,0,none⟩)),(2,.pointer (some ⟨b2,0,none⟩)),(4,.pointer (some ⟨b4,0,none⟩)),(5,.slice A8 p.fFuns.length c8),(6,.slice F8 p.fFuns.length e8)] [blk b9 49 [.int .i64 0,.int .i64 0,.string ByteArray.empty,.int .i64 0,.slice none 0 0,.int .i64 0,.bool false,.int .i64 0,.int .i64 0,.slice none 0 0,.slice none 0 0,.slice none 0 0,.slice none 0 0],blk b2 29 (pcL p A0 c0 A1 c1),blk b4 32 [.int .i64 0,.int .i64 0,.int .i64 0]]:=by
  intro b9
  refine anPut hR7 (ZM (i:=1) (rs:=[2]) ZK ?_)
  refine ZA J ?_ ?_
  refine Zld ?_
  refine Z7 ?_
  exact anCov hR7 (an7_22 b9) rfl cv Lh
  refine ZA J ?_ ?_
  refine Zo J (Z7 ?_)
  exact anCov hR7 (an7_24 b9) rfl cv Lh
  exact ZB
 have an7_14:∀ (b9:Nat),R7 8 #[tT,tT,fF,fF,fF,fF,fF,fF,fF,tT,fF] [(38,.pointer (some ⟨b2,0,none⟩)),(39,.slice A0 p.fFuns.length c0),(9,.pointer (some ⟨b9,0,none⟩)),(2,.pointer (some ⟨b2,0,none⟩)),(4,.pointer (some ⟨b4,0,none⟩)),(5,.slice A8 p.fFuns.length c8),(6,.slice F8 p.fFuns.length e8)] [blk b9 49 [.int .i64 0,.int .i64 0,.string ByteArray.empty,.int .i64 0,.slice none 0 0,.int .i64 0,.bool false,.int .i64 0,.int .i64 0,.slice none 0 0,.slice none 0 0,.slice none 0 0,.slice none 0 0],blk b2 29 (pcL p A0 c0 A1 c1),blk b4 32 [.int .i64 0,.int .i64 0,.int .i64 0]]:=by
  intro b9
  refine anPut hR7 (ZM (i:=2) (rs:=[3]) ZK ?_)
  refine ZA J ?_ ?_
  refine Zo J (Z7 ?_)
  exact anCov hR7 (an7_21 b9) rfl cv Lh
  refine ZA J ?_ ?_
  refine Zo J (Z7 ?_)
  exact anCov hR7 (an7_22 b9) rfl cv Lh
  exact ZB
 have an7_12:R7 8 #[tT,tT,tT,fF,fF,fF,fF,fF,fF,fF,fF] [(38,.pointer (some ⟨b2,0,none⟩)),(39,.slice A0 p.fFuns.length c0),(40,.slice A8 p.fFuns.length c8),(2,.pointer (some ⟨b2,0,none⟩)),(4,.pointer (some ⟨b4,0,none⟩)),(5,.slice A8 p.fFuns.length c8),(6,.slice F8 p.fFuns.length e8)] [blk b2 29 (pcL p A0 c0 A1 c1),blk b4 32 [.int .i64 0,.int .i64 0,.int .i64 0]]:=by
  refine anPut hR7 (ZM (i:=3) (rs:=[9]) ZK ?_)
  refine ZA J ?_ ?_
  refine Zo J (Z7 ?_)
  exact anCov hR7 (an7_20 ) rfl cv Lh
  refine ZA J ?_ ?_
  refine oAlloc J ZP (fun b9=>?_)
  refine Z7 ?_
  exact anCov hR7 (an7_21 b9) rfl cv Lh
  exact ZB
 have an7_13:R7 8 #[tT,tT,fF,tT,fF,fF,fF,fF,fF,fF,fF] [(38,.pointer (some ⟨b2,0,none⟩)),(39,.slice A0 p.fFuns.length c0),(41,.slice F8 p.fFuns.length e8),(2,.pointer (some ⟨b2,0,none⟩)),(4,.pointer (some ⟨b4,0,none⟩)),(5,.slice A8 p.fFuns.length c8),(6,.slice F8 p.fFuns.length e8)] [blk b2 29 (pcL p A0 c0 A1 c1),blk b4 32 [.int .i64 0,.int .i64 0,.int .i64 0]]:=by
  refine anPut hR7 (ZM (i:=2) (rs:=[9]) ZK ?_)
  refine ZA J ?_ ?_
  refine Zo J (Z7 ?_)
  exact anCov hR7 (an7_20 ) rfl cv Lh
  refine ZA J ?_ ?_
  refine oAlloc J ZP (fun b9=>?_)
  refine Z7 ?_
  exact anCov hR7 (an7_22 b9) rfl cv Lh
  exact ZB
 have an7_16:∀ (b9:Nat),R7 8 #[tT,fF,tT,fF,fF,fF,fF,fF,fF,tT,fF] [(38,.pointer (some ⟨b2,0,none⟩)),(40,.slice A8 p.fFuns.length c8),(9,.pointer (some ⟨b9,0,none⟩)),(2,.pointer (some ⟨b2,0,none⟩)),(4,.pointer (some ⟨b4,0,none⟩)),(5,.slice A8 p.fFuns.length c8),(6,.slice F8 p.fFuns.length e8)] [blk b9 49 [.int .i64 0,.int .i64 0,.string ByteArray.empty,.int .i64 0,.slice none 0 0,.int .i64 0,.bool false,.int .i64 0,.int .i64 0,.slice none 0 0,.slice none 0 0,.slice none 0 0,.slice none 0 0],blk b2 29 (pcL p A0 c0 A1 c1),blk b4 32 [.int .i64 0,.int .i64 0,.int .i64 0]]:=by
  intro b9
  refine anPut hR7 (ZM (i:=1) (rs:=[3]) ZK ?_)
  refine ZA J ?_ ?_
  refine Zld ?_
  refine Z7 ?_
  exact anCov hR7 (an7_21 b9) rfl cv Lh
  refine ZA J ?_ ?_
  refine Zo J (Z7 ?_)
  exact anCov hR7 (an7_24 b9) rfl cv Lh
  exact ZB
 have an7_9:R7 9 #[fF,fF,tT,tT,fF,fF,fF,fF,fF,fF,fF] [(40,.slice A8 p.fFuns.length c8),(41,.slice F8 p.fFuns.length e8),(2,.pointer (some ⟨b2,0,none⟩)),(4,.pointer (some ⟨b4,0,none⟩)),(5,.slice A8 p.fFuns.length c8),(6,.slice F8 p.fFuns.length e8)] [blk b2 29 (pcL p A0 c0 A1 c1),blk b4 32 [.int .i64 0,.int .i64 0,.int .i64 0]]:=by
  refine anPut hR7 (ZM (i:=0) (rs:=[4,9]) ZK ?_)
  refine ZA J ?_ ?_
  refine Zz (n:=0) (m:=0) J J J (Z7 ?_)
  exact anCov hR7 (an7_15 ) rfl cv Lh
  refine ZA J ?_ ?_
  (refine ZC0 rfl ZK (fun w hS=>frame hS ZQ (fun B' hB hS'=>onRRh hS' hsm free A8 c8 (Kd.C_grow hB hG) F8 e8 (Kd.C_grow hB hM) hne44 B.e)) ?_;rintro ⟨g42,c42⟩ -)
  refine Z7 ?_
  exact anCov hR7 (an7_18 g42 c42) rfl cv Lh
  refine ZA J ?_ ?_
  refine oAlloc J ZP (fun b9=>?_)
  refine Z7 ?_
  exact anCov hR7 (an7_19 b9) rfl cv Lh
  exact ZB
 have an7_11:∀ (b9:Nat),R7 9 #[fF,fF,fF,tT,fF,fF,fF,fF,fF,tT,fF] [(41,.slice F8 p.fFuns.length e8),(9,.pointer (some ⟨b9,0,none⟩)),(2,.pointer (some ⟨b2,0,none⟩)),(4,.pointer (some ⟨b4,0,none⟩)),(5,.slice A8 p.fFuns.length c8),(6,.slice F8 p.fFuns.length e8)] [blk b9 49 [.int .i64 0,.int .i64 0,.string ByteArray.empty,.int .i64 0,.slice none 0 0,.int .i64 0,.bool false,.int .i64 0,.int .i64 0,.slice none 0 0,.slice none 0 0,.slice none 0 0,.slice none 0 0],blk b2 29 (pcL p A0 c0 A1 c1),blk b4 32 [.int .i64 0,.int .i64 0,.int .i64 0]]:=by
  intro b9
  refine anPut hR7 (ZM (i:=0) (rs:=[2]) ZK ?_)
  refine ZA J ?_ ?_
  refine Zz (n:=0) (m:=0) J J J (Z7 ?_)
  exact anCov hR7 (an7_17 b9) rfl cv Lh
  refine ZA J ?_ ?_
  refine Zo J (Z7 ?_)
  exact anCov hR7 (an7_19 b9) rfl cv Lh
  exact ZB
 have an7_10:∀ (b9:Nat),R7 9 #[fF,fF,tT,fF,fF,fF,fF,fF,fF,tT,fF] [(40,.slice A8 p.fFuns.length c8),(9,.pointer (some ⟨b9,0,none⟩)),(2,.pointer (some ⟨b2,0,none⟩)),(4,.pointer (some ⟨b4,0,none⟩)),(5,.slice A8 p.fFuns.length c8),(6,.slice F8 p.fFuns.length e8)] [blk b9 49 [.int .i64 0,.int .i64 0,.string ByteArray.empty,.int .i64 0,.slice none 0 0,.int .i64 0,.bool false,.int .i64 0,.int .i64 0,.slice none 0 0,.slice none 0 0,.slice none 0 0,.slice none 0 0],blk b2 29 (pcL p A0 c0 A1 c1),blk b4 32 [.int .i64 0,.int .i64 0,.int .i64 0]]:=by
  intro b9
  refine anPut hR7 (ZM (i:=0) (rs:=[3]) ZK ?_)
  refine ZA J ?_ ?_
  refine Zz (n:=0) (m:=0) J J J (Z7 ?_)
  exact anCov hR7 (an7_16 b9) rfl cv Lh
  refine ZA J ?_ ?_
  refine Zo J (Z7 ?_)
  exact anCov hR7 (an7_19 b9) rfl cv Lh
  exact ZB
 have an7_7:R7 9 #[tT,fF,fF,tT,fF,fF,fF,fF,fF,fF,fF] [(38,.pointer (some ⟨b2,0,none⟩)),(41,.slice F8 p.fFuns.length e8),(2,.pointer (some ⟨b2,0,none⟩)),(4,.pointer (some ⟨b4,0,none⟩)),(5,.slice A8 p.fFuns.length c8),(6,.slice F8 p.fFuns.length e8)] [blk b2 29 (pcL p A0 c0 A1 c1),blk b4 32 [.int .i64 0,.int .i64 0,.int .i64 0]]:=by
  refine anPut hR7 (ZM (i:=1) (rs:=[2,9]) ZK ?_)
  refine ZA J ?_ ?_
  refine Zld ?_
  refine Z7 ?_
  exact anCov hR7 (an7_13 ) rfl cv Lh
  refine ZA J ?_ ?_
  refine Zo J (Z7 ?_)
  exact anCov hR7 (an7_15 ) rfl cv Lh
  refine ZA J ?_ ?_
  refine oAlloc J ZP (fun b9=>?_)
  refine Z7 ?_
  exact anCov hR7 (an7_17 b9) rfl cv Lh
  exact ZB
 have an7_6:R7 9 #[tT,fF,tT,fF,fF,fF,fF,fF,fF,fF,fF] [(38,.pointer (some ⟨b2,0,none⟩)),(40,.slice A8 p.fFuns.length c8),(2,.pointer (some ⟨b2,0,none⟩)),(4,.pointer (some ⟨b4,0,none⟩)),(5,.slice A8 p.fFuns.length c8),(6,.slice F8 p.fFuns.length e8)] [blk b2 29 (pcL p A0 c0 A1 c1),blk b4 32 [.int .i64 0,.int .i64 0,.int .i64 0]]:=by
  refine anPut hR7 (ZM (i:=1) (rs:=[3,9]) ZK ?_)
  refine ZA J ?_ ?_
  refine Zld ?_
  refine Z7 ?_
  exact anCov hR7 (an7_12 ) rfl cv Lh
  refine ZA J ?_ ?_
  refine Zo J (Z7 ?_)
  exact anCov hR7 (an7_15 ) rfl cv Lh
  refine ZA J ?_ ?_
  refine oAlloc J ZP (fun b9=>?_)
  refine Z7 ?_
  exact anCov hR7 (an7_16 b9) rfl cv Lh
  exact ZB
 have an7_5:R7 9 #[tT,tT,fF,fF,fF,fF,fF,fF,fF,fF,fF] [(38,.pointer (some ⟨b2,0,none⟩)),(39,.slice A0 p.fFuns.length c0),(2,.pointer (some ⟨b2,0,none⟩)),(4,.pointer (some ⟨b4,0,none⟩)),(5,.slice A8 p.fFuns.length c8),(6,.slice F8 p.fFuns.length e8)] [blk b2 29 (pcL p A0 c0 A1 c1),blk b4 32 [.int .i64 0,.int .i64 0,.int .i64 0]]:=by
  refine anPut hR7 (ZM (i:=2) (rs:=[3,9]) ZK ?_)
  refine ZA J ?_ ?_
  refine Zo J (Z7 ?_)
  exact anCov hR7 (an7_12 ) rfl cv Lh
  refine ZA J ?_ ?_
  refine Zo J (Z7 ?_)
  exact anCov hR7 (an7_13 ) rfl cv Lh
  refine ZA J ?_ ?_
  refine oAlloc J ZP (fun b9=>?_)
  refine Z7 ?_
  exact anCov hR7 (an7_14 b9) rfl cv Lh
  exact ZB
 have an7_8:∀ (b9:Nat),R7 9 #[tT,fF,fF,fF,fF,fF,fF,fF,fF,tT,fF] [(38,.pointer (some ⟨b2,0,none⟩)),(9,.pointer (some ⟨b9,0,none⟩)),(2,.pointer (some ⟨b2,0,none⟩)),(4,.pointer (some ⟨b4,0,none⟩)),(5,.slice A8 p.fFuns.length c8),(6,.slice F8 p.fFuns.length e8)] [blk b9 49 [.int .i64 0,.int .i64 0,.string ByteArray.empty,.int .i64 0,.slice none 0 0,.int .i64 0,.bool false,.int .i64 0,.int .i64 0,.slice none 0 0,.slice none 0 0,.slice none 0 0,.slice none 0 0],blk b2 29 (pcL p A0 c0 A1 c1),blk b4 32 [.int .i64 0,.int .i64 0,.int .i64 0]]:=by
  intro b9
  refine anPut hR7 (ZM (i:=1) (rs:=[2,3]) ZK ?_)
  refine ZA J ?_ ?_
  refine Zld ?_
  refine Z7 ?_
  exact anCov hR7 (an7_14 b9) rfl cv Lh
  refine ZA J ?_ ?_
  refine Zo J (Z7 ?_)
  exact anCov hR7 (an7_16 b9) rfl cv Lh
  refine ZA J ?_ ?_
  refine Zo J (Z7 ?_)
  exact anCov hR7 (an7_17 b9) rfl cv Lh
  exact ZB
 have an7_4:∀ (b9:Nat),R7 10 #[fF,fF,fF,fF,fF,fF,fF,fF,fF,tT,fF] [(9,.pointer (some ⟨b9,0,none⟩)),(2,.pointer (some ⟨b2,0,none⟩)),(4,.pointer (some ⟨b4,0,none⟩)),(5,.slice A8 p.fFuns.length c8),(6,.slice F8 p.fFuns.length e8)] [blk b9 49 [.int .i64 0,.int .i64 0,.string ByteArray.empty,.int .i64 0,.slice none 0 0,.int .i64 0,.bool false,.int .i64 0,.int .i64 0,.slice none 0 0,.slice none 0 0,.slice none 0 0,.slice none 0 0],blk b2 29 (pcL p A0 c0 A1 c1),blk b4 32 [.int .i64 0,.int .i64 0,.int .i64 0]]:=by
  intro b9
  refine anPut hR7 (ZM (i:=0) (rs:=[2,3]) ZK ?_)
  refine ZA J ?_ ?_
  refine Zz (n:=0) (m:=0) J J J (Z7 ?_)
  exact anCov hR7 (an7_8 b9) rfl cv Lh
  refine ZA J ?_ ?_
  refine Zo J (Z7 ?_)
  exact anCov hR7 (an7_10 b9) rfl cv Lh
  refine ZA J ?_ ?_
  refine Zo J (Z7 ?_)
  exact anCov hR7 (an7_11 b9) rfl cv Lh
  exact ZB
 have an7_2:R7 10 #[fF,fF,tT,fF,fF,fF,fF,fF,fF,fF,fF] [(40,.slice A8 p.fFuns.length c8),(2,.pointer (some ⟨b2,0,none⟩)),(4,.pointer (some ⟨b4,0,none⟩)),(5,.slice A8 p.fFuns.length c8),(6,.slice F8 p.fFuns.length e8)] [blk b2 29 (pcL p A0 c0 A1 c1),blk b4 32 [.int .i64 0,.int .i64 0,.int .i64 0]]:=by
  refine anPut hR7 (ZM (i:=0) (rs:=[3,9]) ZK ?_)
  refine ZA J ?_ ?_
  refine Zz (n:=0) (m:=0) J J J (Z7 ?_)
  exact anCov hR7 (an7_6 ) rfl cv Lh
  refine ZA J ?_ ?_
  refine Zo J (Z7 ?_)
  exact anCov hR7 (an7_9 ) rfl cv Lh
  refine ZA J ?_ ?_
  refine oAlloc J ZP (fun b9=>?_)
  refine Z7 ?_
  exact anCov hR7 (an7_10 b9) rfl cv Lh
  exact ZB
 have an7_3:R7 10 #[fF,fF,fF,tT,fF,fF,fF,fF,fF,fF,fF] [(41,.slice F8 p.fFuns.length e8),(2,.pointer (some ⟨b2,0,none⟩)),(4,.pointer (some ⟨b4,0,none⟩)),(5,.slice A8 p.fFuns.length c8),(6,.slice F8 p.fFuns.length e8)] [blk b2 29 (pcL p A0 c0 A1 c1),blk b4 32 [.int .i64 0,.int .i64 0,.int .i64 0]]:=by
  refine anPut hR7 (ZM (i:=0) (rs:=[2,9]) ZK ?_)
  refine ZA J ?_ ?_
  refine Zz (n:=0) (m:=0) J J J (Z7 ?_)
  exact anCov hR7 (an7_7 ) rfl cv Lh
  refine ZA J ?_ ?_
  refine Zo J (Z7 ?_)
  exact anCov hR7 (an7_9 ) rfl cv Lh
  refine ZA J ?_ ?_
  refine oAlloc J ZP (fun b9=>?_)
  refine Z7 ?_
  exact anCov hR7 (an7_11 b9) rfl cv Lh
  exact ZB
 have an7_1:R7 10 #[tT,fF,fF,fF,fF,fF,fF,fF,fF,fF,fF] [(38,.pointer (some ⟨b2,0,none⟩)),(2,.pointer (some ⟨b2,0,none⟩)),(4,.pointer (some ⟨b4,0,none⟩)),(5,.slice A8 p.fFuns.length c8),(6,.slice F8 p.fFuns.length e8)] [blk b2 29 (pcL p A0 c0 A1 c1),blk b4 32 [.int .i64 0,.int .i64 0,.int .i64 0]]:=by
  refine anPut hR7 (ZM (i:=1) (rs:=[2,3,9]) ZK ?_)
  refine ZA J ?_ ?_
  refine Zld ?_
  refine Z7 ?_
  exact anCov hR7 (an7_5 ) rfl cv Lh
  refine ZA J ?_ ?_
  refine Zo J (Z7 ?_)
  exact anCov hR7 (an7_6 ) rfl cv Lh
  refine ZA J ?_ ?_
  refine Zo J (Z7 ?_)
  exact anCov hR7 (an7_7 ) rfl cv Lh
  refine ZA J ?_ ?_
  refine oAlloc J ZP (fun b9=>?_)
  refine Z7 ?_
  exact anCov hR7 (an7_8 b9) rfl cv Lh
  exact ZB
 refine anPut hR7 (ZM (i:=0) (rs:=[2,3,9]) ZK ?_)
 refine ZA J ?_ ?_
 refine Zz (n:=0) (m:=0) J J J (Z7 ?_)
 exact anCov hR7 (an7_1 ) rfl cv Lh
 refine ZA J ?_ ?_
 refine Zo J (Z7 ?_)
 exact anCov hR7 (an7_2 ) rfl cv Lh
 refine ZA J ?_ ?_
 refine Zo J (Z7 ?_)
 exact anCov hR7 (an7_3 ) rfl cv Lh
 refine ZA J ?_ ?_
 refine oAlloc J ZP (fun b9=>?_)
 refine Z7 ?_
 exact anCov hR7 (an7_4 b9) rfl cv Lh
 exact ZB
 have hok:okN p free=true:=by first | exact decide_eq_true (Classical.not_not.1 h37) | simpa using h37
 have hdl:(dN p free).length=p.fFuns.length:=dN_len hok
 obtain ⟨d0e,hd0e⟩:∃ d,(dN p free)[e0]?=some d:=⟨_,List.getElem?_eq_getElem ZO⟩
 have hin:=dN_in p free e0
 rw [getD_at hd0e] at hin
 obtain ⟨e1,cs1,hE0⟩:=hD.elm hd0e
 obtain rfl:=(show cs1=[Value.int .i64 d0e] from hE0.K)
 have hdf:deepF p free p.fEntry=decide (56<1+d0e):=by rw [he0];exact deepF_at hd0e
 refine Zj (Za (Zh (Zh (Zi (Zo J (Zz (n:=2) (m:=2) J J J (Zld ?_)))))))
 refine ZS0 (t:=54) (v':=.int .i64 (e0:Int)) rfl (by rw [he0]) ?_
 refine oIdxE J J (hE0) ZO J J ?_
 have hc55:=(hE0).cell
 refine Zlx hc55 ?_
 first | refine oAdd rfl rfl ZO ?_ | refine oAddW rfl rfl ?_
 refine Z1 J J (Zn (Za (wC (fun h58=>?_) (fun h58=>?_))))
 refine Zh (Zi (oBuild (Parts.cons J (Parts.cons J (Parts.cons J Parts.nil))) J J (Built.cons (off:=0) (s:=1) J ZP J ZP (Built.cons (off:=1) (s:=1) J ZP J ZP (Built.cons (off:=2) (s:=1) J ZP J ZP Built.nil))) ?_))
 refine Zsa ?_
 refine Zn (Za (Zl (Zc (Zw (ZI ?_)))))
 exact ⟨(),trivial,by rw [chk_ent he1 he2 hok (by rw [hdf,decide_eq_true_eq];first | exact h58 | omega)];rfl,Lh⟩
 have hd:deepF p free p.fEntry=false:=by rw [hdf,decide_eq_false_iff_not];first | exact h58 | omega
 refine Zj (Zzl ?_)
 (refine ZC0 rfl ZK (fun w hS=>frame hS ZQ (fun B' hB hS'=>ref26_Called hS' p _ (gPg hB hp) hsm B.e)) ?_;rintro ⟨C8,d8⟩ -)
 refine Zp J (Zn (Za (wFreeze [row Kd.bool B.e 4 (.slice C8 p.fFuns.length d8) (calledL p)] ZQ (fun B2 hB2 hq2=>?_))))
 have hCl:=row_Cs (W:=B.e) (e:=4) (n:=p.fFuns.length) (cp:=d8) (xs:=calledL p) (hq2 _ _ ZP)
 have hG:=Kd.C_grow hB2 hG
 have hM:=Kd.C_grow hB2 hM
 have hD:=Kd.C_grow hB2 hD
 have g0:=Kd.C_grow hB2 g0
 refine Zh (Zh (Zi (Zp J (Zn (Za (Zk (wLoop (ι:=Nat) (fun i=>[(2,.pointer (some ⟨b2,0,none⟩)),(4,.pointer (some ⟨b4,0,none⟩)),(5,.slice A8 p.fFuns.length c8),(6,.slice F8 p.fFuns.length e8),(7,.slice A9 (dN p free).length c9),(10,.slice C8 p.fFuns.length d8),(11,.int .i64 (i:Int))]) (fun i=>[blk b2 29 (pcL p A0 c0 A1 c1),blk b4 32 [.int .i64 0,.int .i64 0,.int .i64 0]]) (fun i=>i≤p.fFuns.length∧∀ j,j<i→badF p free j=false) (fun i=>p.fFuns.length-i) 0 ?_ cv Lh ?_)))))))
 exact ⟨Nat.zero_le _,fun j hj=>by omega⟩
 rintro i ⟨hi,hs⟩
 try dsimp only
 refine Zh (Zh (Zi (Zo J (Zz (n:=0) (m:=0) J J J (Zld ?_)))))
 refine Zv J J (Zx J J (Zn (Za (wC (fun h66=>?_) (fun h66=>?_)))))
 obtain ⟨l,hl⟩:∃ l,(graphF p)[i]?=some l:=⟨_,List.getElem?_eq_getElem ZO⟩
 obtain ⟨e2,cs2,hEg⟩:=hG.elm hl
 obtain ⟨Al,cl,rfl,hll,hCr⟩:=hEg.K
 have hlb:=hCr.1
 obtain ⟨uc,huc⟩:∃ u,(calledL p)[i]?=some u:=⟨_,List.getElem?_eq_getElem ZO⟩
 obtain ⟨e3,cs3,hEc⟩:=hCl.elm huc
 obtain rfl:=(show cs3=[Value.bool uc] from hEc.K)
 obtain ⟨um,hum⟩:∃ u,(memF p free)[i]?=some u:=⟨_,List.getElem?_eq_getElem ZO⟩
 obtain ⟨e4,cs4,hEm⟩:=hM.elm hum
 obtain rfl:=(show cs4=[Value.bool um] from hEm.K)
 obtain ⟨f,hf⟩:∃ f,p.fFuns[i]?=some f:=⟨_,List.getElem?_eq_getElem ZO⟩
 obtain ⟨e1,cs1,hE⟩:=g0.elm hf
 have hEK:=hE.K
 obtain ⟨D0,d0,D1,d1,D2,d2,D3,d3,D4,d4,rfl,m0,q0,m1,q1,m2,q2,m3,q3,m4,q4⟩:=kApiFun_open hE.K
 refine Zj (Za (Zh (Zk (Zh (Zi (Zp J (Zn (Za (Zk (wLoop (ι:=Nat) (fun j=>[(2,.pointer (some ⟨b2,0,none⟩)),(4,.pointer (some ⟨b4,0,none⟩)),(5,.slice A8 p.fFuns.length c8),(6,.slice F8 p.fFuns.length e8),(7,.slice A9 (dN p free).length c9),(10,.slice C8 p.fFuns.length d8),(11,.int .i64 (i:Int)),(12,.int .i64 (j:Int))]) (fun j=>[blk b2 29 (pcL p A0 c0 A1 c1),blk b4 32 [.int .i64 0,.int .i64 0,.int .i64 0]]) (fun j=>j≤l.length∧∀ y ∈ l.take j,bdY p free i y=false) (fun j=>l.length-j) 0 ?_ cv Lh ?_))))))))))
 exact ⟨Nat.zero_le _,by simp⟩
 rintro j ⟨hj,hsj⟩
 try dsimp only
 refine Zh (Zh (Zi (Zo J (Zo J (Zo J (oIdxE J J (hEg) ZO J J ?_))))))
 have hc72:=(hEg).cell
 refine Zlx hc72 ?_
 refine Zv J J (Zx J J (Zn (Za (wC (fun h75=>?_) (fun h75=>?_)))))
 obtain ⟨y,hy⟩:∃ y,l[j]?=some y:=⟨_,List.getElem?_eq_getElem ZO⟩
 obtain ⟨e5,cs5,hEy⟩:=hCr.elm hy
 obtain rfl:=(show cs5=[Value.int .i64 y] from hEy.K)
 obtain ⟨yc,rfl,hyl⟩:=eg_in (p:=p) (i:=i) ZO (x:=y) (by rw [getD_at hl];exact List.mem_of_getElem? hy)
 obtain ⟨dy,hdy⟩:∃ d,(dN p free)[yc]?=some d:=⟨_,List.getElem?_eq_getElem ZO⟩
 have hiny:=dN_in p free yc
 rw [getD_at hdy] at hiny
 obtain ⟨e6,cs6,hEd⟩:=hD.elm hdy
 obtain rfl:=(show cs6=[Value.int .i64 dy] from hEd.K)
 have hdfy:=deepF_at hdy
 refine Zj (Za (Zh (Zk (Zh (Zi (Zo J (Zo J (oIdxE J J (hEc) ZO J J ?_))))))))
 have hc80:=(hEc).cell
 refine Zlx hc80 ?_
 refine Zo J (ZS (ZT 82) (fun h82=>?_) (fun h82=>?_))
 refine Zq J J (Zo J (Zq J J (Zo J (Zq J J (oIdxE J J (hEm) ZO J J ?_)))))
 have hc85:=(hEm).cell
 refine Zq J J (Zlx hc85 ?_)
 refine Zq J J (Zno ?_)
 refine Zt J J (Zo J (ZS (ZT 89) (fun h89=>?_) (fun h89=>?_)))
 refine Zq J J (Zo J (Zq J J (Zo J (Zq J J (Zo J (Zq J J (oIdxE J J (hEg) ZO J J ?_)))))))
 have hc93:=(hEg).cell
 refine Zq J J (Zlx hc93 ?_)
 refine Zq J J (Zo J (Zq J J (oIdxE J J (hEy) ZO J J ?_)))
 have hc96:=(hEy).cell
 refine Zq J J (Zlx hc96 ?_)
 refine Zq J J (oIdxE J J (hEd) ZO J J ?_)
 have hc98:=(hEd).cell
 refine Zq J J (Zlx hc98 ?_)
 refine Zq J J ?_
 first | refine oAdd rfl rfl ZO ?_ | refine oAddW rfl rfl ?_
 refine Zq J J (Z1 J J (Zt J J (Zn (Za (wC (fun h102=>?_) (fun h102=>?_))))))
 refine Zh (wDrawG J [0,1,2,3,4,5,6,7,8,9,10,11,12] [] [13] 24 ZK J J (fun w0=>?_))
 refine Zz (n:=0) (m:=0) J J J (Zld ?_)
 refine Zo J (oIdxE J J (hE) ZO J J ?_)
 have hc106:=(hE).cell
 refine ZF (ZT 0) (ZT 0) ?_
 refine Zlx hc106 ?_
 refine Zz (n:=0) (m:=0) J J J (Zld ?_)
 refine Zo J (oIdxE J J (hE) ZO J J ?_)
 have hc112:=(hE).cell
 refine ZF (ZT 1) (ZT 1) ?_
 refine Zlx hc112 ?_
 refine oBuild (Parts.cons J (Parts.cons J (Parts.cons J Parts.nil))) J J (Built.cons (off:=0) (s:=1) J ZP J ZP (Built.cons (off:=1) (s:=1) J ZP J ZP (Built.cons (off:=2) (s:=1) J ZP J ZP Built.nil))) ?_
 refine Z6 (Zsa ?_)
 refine Zn (Za (Zl (Zf (Zc (Zc (Zf (Zf (Zc (Zc (Zf (Zc (Zw (ZI ?_)))))))))))))
 exact ⟨(),trivial,by rw [chk_bad he1 he2 hok hd (bad_4 hl (by rw [huc];congr 1) (by rw [hum];congr 1;simpa using h89) (List.mem_of_getElem? hy) (by rw [hdfy,decide_eq_true_eq];first | exact h102 | omega)) hs hf];rfl,Lh⟩
 have hby:bdY p free i (yc:Int)=false:=by unfold bdY;rw [hdfy,decide_eq_false (by first | exact h102 | omega)];simp
 refine Zj (Zzd ?_)
 refine Zp J (Zn (Za ?_))
 exact ⟨rfl,j+1,⟨by omega,take_not hsj hy hby⟩,by omega,cv,Lh⟩
 have hby:bdY p free i (yc:Int)=false:=by unfold bdY;rw [getD_at hum,show um=true by simpa using h89];simp
 refine Zr J J J J (Zr J J J J (Zr J J J J (Zr J J J J (Zr J J J J (Zr J J J J (Zr J J J J (Zr J J J J (Zr J J J J (Zr J J J J (Zr J J J J (Zr J J J J (Zu J J (Zn (Za (wCondF J (Zj (Zzd ?_)))))))))))))))))
 refine Zp J (Zn (Za ?_))
 exact ⟨rfl,j+1,⟨by omega,take_not hsj hy hby⟩,by omega,cv,Lh⟩
 have hby:bdY p free i (yc:Int)=false:=by unfold bdY;rw [getD_at huc,show uc=false from h82];simp
 refine Zr J J J J (Zr J J J J (Zr J J J J (Zr J J J J (Zr J J J J (Zu J J (Zo J (Zr J J J J (Zr J J J J (Zr J J J J (Zr J J J J (Zr J J J J (Zr J J J J (Zr J J J J (Zr J J J J (Zr J J J J (Zr J J J J (Zr J J J J (Zr J J J J (Zu J J (Zn (Za (wCondF J (Zj (Zzd ?_))))))))))))))))))))))))
 refine Zp J (Zn (Za ?_))
 exact ⟨rfl,j+1,⟨by omega,take_not hsj hy hby⟩,by omega,cv,Lh⟩
 obtain rfl:j=l.length:=by omega
 rw [List.take_length] at hsj
 have hbf:badF p free i=false:=bad_5 hl hsj
 refine Zm (Zb (Zb (Ze (Zzd ?_))))
 refine Zp J (Zn (Za ?_))
 exact ⟨rfl,i+1,⟨by omega,fun j hj=>by rcases Nat.lt_succ_iff_lt_or_eq.1 hj with h | rfl;exact hs j h;exact hbf⟩,by omega,cv,Lh⟩
 obtain rfl:i=p.fFuns.length:=by omega
 refine Zm (Zb (Zb (Ze (Za (Zh (Zi (oBuild Parts.nil J J Built.nil (Zsa ?_))))))))
 refine Zn (Za (Zl (Zw (ZI ?_))))
 exact ⟨(),trivial,by rw [chk_fine he1 he2 hok hd hs];rfl,Lh⟩
theorem two_frm:frmL twoP=[2,10,70,1]:=by decide
theorem two_nos:nosL twoP=[false,true,false,false]:=by decide
theorem two_mem (free:List Bool):memF twoP free=[free.getD 0 false,free.getD 1 false,free.getD 2 false,false]:=by
 unfold memF
 rw [two_called]
 show (List.range 4).map _=_
 rw [show List.range 4=[0,1,2,3] by decide]
 simp
theorem two_dN (free:List Bool):dN twoP free=DLo [[1,2],[],[],[]] [free.getD 0 false,free.getD 1 false,free.getD 2 false,false] [2,10,70,1] 1 1:=by
 unfold dN;rw [two_graph,two_mem,two_frm]
theorem two_okN (free:List Bool):okN twoP free=okO [[1,2],[],[],[]] [free.getD 0 false,free.getD 1 false,free.getD 2 false,false]:=by
 unfold okN;rw [two_graph,two_mem]
theorem ok_fff:okN twoP [false,true,false,false]=true:=by rw [two_okN];decide
theorem dN_fff:dN twoP [false,true,false,false]=[1,10,1,1]:=by rw [two_dN];decide
theorem ok_ttf:okN twoP [true,true,false,false]=true:=by rw [two_okN];decide
theorem dN_ttf:dN twoP [true,true,false,false]=[13,10,1,1]:=by rw [two_dN];decide
theorem ok_ttt:okN twoP [true,true,true,false]=true:=by rw [two_okN];decide
theorem dN_ttt:dN twoP [true,true,true,false]=[73,10,70,1]:=by rw [two_dN];decide
theorem find_none {P:Nat→Bool}{n:Nat}(h:∀ i,i<n→P i=false):(List.range n).find? P=none:=List.find?_eq_none.2 (fun i hi=>by rw [h i (List.mem_range.1 hi)];simp)
theorem chk_two {free:List Bool}{D:List Int}(h1:okN twoP free=true) (h2:dN twoP free=D) (h3:D.getD 0 0≤55) (h4:free.getD 0 false=true∨(D.getD 1 0≤55∧D.getD 2 0≤55)):checkN twoP free=(0,0,0):=by
  unfold checkN
  rw [if_pos (by decide),if_pos h1,if_neg (by unfold deepF;rw [h2];simp only [decide_eq_true_eq];show ¬ 56<1+D.getD (Int.toNat 0) 0;rw [Int.toNat_zero];omega)]
  rw [find_none (P:=badF twoP free) (n:=twoP.fFuns.length) (fun i hi=>?_)]
  unfold badF deepF
  rw [two_graph,two_mem,two_called,h2]
  match i,hi with
  | 0,_=>
    rcases h4 with h4 | h4
    · rw [h4];rfl
    · cases free.getD 0 false
      · show ([1,2].any fun x=>decide (56<1+D.getD (Int.toNat x) 0))=false
        rw [List.any_eq_false]
        intro x hx
        rcases List.mem_cons.1 hx with rfl | hx
        · show ¬ decide (56<1+D.getD 1 0)=true;rw [decide_eq_true_eq];omega
        · obtain rfl:=List.mem_singleton.1 hx
          show ¬ decide (56<1+D.getD 2 0)=true;rw [decide_eq_true_eq];omega
      · rfl
  | 1,_=>simp
  | 2,_=>simp
  | 3,_=>simp
theorem chk_fff:checkN twoP [false,true,false,false]=(0,0,0):=chk_two ok_fff dN_fff (by decide) (.inr (by decide))
theorem chk_ttf:checkN twoP [true,true,false,false]=(0,0,0):=chk_two ok_ttf dN_ttf (by decide) (.inl rfl)
theorem chk_deep {free:List Bool}{D:List Int}(h1:okN twoP free=true) (h2:dN twoP free=D) (h3:56≤D.getD 0 0):checkN twoP free=(18,-1,-1):=by
 unfold checkN
 rw [if_pos (by decide),if_pos h1,if_pos (by unfold deepF;rw [h2];simp only [decide_eq_true_eq];show 56<1+D.getD (Int.toNat 0) 0;rw [Int.toNat_zero];omega)]
theorem chk_ttt:checkN twoP [true,true,true,false]=(18,-1,-1):=chk_deep ok_ttt dN_ttt (by decide)
theorem two_cand:candF twoP 0=true∧candF twoP 1=false∧candF twoP 2=true∧candF twoP 3=false:=by
 unfold candF;rw [two_called];decide
theorem two_wait:waitTo twoP 4=[(0,2),(2,70)]:=by
 obtain ⟨h0,h1,h2,h3⟩:=two_cand
 simp only [waitTo,h0,h1,h2,h3,if_true,if_false]
 decide
theorem two_ord:ordN twoP=[0,2]:=by
 unfold ordN
 rw [show twoP.fFuns.length=4 from rfl,two_wait];rfl
theorem two_ch:chN twoP=([true,true,false,false],1):=by
 have f0:fineB twoP [false,true,false,false]=true:=by unfold fineB;rw [chk_fff];rfl
 have f1:fineB twoP [true,true,false,false]=true:=by unfold fineB;rw [chk_ttf];rfl
 have f2:fineB twoP [true,true,true,false]=false:=by unfold fineB;rw [chk_ttt];rfl
 unfold chN
 rw [two_nos,if_pos f0,two_ord]
 unfold chTo
 rw [two_ord,two_nos]
 show chStep twoP (chStep twoP ([false,true,false,false],0) 0) 2=_
 rw [show chStep twoP ([false,true,false,false],0) 0=([true,true,false,false],1) by unfold chStep;exact if_pos f1]
 unfold chStep
 exact if_neg (by show ¬ fineB twoP [true,true,true,false]=true;rw [f2];simp)
theorem two_keep:keptL twoP.fFuns.length (liveL twoP)=[true,true,true,false]:=by rw [two_live];decide
theorem two_chk:chkL twoP (chN twoP).1=[0,0,3,1]:=by rw [two_ch];decide
open Go.Proofs.YtogaiijhicfoaaaGreatQ (qins lt2 qins_perm qins_sorted lt2_tr Pile queueR QOk qhas hd1 hd2 hd3 queue_New queue_Put queue_Take ptrV)
theorem hd_none {W:List (Int×Int)}{k:Nat}(h:hd3 (W.drop k)=false):W.length≤k:=by
 rcases Nat.lt_or_ge k W.length with hk | hk
 · rw [← List.getElem_cons_drop (h:=hk)] at h;cases h
 · exact hk
theorem hd_some {W:List (Int×Int)}{k:Nat}(h:hd3 (W.drop k)=true):k<W.length∧(W.map (·.1)).take k++[hd1 (W.drop k)]=(W.map (·.1)).take (k+1):=by
 have hk:k<W.length:=by
  rcases Nat.lt_or_ge k W.length with hk | hk
  · exact hk
  · rw [List.drop_of_length_le hk] at h;cases h
 refine ⟨hk,?_⟩
 rw [← List.getElem_cons_drop (h:=hk),List.take_add_one,List.getElem?_map,List.getElem?_eq_getElem hk]
 rfl
theorem elide_drain {B:Base}{w:World}{q pp:Nat}{s:Pile}{W:List (Int×Int)}(hS:St B (queueR q pp s) w) (hq:QOk s W) (hl:W.length≤1000) (W0:World) :
 CW 113 #[.func (.func 114) #[ptrV q] #[]] w (Ret B (fun _:(Option Addr×Nat)×Pile=>True) (fun z=>.slice z.1.1 W.length z.1.2) (fun z=>row (Kd.int .i64) W0 3 (.slice z.1.1 W.length z.1.2) (W.map (·.1)) :: queueR q pp z.2)):=by
 refine ZX Tryz.func113 hS ?_
 refine Zh (Zi (Zp J (Zn (Za (Zh (Zi (Zp J (Zn (Za (Zh (Zh (Zi (Zo J ?_)))))))))))))
 (refine oCallV rfl rfl rfl ZK (fun w hS=>frame hS ZQ (fun B' hB hS'=>queue_Take (p:=pp) (s:=s) hS' hq)) ?_;rintro s1 hq1)
 refine Zo J (oExt J ZP ?_)
 refine oExt J ZP ?_
 refine oExt J ZP ?_
 refine Zp J (Zp J (Zp J (Zn (Za (Zk (wLoop (ι:=Nat×(Option Addr×Nat)×Pile) (fun z=>[(0,.func (.func 114) #[ptrV q] #[]),(3,.slice z.2.1.1 z.1 z.2.1.2),(4,.int .i64 (hd1 (W.drop z.1))),(6,.bool (hd3 (W.drop z.1)))]) (fun z=>row (Kd.int .i64) W0 3 (.slice z.2.1.1 z.1 z.2.1.2) ((W.map (·.1)).take z.1) :: queueR q pp z.2.2) (fun z=>z.1≤W.length∧QOk z.2.2 (W.drop (z.1+1))) (fun z=>W.length-z.1) (0,(none,0),s1) ?_ cv (Leads.nilrow.trans Lh) ?_))))))
 exact ⟨Nat.zero_le _,by show QOk s1 (W.drop 1);rw [List.drop_one];exact hq1⟩
 rintro ⟨k,⟨A3,c3⟩,s2⟩ ⟨hk,hq2⟩
 dsimp only at hk hq2
 have hxl:((W.map (·.1)).take k).length=k:=by rw [List.length_take,List.length_map];omega
 try dsimp only
 refine Zh (Zh (Zi (Zo J (Zn (Za (wC (fun h13=>?_) (fun h13=>?_)))))))
 obtain ⟨hkl,htk⟩:=hd_some h13
 refine Zj (Za (Zh (Zk (Zi (Zo J (Zo J (oBuildSlice1 J J J J J ZP J (fun b22=>?_))))))))
 refine oApp1 (hd1 (W.drop k)) J J J J ZP ZP J ZO J (fun g23 cp23=>?_)
 rw [htk,hxl]
 refine Zp J (Zn (Zd (Za (Zi (Zo J ?_)))))
 (refine oCallV rfl rfl rfl ZK (fun w hS=>frame hS ZQ (fun B' hB hS'=>queue_Take (p:=pp) (s:=s2) hS' hq2)) ?_;rintro s3 hq3)
 refine Zo J (oExt J ZP ?_)
 refine oExt J ZP ?_
 refine oExt J ZP ?_
 refine Zp J (Zp J (Zn (Za ?_)))
 exact ⟨rfl,(k+1,(some ⟨g23,0,none⟩,cp23),s3),⟨by show k+1≤_;omega,by show QOk s3 (W.drop (k+1+1));rw [← List.tail_drop];exact hq3⟩,by show W.length-(k+1)<W.length-k;omega,cv,Lh⟩
 obtain rfl:k=W.length:=by have:=hd_none h13;omega
 rw [show (W.map (·.1)).take W.length=W.map (·.1) from List.take_of_length_le (by simp)]
 refine Zm (Zzf ?_)
 exact ⟨((A3,c3),s2),trivial,rfl,Lh⟩
theorem cand_at {p:ApiProgram}{i:Nat}{uc:Bool}{f:ApiFun}(h1:(calledL p)[i]?=some uc) (h2:p.fFuns[i]?=some f):candF p i=(uc && !f.fF.fNosplit):=by
 unfold candF
 rw [getD_at h1,List.getD_eq_getElem?_getD,h2];rfl
theorem frm_f {p:ApiProgram}{i:Nat}{f:ApiFun}(h:p.fFuns[i]?=some f):frmF p i=frameN f.fF:=by unfold frmF;rw [List.getD_eq_getElem?_getD,h];rfl
theorem wait_T {p:ApiProgram}{i:Nat}(h:candF p i=true):waitTo p (i+1)=qins ((i:Int),frmF p i) (waitTo p i):=by show (if candF p i=true then _ else _)=_;rw [if_pos h]
theorem wait_F {p:ApiProgram}{i:Nat}(h:candF p i=false):waitTo p (i+1)=waitTo p i:=by show (if candF p i=true then _ else _)=_;rw [if_neg (by rw [h];simp)]
theorem elide_Order {B:Base}{w:World}(hS:St B [] w) (p:ApiProgram) (pc:List Value) (hp:kApiProgram.K B.e p pc) (hsm:SmallP p) (W0:World) :
 CW 51 #[.agg pc.toArray] w (Ret B (fun _:Option Addr×Nat=>True) (fun z=>.slice z.1 (ordN p).length z.2) (fun z=>[row (Kd.int .i64) W0 3 (.slice z.1 (ordN p).length z.2) (ordN p)])):=by
 obtain ⟨A0,c0,A1,c1,rfl,l0,g0,l1,g1⟩:=kApiProgram_open hp
 have hn:=hsm.funs
 have hcl:=calledL_len p
 refine ZX Tryz.func51 hS ?_
 refine Zh (Zi (oBox J ZP (fun b1=>?_)))
 refine Zp J (Zn (Za (Zh (Zi ?_))))
 (refine ZC0 rfl ZK (fun w hS=>frame hS ZQ (fun B' hB hS'=>queue_New hS')) ?_;rintro ⟨q,pp,s0⟩ hq0)
 dsimp only at hq0
 refine Zp J (Zn (Za (Zh (Zh (Zi (Zla ?_))))))
 (refine ZC0 rfl ZK (fun w hS=>frame hS ZQ (fun B' hB hS'=>prog_Called hS' p _ (gPg hB hp) hsm B.e)) ?_;rintro ⟨C8,d8⟩ -)
 refine Zv J J (Zo J (Zn (Za (wFreeze [row Kd.bool B.e 4 (.slice C8 p.fFuns.length d8) (calledL p)] ZQ (fun B1 hB1 hq1=>?_)))))
 have hCl:=row_Cs (W:=B.e) (e:=4) (n:=p.fFuns.length) (cp:=d8) (xs:=calledL p) (hq1 _ _ ZP)
 have g0:=Kd.C_grow hB1 g0
 refine Zk (wLoop (ι:=Nat×Pile) (fun z=>[(1,.pointer (some ⟨b1,0,none⟩)),(3,ptrV q),(8,.slice C8 p.fFuns.length d8),(9,.int .i64 (p.fFuns.length:Int)),(10,.int .i64 (z.1:Int))]) (fun z=>blk b1 29 (pcL p A0 c0 A1 c1) :: queueR q pp z.2) (fun z=>z.1≤p.fFuns.length∧QOk z.2 (waitTo p z.1)) (fun z=>p.fFuns.length-z.1) (0,s0) ?_ cv Lh ?_)
 exact ⟨Nat.zero_le _,hq0⟩
 rintro ⟨i,s1⟩ ⟨hi,hqi⟩
 dsimp only at hi hqi
 try dsimp only
 refine Zh (Zi (Zx J J (Zn (Za (Zh (wC (fun h11=>?_) (fun h11=>?_)))))))
 obtain ⟨f,hf⟩:∃ f,p.fFuns[i]?=some f:=⟨_,List.getElem?_eq_getElem ZO⟩
 obtain ⟨e1,cs1,hE⟩:=g0.elm hf
 obtain ⟨D0,d0,D1,d1,D2,d2,D3,d3,D4,d4,rfl,m0,q0,m1,q1,m2,q2,m3,q3,m4,q4⟩:=kApiFun_open hE.K
 obtain ⟨uc,huc⟩:∃ u,(calledL p)[i]?=some u:=⟨_,List.getElem?_eq_getElem ZO⟩
 obtain ⟨e3,cs3,hEc⟩:=hCl.elm huc
 obtain rfl:=(show cs3=[Value.bool uc] from hEc.K)
 refine Zj (Za (Zh (Zk (Zh (Zi (Zo J (oIdxE J J (hEc) ZO J J ?_)))))))
 have hc13:=(hEc).cell
 refine Zlx hc13 ?_
 refine Zp J (Zp J (Zn (Za (Zh (Zi (Zo J (Zo J (ZS (ZT 16) (fun h16=>?_) (fun h16=>?_)))))))))
 refine Zq J J (Zz (n:=0) (m:=0) J J J (Zzg ?_))
 refine Zq J J (Zo J (Zq J J (oIdxE J J (hE) ZO J J ?_)))
 have hc20:=(hE).cell
 refine Zq J J (ZF (ZT 3) (ZT 3) ?_)
 refine Zq J J (ZF (ZT 3) (ZT 6) ?_)
 refine Zq J J (Zlx hc20 ?_)
 refine Zq J J (Zno ?_)
 refine Zt J J (Zn (Za (wC (fun h25=>?_) (fun h25=>?_))))
 refine Zi (Zo J (Zo J (Zz (n:=0) (m:=0) J J J (Zld ?_))))
 refine Zo J (oIdxE J J (hE) ZO J J ?_)
 have hc31:=(hE).cell
 refine ZF (ZT 3) (ZT 3) ?_
 refine Zlx hc31 ?_
 (refine ZC0 rfl ZK (fun w hS=>frame hS ZQ (fun B' hB hS'=>fun_Frame hS' f.fF _ (kApiFunc_mk _ f.fF m0 (Kd.C_grow hB q0) m1 (Kd.C_grow hB q1) m2 (Kd.C_grow hB q2) m3 (Kd.C_grow hB q3)) (by have:=(hsm.fn f (List.mem_of_getElem? hf)).2.2.1;omega))) ?_;rintro ⟨⟩ -)
 (refine ZC0 rfl ZK (fun w hS=>frame hS ZQ (fun B' hB hS'=>queue_Put (p:=pp) (s:=s1) hS' hqi _ _ (by have:=wait_len p i;omega))) ?_;rintro s2 hq2)
 rw [wait_new,if_neg (by simp)] at hq2
 refine Zn (Zzi ?_)
 refine Zo J (Zn (Za ?_))
 exact ⟨rfl,(i+1,s2),⟨by show i+1≤_;omega,by show QOk s2 (waitTo p (i+1));rw [wait_T (by rw [cand_at huc hf,show uc=true from h16,Bool.true_and];simpa using h25),frm_f hf];exact hq2⟩,by show p.fFuns.length-(i+1)<p.fFuns.length-i;omega,cv,Lh⟩
 refine Zj (Zzi ?_)
 refine Zo J (Zn (Za ?_))
 exact ⟨rfl,(i+1,s1),⟨by show i+1≤_;omega,by show QOk s1 (waitTo p (i+1));rw [wait_F (by rw [cand_at huc hf,show uc=true from h16,Bool.true_and];simpa using h25)];exact hqi⟩,by show p.fFuns.length-(i+1)<p.fFuns.length-i;omega,cv,Lh⟩
 refine Zr J J J J (Zr J J J J (Zr J J J J (Zr J J J J (Zr J J J J (Zr J J J J (Zr J J J J (Zr J J J J (Zu J J (Zn (Za (wCondF J (Zj (Zzi ?_)))))))))))))
 refine Zo J (Zn (Za ?_))
 exact ⟨rfl,(i+1,s1),⟨by show i+1≤_;omega,by show QOk s1 (waitTo p (i+1));rw [wait_F (by rw [cand_at huc hf,show uc=false from h16];rfl)];exact hqi⟩,by show p.fFuns.length-(i+1)<p.fFuns.length-i;omega,cv,Lh⟩
 obtain rfl:i=p.fFuns.length:=by omega
 refine Zm (Zb (Zb (Ze (Za (Zh (Zi (Zo J (oMakeFuncB J J ?_))))))))
 (refine ZC0 rfl ZK (fun w hS=>frame hS ZQ (fun B' hB hS'=>elide_drain hS' hqi (by have:=wait_len p p.fFuns.length;omega) W0)) ?_;rintro ⟨⟨A39,c39⟩,s9⟩ -)
 have hol:(ordN p).length=(waitTo p p.fFuns.length).length:=by unfold ordN;rw [List.length_map]
 refine Zp J (Zzx ?_)
 exact ⟨(A39,c39),trivial,by rw [hol];rfl,by rw [hol];exact (Leads.has ZQ)⟩
theorem chain_CheckN {B:Base}{w:World}(hS:St B [] w) (p:ApiProgram) (pc:List Value) (hp:kApiProgram.K B.e p pc) (hsm:SmallP p) (free:List Bool) (A':Option Addr) (c':Nat) (hF:Kd.bool.C B.e A' free) {n:Nat}(hn:free.length=n) :
 CW 44 #[.agg pc.toArray,.slice A' n c'] w (Ret B (fun _:Unit=>True) (fun _=>.agg (rejL (checkN p free)).toArray) (fun _=>[])):=by subst hn;exact chain_Check hS p pc hp hsm free A' c' hF
theorem ref27_CheckN {B:Base}{w:World}(hS:St B [] w) (p:ApiProgram) (pc:List Value) (hp:kApiProgram.K B.e p pc) (hsm:SmallP p) (free:List Bool) (A':Option Addr) (c':Nat) (hF:Kd.bool.C B.e A' free) {n:Nat}(hn:free.length=n) :
 CW 45 #[.agg pc.toArray,.slice A' n c'] w (Ret B (fun _:Unit=>True) (fun _=>.agg (rejL (checkN p free)).toArray) (fun _=>[])):=by subst hn;exact ref27_Check hS p pc hp hsm free A' c' hF
theorem elide_fine {B:Base}{w:World}(hS:St B [] w) (p:ApiProgram) (pc:List Value) (hp:kApiProgram.K B.e p pc) (hsm:SmallP p) (free:List Bool) (A':Option Addr) (c':Nat) (hF:Kd.bool.C B.e A' free) {n:Nat}(hn:free.length=n) :
 CW 170 #[.agg pc.toArray,.slice A' n c'] w (Ret B (fun _:Unit=>True) (fun _=>.bool (fineB p free)) (fun _=>[])):=by
 obtain ⟨A0,c0,A1,c1,rfl,l0,g0,l1,g1⟩:=kApiProgram_open hp
 refine ZX Tryz.func170 hS ?_
 refine Zh (Zi (oBox J ZP (fun b2=>?_)))
 refine Zp J (Zn (Zzl ?_))
 refine Zo J ?_
 (refine ZC0 rfl ZK (fun w hS=>frame hS ZQ (fun B' hB hS'=>chain_CheckN hS' p _ (gPg hB hp) hsm free A' c' (Kd.C_grow hB hF) hn)) ?_;rintro ⟨⟩ -)
 refine Zfi ?_
 refine Zy J J (Zza ?_)
 exact ⟨(),trivial,rfl,Lh⟩
theorem ch_1 {p:ApiProgram}{i k:Nat}(h:(ordN p)[i]?=some (k:Int)):((chTo p i).1.set k true).set k (fineB p ((chTo p i).1.set k true))=(chTo p (i+1)).1:=by
 rw [ch_succ h,List.set_set]
 unfold chStep
 rw [Int.toNat_natCast]
 cases hf:fineB p ((chTo p i).1.set k true) with
 | true=>rw [if_pos rfl]
 | false=>rw [if_neg (by simp)]
theorem ch_2T {p:ApiProgram}{i k:Nat}(h:(ordN p)[i]?=some (k:Int)) (hf:fineB p ((chTo p i).1.set k true)=true):(chTo p (i+1)).2=(chTo p i).2+1:=by
 rw [ch_succ h]
 unfold chStep
 rw [Int.toNat_natCast,if_pos hf]
theorem ch_2F {p:ApiProgram}{i k:Nat}(h:(ordN p)[i]?=some (k:Int)) (hf:fineB p ((chTo p i).1.set k true)=false):(chTo p (i+1)).2=(chTo p i).2:=by
 rw [ch_succ h]
 unfold chStep
 rw [Int.toNat_natCast,if_neg (by rw [hf];simp)]
theorem ch_at {p:ApiProgram}{i k:Nat}(hk:k<p.fFuns.length) (h:(ordN p)[i]?=some (k:Int)):(chTo p (i+1)).1[k]?=some (fineB p ((chTo p i).1.set k true)):=by
 rw [← ch_1 h,List.getElem?_set,if_pos rfl,if_pos (by rw [List.length_set,ch_len];exact hk)]
theorem chN_yes {p:ApiProgram}(h:fineB p (nosL p)=true):chN p=chTo p (ordN p).length:=by unfold chN;rw [if_pos h]
theorem chN_no {p:ApiProgram}(h:fineB p (nosL p)=false):chN p=(nosL p,0):=by unfold chN;rw [if_neg (by rw [h];simp)]
theorem elide_choose {B:Base}{w:World}(hS:St B [] w) (p:ApiProgram) (pc:List Value) (hp:kApiProgram.K B.e p pc) (hsm:SmallP p) (W0:World) :
 CW 116 #[.agg pc.toArray] w (Ret B (fun _:Option Addr×Nat=>True) (fun z=>.tuple #[.slice z.1 p.fFuns.length z.2,.int .i64 (chN p).2]) (fun z=>[row Kd.bool W0 4 (.slice z.1 p.fFuns.length z.2) (chN p).1])):=by
 obtain ⟨A0,c0,A1,c1,rfl,l0,g0,l1,g1⟩:=kApiProgram_open hp
 have hn:=hsm.funs
 have hnl:=nosL_len p
 have hol:=ord_len p
 refine ZX Tryz.func116 hS ?_
 refine Zh (Zi (oBox J ZP (fun b1=>?_)))
 refine Zp J (Zp J (Zn (Zzl ?_)))
 (refine ZC0 rfl ZK (fun w hS=>frame hS ZQ (fun B' hB hS'=>chain_Nosplit hS' p _ (gPg hB hp) hsm W0)) ?_;rintro ⟨A9,c9⟩ -)
 refine Zp J (Zn (Za (Zh (Zh (Zi (Zla ?_))))))
 refine Zo J ?_
 (refine ZD J (fun w B' hB hR hS'=>elide_fine hS' p _ (gPg hB hp) hsm (nosL p) A9 c9 (row_Cs (W:=W0) (e:=4) (A:=A9) (n:=p.fFuns.length) (cp:=c9) (xs:=nosL p) (hR _ _ ZP)) hnl) ?_;rintro ⟨⟩ -)
 refine Zno ?_
 refine Zn (Za (wC (fun h13=>?_) (fun h13=>?_)))
 refine Zh (Zi (Zo J (Zzp ?_)))
 refine ⟨rfl,_,(ResL.cons (ResR.tmp rfl) (ResL.cons (ResR.tmp rfl) ResL.nil)),?_⟩
 exact ⟨(A9,c9),trivial,by rw [chN_no (by first | simpa using h13 | (have:=h13;unfold fineB;first | exact decide_eq_false this | simpa using this))];rfl,by rw [chN_no (by first | simpa using h13 | (have:=h13;unfold fineB;first | exact decide_eq_false this | simpa using this))];exact (Leads.has ZQ)⟩
 have hfn:fineB p (nosL p)=true:=by first | simpa using h13 | (have:=h13;unfold fineB;first | exact decide_eq_true (Classical.not_not.1 this) | simpa using this)
 refine Zj (Za (Zh (Zi (Zp J (Zn (Za (Zh (Zh (Zi (Zla ?_))))))))))
 (refine ZC0 rfl ZK (fun w hS=>frame hS ZQ (fun B' hB hS'=>elide_Order hS' p _ (gPg hB hp) hsm W0)) ?_;rintro ⟨A16,c16⟩ -)
 refine Zv J J (Zo J (Zn (Za (Zk ?_))))
 refine wLoop (ι:=Nat×Option Addr) (fun z=>[(1,.pointer (some ⟨b1,0,none⟩)),(4,.slice z.2 p.fFuns.length c9),(5,.int .i64 (chTo p z.1).2),(16,.slice A16 (ordN p).length c16),(17,.int .i64 ((ordN p).length:Int)),(18,.int .i64 (z.1:Int))]) (fun z=>[blk b1 29 (pcL p A0 c0 A1 c1),row Kd.bool W0 4 (.slice z.2 p.fFuns.length c9) (chTo p z.1).1,row (Kd.int .i64) W0 3 (.slice A16 (ordN p).length c16) (ordN p)]) (fun z=>z.1≤(ordN p).length) (fun z=>(ordN p).length-z.1) (0,A9) ?_ cv (by dsimp only;rw [ch_zero];exact (Leads.has ZQ)) ?_
 exact Nat.zero_le _
 rintro ⟨i,A4⟩ hi
 dsimp only at hi
 have hcc:=ch_cnt p i
 have hcl:=ch_len p i
 try dsimp only
 refine Zh (Zi (Zx J J (Zn (Za (Zh (wC (fun h19=>?_) (fun h19=>?_)))))))
 obtain ⟨x,hx⟩:∃ x,(ordN p)[i]?=some x:=⟨_,List.getElem?_eq_getElem ZO⟩
 obtain ⟨k,rfl,hkl,hkc⟩:=ord_mem.1 (List.mem_of_getElem? hx)
 refine Zj (Za (Zh (Zk (Zh (Zi (ZR J J ZP ZO J J (fun g20 hg20=>?_)))))))
 first | subst hg20 | (injection hg20 with hg20;injection hg20 with hg20;subst hg20)
 refine ZR1 J ZP ZO J (fun u21 hu21=>?_)
 obtain rfl:u21=(k:Int):=Option.some.inj (hu21.symm.trans hx)
 refine Zp J (Zn (Za (Zh (Zi (Zo J (Zo J (ZR J J ZP ZO J J (fun g24 hg24=>?_))))))))
 first | subst hg24 | (injection hg24 with hg24;injection hg24 with hg24;subst hg24)
 refine oStR _ J J J J ZP (by first | omega | (simp only [List.length_set];omega)) ?_
 refine Zn (Za (Zh (Zi (Zo J (Zo J (Zla ?_))))))
 refine Zo J ?_
 (refine ZD J (fun w B' hB hR hS'=>elide_fine hS' p _ (gPg hB hp) hsm ((chTo p i).1.set k true) _ c9 (row_Cs (W:=W0) (e:=4) (A:=_) (n:=p.fFuns.length) (cp:=c9) (xs:=(chTo p i).1.set k true) (hR _ _ ZP)) (by rw [List.length_set];exact hcl)) ?_;rintro ⟨⟩ -)
 refine ZR J J ZP ZO J J (fun g30 hg30=>?_)
 first | subst hg30 | (injection hg30 with hg30;injection hg30 with hg30;subst hg30)
 refine oStR _ J J J J ZP (by first | omega | (simp only [List.length_set];omega)) ?_
 refine Zn (Zzo ?_)
 rw [ch_1 hx]
 have hcl2:=ch_len p (i+1)
 refine Zo J (ZR J J ZP ZO J J (fun g33 hg33=>?_))
 first | subst hg33 | (injection hg33 with hg33;injection hg33 with hg33;subst hg33)
 refine ZR1 J ZP ZO J (fun u34 hu34=>?_)
 obtain rfl:u34=fineB p ((chTo p i).1.set k true):=Option.some.inj (hu34.symm.trans (ch_at hkl hx))
 refine Zn (Za (wC (fun h34=>?_) (fun h34=>?_)))
 have hff:fineB p ((chTo p i).1.set k true)=true:=by first | exact h34 | (unfold fineB;exact decide_eq_true h34)
 refine Zi (Zo J ?_)
 first | refine oAdd rfl rfl ZO ?_ | refine oAddW rfl rfl ?_
 refine Zp J (Zn (Zzi ?_))
 refine Zo J (Zn (Za ?_))
 exact ⟨rfl,(i+1,_),by show i+1≤_;omega,by show (ordN p).length-(i+1)<(ordN p).length-i;omega,by dsimp only;rw [ch_2T hx hff];exact cv,Lh⟩
 have hff:fineB p ((chTo p i).1.set k true)=false:=by first | exact h34 | (unfold fineB;exact decide_eq_false h34)
 refine Zj (Zzi ?_)
 refine Zo J (Zn (Za ?_))
 exact ⟨rfl,(i+1,_),by show i+1≤_;omega,by show (ordN p).length-(i+1)<(ordN p).length-i;omega,by dsimp only;rw [ch_2F hx hff];exact cv,Lh⟩
 obtain rfl:i=(ordN p).length:=by omega
 refine Zm (Zb (Zb (Ze (Za (Zh (Zi (Zo J (Zo J (Zp J (Zp J (Zn (Za (Zl (Zw ?_))))))))))))))
 refine ⟨rfl,_,(ResL.cons (ResR.tmp rfl) (ResL.cons (ResR.tmp rfl) ResL.nil)),?_⟩
 exact ⟨(A4,c9),trivial,by rw [chN_yes hfn];rfl,by rw [chN_yes hfn];exact (Leads.has ZQ)⟩
theorem elide_Free {B:Base}{w:World}(hS:St B [] w) (p:ApiProgram) (pc:List Value) (hp:kApiProgram.K B.e p pc) (hsm:SmallP p) (W0:World) :
 CW 53 #[.agg pc.toArray] w (Ret B (fun _:Option Addr×Nat=>True) (fun z=>.slice z.1 p.fFuns.length z.2) (fun z=>[row Kd.bool W0 4 (.slice z.1 p.fFuns.length z.2) (chN p).1])):=by
 obtain ⟨A0,c0,A1,c1,rfl,l0,g0,l1,g1⟩:=kApiProgram_open hp
 refine ZX Tryz.func53 hS ?_
 refine Zh (Zi (oBox J ZP (fun b1=>?_)))
 refine Zp J (Zn (Zzl ?_))
 (refine ZC0 rfl ZK (fun w hS=>frame hS ZQ (fun B' hB hS'=>elide_choose hS' p _ (gPg hB hp) hsm W0)) ?_;rintro ⟨A7,c7⟩ -)
 refine Zo J (oExt J ZP ?_)
 refine oExt J ZP ?_
 refine Zp J (Zp J (Zn (Za (Zh (Zi (Zo J (Zza ?_)))))))
 exact ⟨(A7,c7),trivial,rfl,Lh⟩
theorem elide_Saved {B:Base}{w:World}(hS:St B [] w) (p:ApiProgram) (pc:List Value) (hp:kApiProgram.K B.e p pc) (hsm:SmallP p) (W0:World) :
 CW 58 #[.agg pc.toArray] w (Ret B (fun _:Unit=>True) (fun _=>.int .i64 (chN p).2) (fun _=>[])):=by
 obtain ⟨A0,c0,A1,c1,rfl,l0,g0,l1,g1⟩:=kApiProgram_open hp
 refine ZX Tryz.func58 hS ?_
 refine Zh (Zi (oBox J ZP (fun b1=>?_)))
 refine Zp J (Zn (Zzl ?_))
 (refine ZC0 rfl ZK (fun w hS=>frame hS ZQ (fun B' hB hS'=>elide_choose hS' p _ (gPg hB hp) hsm W0)) ?_;rintro ⟨A7,c7⟩ -)
 refine Zo J (oExt J ZP ?_)
 refine oExt J ZP ?_
 refine Zp J (Zp J (Zn (Za (Zh (Zi (Zo J (Zza ?_)))))))
 exact ⟨(),trivial,rfl,Lh⟩
theorem kept_len {n:Nat}{kept:List Bool} : (keptL n kept).length=n:=by unfold keptL;simp
theorem chk_len {p:ApiProgram}{free:List Bool} : (chkL p free).length=p.fFuns.length:=by unfold chkL;simp
theorem range_take {α:Type}(F:Nat→α) {n i:Nat}(h:i<n):((List.range n).map F).take i++[F i]=((List.range n).map F).take (i+1):=by
 rw [List.take_add_one,List.getElem?_map,List.getElem?_range h];rfl
theorem kept_succ {n i:Nat}{kept:List Bool}(h:i<n):(keptL n kept).take i++[kept.getD i false]=(keptL n kept).take (i+1):=range_take (fun i=>kept.getD i false) h
theorem chk_T {p:ApiProgram}{free:List Bool}{i:Nat}(h:i<p.fFuns.length) (hf:free.getD i false=true):(chkL p free).take i++[0]=(chkL p free).take (i+1):=by
 have:=range_take (chkF p free) h
 rwa [show chkF p free i=0 by unfold chkF;rw [if_pos hf]] at this
theorem chk_F {p:ApiProgram}{free:List Bool}{i:Nat}{f:ApiFun}(h:i<p.fFuns.length) (hf:free.getD i false=false) (hfn:p.fFuns[i]?=some f):(chkL p free).take i++[leastF (frameN f.fF)]=(chkL p free).take (i+1):=by
 have:=range_take (chkF p free) h
 rwa [show chkF p free i=leastF (frameN f.fF) by unfold chkF;rw [if_neg (by rw [hf];simp),frm_f hfn]] at this
theorem prog_Least {B:Base}{w:World}(hS:St B [] w) (n:Int) :
 CW 171 #[.int .i64 n] w (Ret B (fun _:Unit=>True) (fun _=>.int .i64 (leastF n)) (fun _=>[])):=by
 refine ZX Tryz.func171 hS ?_
 refine Zh (Zi (Zp J (Zn (Za (Zh (Zk (Zh (Zi (Zo J (oLeq J J (Zp J (Zn (Za (wC (fun h3=>?_) (fun h3=>?_)))))))))))))))
 refine Zh (Zi (Zzs ?_))
 exact ⟨(),trivial,by unfold leastF;rw [if_pos (by first | exact h3 | omega)];rfl,Lh⟩
 refine Zh (Zi (Zo J (oLeq J J (Zp J (Zn (Za (wC (fun h6=>?_) (fun h6=>?_))))))))
 refine Zh (Zi (Zzs ?_))
 exact ⟨(),trivial,by unfold leastF;rw [if_neg (by first | exact h3 | omega),if_pos (by first | exact h6 | omega)];rfl,Lh⟩
 refine Zj (Zd (Za (Zh (Zi (Zza ?_)))))
 exact ⟨(),trivial,by unfold leastF;rw [if_neg (by first | exact h3 | omega),if_neg (by first | exact h6 | omega)];rfl,Lh⟩
theorem prog_has {B:Base}{w:World}(hS:St B [] w) (l:List Bool) (A:Option Addr) (n cp:Nat) (hn:l.length=n) (hC:Kd.bool.C B.e A l) (i:Nat) :
 CW 172 #[.slice A n cp,.int .i64 (i:Int)] w (Ret B (fun _:Unit=>True) (fun _=>.bool (l.getD i false)) (fun _=>[])):=by
 subst hn
 refine ZX Tryz.func172 hS ?_
 refine Zh (Zi (Zp J (Zn (Za (Zh (Zi (Zo J (Z2 J J (Zo J (ZS (ZT 7) (fun h7=>?_) (fun h7=>?_)))))))))))
 refine Zq J J (Zo J (Zq J J (Zo J (Zq J J (Zv J J (Zq J J (Zx J J (Zt J J (Zo J (ZS (ZT 13) (fun h13=>?_) (fun h13=>?_)))))))))))
 obtain ⟨u,hu⟩:∃ u,l[i]?=some u:=⟨_,List.getElem?_eq_getElem ZO⟩
 obtain ⟨e1,cs1,hE⟩:=hC.elm hu
 obtain rfl:=(show cs1=[Value.bool u] from hE.K)
 refine Zq J J (Zo J (Zq J J (Zo J (Zq J J (oIdxE J J (hE) ZO J J ?_)))))
 have hc16:=(hE).cell
 refine Zq J J (Zlx hc16 ?_)
 refine Zt J J (Zza ?_)
 exact ⟨(),trivial,by rw [getD_at hu];rfl,Lh⟩
 refine Zr J J J J (Zzq ?_)
 exact ⟨(),trivial,by rw [List.getD_eq_getElem?_getD,List.getElem?_eq_none ZO];rfl,Lh⟩
 omega
theorem prog_Lean {B:Base}{w:World}(hS:St B [] w) (p:ApiProgram) (pc:List Value) (hp:kApiProgram.K B.e p pc) (hsm:SmallP p) (kept:List Bool) (Ak:Option Addr) (nk ck:Nat) (hnk:kept.length=nk) (hK:Kd.bool.C B.e Ak kept) (free:List Bool) (Af:Option Addr) (nf cf:Nat) (hnf:free.length=nf) (hF:Kd.bool.C B.e Af free) (W0:World) :
 CW 117 #[.agg pc.toArray,.slice Ak nk ck,.slice Af nf cf] w (Ret B (fun _:(Option Addr×Nat)×(Option Addr×Nat)=>True) (fun z=>.agg #[.slice z.1.1 p.fFuns.length z.1.2,.slice z.2.1 p.fFuns.length z.2.2]) (fun z=>[row Kd.bool W0 4 (.slice z.1.1 p.fFuns.length z.1.2) (keptL p.fFuns.length kept),row (Kd.int .i64) W0 3 (.slice z.2.1 p.fFuns.length z.2.2) (chkL p free)])):=by
 obtain ⟨A0,c0,A1,c1,rfl,l0,g0,l1,g1⟩:=kApiProgram_open hp
 have hn:=hsm.funs
 refine ZX Tryz.func117 hS ?_
 refine Zh (Zi (oBox J ZP (fun b3=>?_)))
 refine oAlloc J ZP (fun b6=>?_)
 refine Zn (Za (Zh (Zi (oAlloc J ZP (fun b7=>?_)))))
 refine Zn (Za (Zh (Zh (Zi (Zz (n:=0) (m:=0) J J J (Zld ?_))))))
 refine Zv J J (Zo J (Zn (Za (Zk (wLoop (ι:=Nat×(Option Addr×Nat)×(Option Addr×Nat)) (fun z=>[(1,.slice Ak nk ck),(2,.slice Af nf cf),(3,.pointer (some ⟨b3,0,none⟩)),(6,.pointer (some ⟨b6,0,none⟩)),(7,.pointer (some ⟨b7,0,none⟩)),(12,.slice A0 p.fFuns.length c0),(13,.int .i64 (p.fFuns.length:Int)),(14,.int .i64 (z.1:Int))]) (fun z=>[blk b3 29 (pcL p A0 c0 A1 c1),blk b6 71 [.slice none 0 0,.slice none 0 0],blk b7 71 [.slice z.2.1.1 z.1 z.2.1.2,.slice z.2.2.1 z.1 z.2.2.2],row Kd.bool W0 4 (.slice z.2.1.1 z.1 z.2.1.2) ((keptL p.fFuns.length kept).take z.1),row (Kd.int .i64) W0 3 (.slice z.2.2.1 z.1 z.2.2.2) ((chkL p free).take z.1)]) (fun z=>z.1≤p.fFuns.length) (fun z=>p.fFuns.length-z.1) (0,(none,0),(none,0)) ?_ cv (Leads.nilrow.trans (Leads.nilrow.trans Lh)) ?_)))))
 exact Nat.zero_le _
 rintro ⟨i,⟨K1,k1⟩,⟨K2,k2⟩⟩ hi
 dsimp only at hi
 have hl1:((keptL p.fFuns.length kept).take i).length=i:=by rw [List.length_take,kept_len];omega
 have hl2:((chkL p free).take i).length=i:=by rw [List.length_take,chk_len];omega
 try dsimp only
 refine Zh (Zi (Zx J J (Zn (Za (Zh (wC (fun h15=>?_) (fun h15=>?_)))))))
 have hil:i<p.fFuns.length:=by omega
 obtain ⟨f,hf⟩:∃ f,p.fFuns[i]?=some f:=⟨_,List.getElem?_eq_getElem ZO⟩
 obtain ⟨e1,cs1,hE⟩:=g0.elm hf
 obtain ⟨D0,d0,D1,d1,D2,d2,D3,d3,D4,d4,rfl,m0,q0,m1,q1,m2,q2,m3,q3,m4,q4⟩:=kApiFun_open hE.K
 refine Zj (Za (Zh (Zk (Zh (Zi (Zo J (oIdxE J J (hE) ZO J J ?_)))))))
 have hc17:=(hE).cell
 refine Zlx hc17 ?_
 refine oAlloc J ZP (fun b9=>?_)
 refine Zp J (Zsa ?_)
 refine Zn (Za (Zh (Zi (Zz (n:=3) (m:=3) J J J (Zla ?_)))))
 (refine ZC0 rfl ZK (fun w hS=>frame hS ZQ (fun B' hB hS'=>fun_Frame hS' f.fF _ (kApiFunc_mk _ f.fF m0 (Kd.C_grow hB q0) m1 (Kd.C_grow hB q1) m2 (Kd.C_grow hB q2) m3 (Kd.C_grow hB q3)) (by have:=(hsm.fn f (List.mem_of_getElem? hf)).2.2.1;omega))) ?_;rintro ⟨⟩ -)
 (refine ZC0 rfl ZK (fun w hS=>frame hS ZQ (fun B' hB hS'=>prog_Least hS' (frameN f.fF))) ?_;rintro ⟨⟩ -)
 refine Zp J (Zn (Za (Zh (Zzv ?_))))
 (refine ZC0 rfl ZK (fun w hS=>frame hS ZQ (fun B' hB hS'=>prog_has hS' free Af nf cf hnf (Kd.C_grow hB hF) i)) ?_;rintro ⟨⟩ -)
 refine Zn (Za (wC (fun h25=>?_) (fun h25=>?_)))
 refine Zi (Zp J (Zn (Za (Zh (wDrawG J [0,1,2,3] [(4,[0,1],[]),(5,[0,1],[]),(6,[],[])] [7,8] 24 ZK J J (fun w0=>?_))))))
 refine Zz (n:=0) (m:=0) J J J (Zld ?_)
 refine Zo J (Zo J (Z4 (Z5 J ?_)))
 (refine ZC0 rfl ZK (fun w hS=>frame hS ZQ (fun B' hB hS'=>prog_has hS' kept Ak nk ck hnk (Kd.C_grow hB hK) i)) ?_;rintro ⟨⟩ -)
 refine ZG ?_ J (fun w0=>?_)
 refine Z8 J J J J (fun w0=>?_) ?_
 refine Zz (n:=0) (m:=0) J J J ?_
 exact Z9 rfl
 refine Z8 J J J J (fun w0=>?_) ?_
 refine Zld ?_
 exact Z9 rfl
 exact AgainG.nil
 refine Z4 (Z5 J (oBuildSlice1 J J J J J ZP J (fun b31=>?_)))
 refine ZG ?_ J (fun w0=>?_)
 refine Z8 J J J J (fun w0=>?_) ?_
 refine Zz (n:=0) (m:=0) J J J ?_
 exact Z9 rfl
 refine Z8 J J J J (fun w0=>?_) ?_
 refine Zld ?_
 exact Z9 rfl
 exact AgainG.nil
 refine Z4 (Z5 J (oApp1 (kept.getD i false) J J J J ZP ZP J ZO J (fun g32 cp32=>?_)))
 rw [kept_succ hil,hl1]
 refine ZG ?_ J (fun w0=>?_)
 exact AgainG.nil
 refine Z6 (Zz (n:=0) (m:=0) J J J (Zst ?_))
 refine Zn (Za (Zi (Zz (n:=1) (m:=1) J J J (Zld ?_))))
 refine Zo J (oBuildSlice1 J J J J J ZP J (fun b37=>?_))
 refine oApp1 (0:Int) J J J J ZP ZP J ZO J (fun g38 cp38=>?_)
 rw [chk_T hil h25,hl2]
 refine Zz (n:=1) (m:=1) J J J (Zst ?_)
 refine Zn (Zzi ?_)
 refine Zo J (Zn (Za ?_))
 exact ⟨rfl,(i+1,(some ⟨g32,0,none⟩,cp32),(some ⟨g38,0,none⟩,cp38)),by show i+1≤_;omega,by show p.fFuns.length-(i+1)<p.fFuns.length-i;omega,cv,Lh⟩
 refine Zj (Za (Zh (wDrawG J [0,1,2,3] [(4,[0,1],[]),(5,[0,1],[]),(6,[],[])] [7,8] 24 ZK J J (fun w0=>?_))))
 refine Zz (n:=0) (m:=0) J J J (Zld ?_)
 refine Zo J (Zo J (Z4 (Z5 J ?_)))
 (refine ZC0 rfl ZK (fun w hS=>frame hS ZQ (fun B' hB hS'=>prog_has hS' kept Ak nk ck hnk (Kd.C_grow hB hK) i)) ?_;rintro ⟨⟩ -)
 refine ZG ?_ J (fun w0=>?_)
 refine Z8 J J J J (fun w0=>?_) ?_
 refine Zz (n:=0) (m:=0) J J J ?_
 exact Z9 rfl
 refine Z8 J J J J (fun w0=>?_) ?_
 refine Zld ?_
 exact Z9 rfl
 exact AgainG.nil
 refine Z4 (Z5 J (oBuildSlice1 J J J J J ZP J (fun b31=>?_)))
 refine ZG ?_ J (fun w0=>?_)
 refine Z8 J J J J (fun w0=>?_) ?_
 refine Zz (n:=0) (m:=0) J J J ?_
 exact Z9 rfl
 refine Z8 J J J J (fun w0=>?_) ?_
 refine Zld ?_
 exact Z9 rfl
 exact AgainG.nil
 refine Z4 (Z5 J (oApp1 (kept.getD i false) J J J J ZP ZP J ZO J (fun g32 cp32=>?_)))
 rw [kept_succ hil,hl1]
 refine ZG ?_ J (fun w0=>?_)
 exact AgainG.nil
 refine Z6 (Zz (n:=0) (m:=0) J J J (Zst ?_))
 refine Zn (Za (Zi (Zz (n:=1) (m:=1) J J J (Zld ?_))))
 refine Zo J (oBuildSlice1 J J J J J ZP J (fun b37=>?_))
 refine oApp1 (leastF (frameN f.fF)) J J J J ZP ZP J ZO J (fun g38 cp38=>?_)
 rw [chk_F hil h25 hf,hl2]
 refine Zz (n:=1) (m:=1) J J J (Zst ?_)
 refine Zn (Zzi ?_)
 refine Zo J (Zn (Za ?_))
 exact ⟨rfl,(i+1,(some ⟨g32,0,none⟩,cp32),(some ⟨g38,0,none⟩,cp38)),by show i+1≤_;omega,by show p.fFuns.length-(i+1)<p.fFuns.length-i;omega,cv,Lh⟩
 obtain rfl:i=p.fFuns.length:=by omega
 rw [show (keptL p.fFuns.length kept).take p.fFuns.length=keptL p.fFuns.length kept from List.take_of_length_le (by rw [kept_len];exact Nat.le_refl _),show (chkL p free).take p.fFuns.length=chkL p free from List.take_of_length_le (by rw [chk_len];exact Nat.le_refl _)]
 refine Zm (Zb (Zb (Ze (Zzl ?_))))
 refine Zsa ?_
 refine Zn (Za (Zl (Zw (ZI ?_))))
 exact ⟨((K1,k1),(K2,k2)),trivial,rfl,Lh⟩
theorem ref28_Same {B:Base}{w:World}(hS:St B [] w) (k:List Bool) (c:List Int) (A1 A2 A3 A4:Option Addr) (n m c1 c2 c3 c4:Nat) (hk:k.length=n) (hc:c.length=m) (h1:Kd.bool.C B.e A1 k) (h2:(Kd.int .i64).C B.e A2 c) (h3:Kd.bool.C B.e A3 k) (h4:(Kd.int .i64).C B.e A4 c) :
 CW 55 #[.agg #[.slice A1 n c1,.slice A2 m c2],.agg #[.slice A3 n c3,.slice A4 m c4]] w (Ret B (fun _:Unit=>True) (fun _=>.bool true) (fun _=>[])):=by
 subst hk
 subst hc
 have hlk:=h1.1
 have hlc:=h2.1
 refine ZX Tryz.func55 hS ?_
 refine Zh (Zi (oBox J ZP (fun b2=>?_)))
 refine oBox J ZP (fun b3=>?_)
 refine Zp J (Zn (Za (Zh (Zh (Zi (Zz (n:=0) (m:=0) J J J (Zld ?_)))))))
 refine Zv J J (Zz (n:=0) (m:=0) J J J (Zld ?_))
 refine Zv J J (Z0 J J (Zo J (ZS (ZT 14) (fun h14=>?_) (fun h14=>?_))))
 omega
 refine Zq J J (Zz (n:=1) (m:=1) J J J (Zzg ?_))
 refine Zq J J (Zv J J (Zq J J (Zz (n:=1) (m:=1) J J J (Zzg ?_))))
 refine Zq J J (Zv J J (Zq J J (Z0 J J (Zu J J (Zn (Za (wC (fun h22=>?_) (fun h22=>?_))))))))
 omega
 refine Zj (Za (Zh (Zh (Zi (Zp J (Zn (Za (Zk (wLoop (ι:=Nat) (fun i=>[(2,.pointer (some ⟨b2,0,none⟩)),(3,.pointer (some ⟨b3,0,none⟩)),(5,.int .i64 (i:Int))]) (fun i=>[blk b2 71 [.slice A1 k.length c1,.slice A2 c.length c2],blk b3 71 [.slice A3 k.length c3,.slice A4 c.length c4]]) (fun i=>i≤k.length) (fun i=>k.length-i) 0 ?_ cv Lh ?_)))))))))
 exact Nat.zero_le _
 rintro i hi
 try dsimp only
 refine Zh (Zh (Zi (Zo J (Zz (n:=0) (m:=0) J J J (Zld ?_)))))
 refine Zv J J (Zx J J (Zn (Za (wC (fun h27=>?_) (fun h27=>?_)))))
 obtain ⟨x,hx⟩:∃ x,k[i]?=some x:=⟨_,List.getElem?_eq_getElem ZO⟩
 obtain ⟨e1,cs1,hE⟩:=h1.elm hx
 obtain rfl:=(show cs1=[Value.bool x] from hE.K)
 obtain ⟨e2,cs2,hE2⟩:=h3.elm hx
 obtain rfl:=(show cs2=[Value.bool x] from hE2.K)
 refine Zj (Za (Zh (Zk (Zh (wDrawG J [0,1,2,3,4,5,6,7,8,9,10] [] [] 24 ZK J J (fun w0=>?_))))))
 refine Zz (n:=0) (m:=0) J J J (Zld ?_)
 refine Zo J (oIdxE J J (hE) ZO J J ?_)
 have hc33:=(hE).cell
 refine Zlx hc33 ?_
 refine Zz (n:=0) (m:=0) J J J (Zld ?_)
 refine Zo J (oIdxE J J (hE2) ZO J J ?_)
 have hc38:=(hE2).cell
 refine Zlx hc38 ?_
 refine oNeqBool J J J (Z6 (Zn (Za (wC (fun h40=>?_) (fun h40=>?_)))))
 exact absurd rfl h40
 refine Zj (Zzd ?_)
 refine Zp J (Zn (Za ?_))
 exact ⟨rfl,i+1,by omega,by omega,cv,Lh⟩
 refine Zm (Zb (Zb (Ze (Za (Zh (Zh (Zi (Zp J (Zn (Za (Zk (wLoop (ι:=Nat) (fun i=>[(2,.pointer (some ⟨b2,0,none⟩)),(3,.pointer (some ⟨b3,0,none⟩)),(6,.int .i64 (i:Int))]) (fun i=>[blk b2 71 [.slice A1 k.length c1,.slice A2 c.length c2],blk b3 71 [.slice A3 k.length c3,.slice A4 c.length c4]]) (fun i=>i≤c.length) (fun i=>c.length-i) 0 ?_ cv Lh ?_))))))))))))
 exact Nat.zero_le _
 rintro i hi
 try dsimp only
 refine Zh (Zh (Zi (Zo J (Zz (n:=1) (m:=1) J J J (Zld ?_)))))
 refine Zv J J (Zx J J (Zn (Za (wC (fun h45=>?_) (fun h45=>?_)))))
 obtain ⟨x,hx⟩:∃ x,c[i]?=some x:=⟨_,List.getElem?_eq_getElem ZO⟩
 obtain ⟨e1,cs1,hE⟩:=h2.elm hx
 obtain rfl:=(show cs1=[Value.int .i64 x] from hE.K)
 obtain ⟨e2,cs2,hE2⟩:=h4.elm hx
 obtain rfl:=(show cs2=[Value.int .i64 x] from hE2.K)
 refine Zj (Za (Zh (Zk (Zh (wDrawG J [0,1,2,3,4,5,6,7,8,9,10] [] [] 24 ZK J J (fun w0=>?_))))))
 refine Zz (n:=1) (m:=1) J J J (Zld ?_)
 refine Zo J (oIdxE J J (hE) ZO J J ?_)
 have hc51:=(hE).cell
 refine Zlx hc51 ?_
 refine Zz (n:=1) (m:=1) J J J (Zld ?_)
 refine Zo J (oIdxE J J (hE2) ZO J J ?_)
 have hc56:=(hE2).cell
 refine Zlx hc56 ?_
 refine Z0 J J (Z6 (Zn (Za (wC (fun h58=>?_) (fun h58=>?_)))))
 exact absurd rfl h58
 refine Zj (Zzd ?_)
 refine Zp J (Zn (Za ?_))
 exact ⟨rfl,i+1,by omega,by omega,cv,Lh⟩
 refine Zm (Zzj ?_)
 exact ⟨(),trivial,rfl,Lh⟩
theorem elide_Plan {B:Base}{w:World}(hS:St B [] w) (p:ApiProgram) (pc:List Value) (hp:kApiProgram.K B.e p pc) (hsm:SmallP p) (W0:World) :
 CW 56 #[.agg pc.toArray] w (Ret B (fun _:(Option Addr×Nat)×(Option Addr×Nat)=>True) (fun z=>.agg #[.slice z.1.1 p.fFuns.length z.1.2,.slice z.2.1 p.fFuns.length z.2.2]) (fun z=>[row Kd.bool W0 4 (.slice z.1.1 p.fFuns.length z.1.2) (keptL p.fFuns.length (liveL p)),row (Kd.int .i64) W0 3 (.slice z.2.1 p.fFuns.length z.2.2) (chkL p (chN p).1)])):=by
 obtain ⟨A0,c0,A1,c1,rfl,l0,g0,l1,g1⟩:=kApiProgram_open hp
 refine ZX Tryz.func56 hS ?_
 refine Zh (Zi (oBox J ZP (fun b1=>?_)))
 refine oAlloc J ZP (fun b2=>?_)
 refine Zn (Za (Zh (wDrawG J [0,1,3] [(2,[0,3],[]),(4,[0],[]),(5,[],[])] [6] 24 ZK J J (fun w0=>?_))))
 refine Zla ?_
 refine Zla ?_
 refine Zla ?_
 refine Z4 (Z5 J ?_)
 (refine ZC0 rfl ZK (fun w hS=>frame hS ZQ (fun B' hB hS'=>prog_Live hS' p _ (gPg hB hp) hsm W0)) ?_;rintro ⟨A5,c5⟩ -)
 refine ZG ?_ J (fun w0=>?_)
 refine Z8 J J J J (fun w0=>?_) ?_
 refine Zla ?_
 exact Z9 rfl
 refine Z8 J J J J (fun w0=>?_) ?_
 refine Zla ?_
 exact Z9 rfl
 exact AgainG.nil
 refine Z4 (Z5 J ?_)
 (refine ZC0 rfl ZK (fun w hS=>frame hS ZQ (fun B' hB hS'=>elide_Free hS' p _ (gPg hB hp) hsm W0)) ?_;rintro ⟨A7,c7⟩ -)
 refine ZG ?_ J (fun w0=>?_)
 refine Z8 J J J J (fun w0=>?_) ?_
 refine Zla ?_
 exact Z9 rfl
 exact AgainG.nil
 refine Z4 (Z5 J ?_)
 (refine ZD J (fun w B' hB hR hS'=>prog_Lean hS' p _ (gPg hB hp) hsm (liveL p) A5 p.fFuns.length c5 (liveL_len p) (row_Cs (W:=W0) (e:=4) (A:=A5) (n:=p.fFuns.length) (cp:=c5) (xs:=liveL p) (hR _ _ ZP)) (chN p).1 A7 p.fFuns.length c7 (chN_len p) (row_Cs (W:=W0) (e:=4) (A:=A7) (n:=p.fFuns.length) (cp:=c7) (xs:=(chN p).1) (hR _ _ ZP)) W0) ?_;rintro ⟨⟨K1,k1⟩,⟨K2,k2⟩⟩ -)
 refine ZG ?_ J (fun w0=>?_)
 exact AgainG.nil
 refine Z6 (Zsa ?_)
 refine Zn (Za (Zl (Zw (ZI ?_))))
 exact ⟨((K1,k1),(K2,k2)),trivial,rfl,Lh⟩
def wFold (F:Int→Int):List Int→Int→Option Int
  | [],m=>some m
  | k :: l,m=>if F k<0 then none else wFold F l (if m<1+F k then 1+F k else m)
def worstN (g:List (List Int)) (ib:List Bool) (frm:List Int):Nat→Int→List Int→Int
  | 0,_,_=>-1
  | f+1,a,met=>if a ∈ met then -1 else if ib.getD a.toNat false=false then 1 else
    match wFold (fun k=>worstN g ib frm f k (met++[a])) (g.getD a.toNat []) 0 with
    | none=>-1
    | some m=>m+frm.getD a.toNat 0
theorem wFold_none {F:Int→Int} : ∀ {l:List Int}{m:Int},(∃ k ∈ l,F k<0)→wFold F l m=none
 | [],m,h=>by obtain ⟨k,hk,_⟩:=h;cases hk
 | x :: l,m,h=>by
  unfold wFold
  by_cases hx:F x<0
  · rw [if_pos hx]
  · rw [if_neg hx]
    obtain ⟨k,hk,hf⟩:=h
    rcases List.mem_cons.1 hk with rfl | hk
    · exact absurd hf hx
    · exact wFold_none ⟨k,hk,hf⟩
theorem wFold_some {F:Int→Int} : ∀ {l:List Int}{m:Int},(∀ k ∈ l,0≤F k)→∃ m',wFold F l m=some m'∧∀ K,m'≤K↔m≤K∧∀ k ∈ l,1+F k≤K
 | [],m,h=>⟨m,rfl,fun K=>by simp⟩
 | x :: l,m,h=>by
  have hx:=h x List.mem_cons_self
  obtain ⟨m',h1,h2⟩:=wFold_some (F:=F) (l:=l) (m:=if m<1+F x then 1+F x else m) (fun k hk=>h k (List.mem_cons_of_mem _ hk))
  refine ⟨m',by unfold wFold;rw [if_neg ZO];exact h1,fun K=>?_⟩
  rw [h2 K]
  have h3:(if m<1+F x then 1+F x else m)≤K↔m≤K∧1+F x≤K:=by split <;> constructor <;> intro _ <;> omega
  rw [h3]
  simp only [List.mem_cons,forall_eq_or_imp]
  exact ⟨fun ⟨⟨a,b⟩,c⟩=>⟨a,b,c⟩,fun ⟨a,b,c⟩=>⟨⟨a,b⟩,c⟩⟩
theorem wFold_ub {F:Int→Int}{Z:Int} : ∀ {l:List Int}{m m':Int},wFold F l m=some m'→0≤m→m≤Z→(∀ k ∈ l,1+F k≤Z)→0≤m'∧m'≤Z
 | [],m,m',h,h0,h1,h2=>by obtain rfl:=Option.some.inj h;exact ⟨h0,h1⟩
 | x :: l,m,m',h,h0,h1,h2=>by
  unfold wFold at h
  by_cases hx:F x<0
  · rw [if_pos hx] at h;cases h
  · rw [if_neg hx] at h
    have:=h2 x List.mem_cons_self
    exact wFold_ub h (by split <;> omega) (by split <;> omega) (fun k hk=>h2 k (List.mem_cons_of_mem _ hk))
theorem worst_ub {g:List (List Int)}{ib:List Bool}{frm:List Int}(hf:∀ a,0≤frm.getD a 0∧frm.getD a 0≤1048700):∀ (f:Nat) (a:Int) (met:List Int),-1≤worstN g ib frm f a met∧worstN g ib frm f a met≤2097152 * (f:Int)
 | 0,a,met=>by unfold worstN;omega
 | f+1,a,met=>by
  unfold worstN
  split
  · omega
  · split
    · omega
    · split
      · omega
      · rename_i m hm
        have h1:=wFold_ub (Z:=1+2097152 * (f:Int)) hm ZO ZO (fun k hk=>by have:=(worst_ub (g:=g) (ib:=ib) hf f k (met++[a])).2;omega)
        have h2:=hf a.toNat
        omega
theorem frm_ub {p:ApiProgram}(hsm:SmallP p) (a:Nat):0≤(frmL p).getD a 0∧(frmL p).getD a 0≤1048700:=by
 unfold frmL
 rw [List.getD_eq_getElem?_getD,List.getElem?_map]
 cases h:p.fFuns[a]? with
 | none=>simp
 | some f=>
  have h1:=(hsm.fn f (List.mem_of_getElem? h)).2.2.1
  have h2:=near_in f.fF.fPad
  show 0≤ownN f.fF∧ownN f.fF≤_
  unfold ownN frameN
  split <;> omega
noncomputable def wN (p:ApiProgram) (free:List Bool) (f:Nat) (a:Int) (met:List Int):Int:=worstN (graphF p) (memF p free) (frmL p) f a met
theorem pth_head {ed:Nat→Nat→Bool}{a c:Nat}(h:Pth ed a c):∃ b,ed a b=true∧(b=c∨Pth ed b c):=by
 induction h with
 | one h=>exact ⟨_,h,.inl rfl⟩
 | snoc h1 h2 ih=>
  obtain ⟨b,hb,h3⟩:=ih
  refine ⟨b,hb,.inr ?_⟩
  rcases h3 with rfl | h3
  · exact .one h2
  · exact .snoc h3 h2
noncomputable abbrev edP (p:ApiProgram) (free:List Bool):Nat→Nat→Bool:=edE (graphF p) (memF p free)
theorem edP_iff {p:ApiProgram}{free:List Bool}{b a:Nat} : edP p free b a=true↔b<p.fFuns.length∧a<p.fFuns.length∧(a:Int) ∈ (graphF p).getD b []∧gm p free b=true∧gm p free a=true:=by
 unfold edP
 rw [edE_iff,Go.Proofs.YtogaiijhicfoaaaGreatU.graphF_len]
 rfl
theorem worst_ok {p:ApiProgram}{free:List Bool}(hok:okN p free=true):∀ (f a:Nat) (met:List Int),a<p.fFuns.length→rk (graphF p) (memF p free) a<f→(∀ x ∈ met,∃ y:Nat,x=(y:Int)∧gm p free y=true∧(gm p free a=true→Pth (edP p free) y a))→1≤wN p free f (a:Int) met∧∀ K,K≤55→(wN p free f (a:Int) met≤K↔(dN p free).getD a 0≤K)
 | 0,a,met,_,hf,_=>by omega
 | f+1,a,met,ha,hf,hm=>by
  have hni:¬ (a:Int) ∈ met:=by
   intro h
   obtain ⟨y,hy,hg,hp⟩:=hm _ h
   obtain rfl:a=y:=by omega
   exact (ok_iff _ _).1 hok a (hp hg)
  unfold wN worstN
  rw [if_neg hni,Int.toNat_natCast,gm_mem ha]
  cases hg:gm p free a with
  | false=>rw [if_pos rfl,dd_out hok ha hg];exact ⟨Int.le_refl _,fun K _=>Iff.rfl⟩
  | true=>
   rw [if_neg (by simp)]
   have hk:∀ k ∈ (graphF p).getD a [],1≤wN p free f k (met++[(a:Int)])∧∀ K,K≤55→(wN p free f k (met++[(a:Int)])≤K↔(dN p free).getD k.toNat 0≤K):=by
    intro k hk
    obtain ⟨c,rfl,hc⟩:=eg_in ha hk
    rw [Int.toNat_natCast]
    refine worst_ok hok f c _ hc ?_ (fun x hx=>?_)
    · have:=rk_lt hok (show Go.Proofs.YtogaiijhicfoaaaGreatG.memF (graphF p) (memF p free) (a:Int)=true from hg) ((eg_ends ha).1 hk)
      omega
    · have he:gm p free c=true→edP p free a c=true:=fun hgc=>edP_iff.2 ⟨ha,hc,hk,hg,hgc⟩
      rcases List.mem_append.1 hx with hx | hx
      · obtain ⟨y,rfl,hy,hp⟩:=hm x hx
        exact ⟨y,rfl,hy,fun hgc=>.snoc (hp hg) (he hgc)⟩
      · obtain rfl:=List.mem_singleton.1 hx
        exact ⟨a,rfl,hg,fun hgc=>.one (he hgc)⟩
   obtain ⟨m',h1,h2⟩:=wFold_some (F:=fun k=>worstN (graphF p) (memF p free) (frmL p) f k (met++[(a:Int)])) (l:=(graphF p).getD a []) (m:=0) (fun k h=>by have:=(hk k h).1;unfold wN at this;omega)
   rw [h1]
   have h3:=frm_pos ha
   have h0:0≤m':=((h2 m').1 (Int.le_refl _)).1
   show 1≤m'+(frmL p).getD a 0∧∀ K,K≤55→(m'+(frmL p).getD a 0≤K↔_)
   refine ⟨by omega,fun K hK=>?_⟩
   rw [dd_le hok ha hg ZO]
   have h4:m'+(frmL p).getD a 0≤K↔m'≤K-(frmL p).getD a 0:=by constructor <;> intro _ <;> omega
   rw [h4,h2]
   rcases nr_cases (x:=(frmL p).getD a 0) ZO with ⟨h5,h6⟩ | ⟨h5,h6⟩
   · rw [h5]
     constructor
     · rintro ⟨h7,h8⟩
       refine ⟨by omega,fun k h=>?_⟩
       have:=h8 k h
       have:=((hk k h).2 (K-1-(frmL p).getD a 0) ZO).1 (by unfold wN;omega)
       omega
     · rintro ⟨h7,h8⟩
       refine ⟨by omega,fun k h=>?_⟩
       have:=h8 k h
       have:=((hk k h).2 (K-1-(frmL p).getD a 0) ZO).2 ZO
       unfold wN at this
       omega
   · rw [h5]
     constructor
     · rintro ⟨h7,h8⟩;omega
     · rintro ⟨h7,h8⟩;omega
theorem worst_back {p:ApiProgram}{free:List Bool} : ∀ (f a:Nat) (met:List Int),((a:Int) ∈ met∨∃ x:Nat,((x:Int) ∈ met∨x=a)∧Pth (edP p free) a x)→wN p free f (a:Int) met = -1
 | 0,a,met,_=>rfl
 | f+1,a,met,h=>by
  unfold wN worstN
  by_cases hm:(a:Int) ∈ met
  · rw [if_pos hm]
  · rw [if_neg hm]
    obtain ⟨x,hx,hp⟩:=h.resolve_left hm
    obtain ⟨b,hb,hbx⟩:=pth_head hp
    obtain ⟨ha,hbl,hbe,hga,hgb⟩:=edP_iff.1 hb
    rw [Int.toNat_natCast,gm_mem ha,hga,if_neg (by simp)]
    have hxn:(x:Int) ∈ met++[(a:Int)]:=by
     rcases hx with hx | rfl
     · exact List.mem_append_left _ hx
     · exact List.mem_append_right _ (List.mem_singleton.2 rfl)
    rw [wFold_none ⟨(b:Int),hbe,?_⟩]
    have:=worst_back f b (met++[(a:Int)]) (by
     rcases hbx with rfl | hbx
     · exact .inl hxn
     · exact .inr ⟨x,.inl hxn,hbx⟩)
    unfold wN at this
    rw [this];decide
noncomputable def wE (p:ApiProgram) (free:List Bool) (k:Int):Int:=wN p free (p.fFuns.length+1) k []
noncomputable def edgeOk (p:ApiProgram) (free:List Bool) (i:Nat) (k:Int):Bool:=!(calledL p).getD i false || (decide (0≤wE p free k) && ((memF p free).getD i false || decide (1+wE p free k≤56)))
noncomputable def pathsN (p:ApiProgram) (free:List Bool):Bool:=(decide (0≤wE p free p.fEntry) && decide (1+wE p free p.fEntry≤56)) && (List.range p.fFuns.length).all fun i=>((graphF p).getD i []).all (edgeOk p free i)
theorem wE_ok {p:ApiProgram}{free:List Bool}(hok:okN p free=true) {a:Nat}(ha:a<p.fFuns.length):1≤wE p free (a:Int)∧(1+wE p free (a:Int)≤56↔1+(dN p free).getD a 0≤56):=by
 have:=worst_ok hok (p.fFuns.length+1) a [] ha (by have:=rk_le (g:=graphF p) (ib:=memF p free) a;rw [Go.Proofs.YtogaiijhicfoaaaGreatU.graphF_len] at this;omega) (fun x hx=>by cases hx)
 refine ⟨this.1,?_⟩
 have:=this.2 55 (Int.le_refl _)
 unfold wE
 constructor
 · intro h;have:=this.1 ZO;omega
 · intro h;have:=this.2 ZO;omega
theorem paths_iff {p:ApiProgram}{free:List Bool}{e:Nat}(he:p.fEntry=(e:Int)) (hl:e<p.fFuns.length):pathsN p free=true↔OKc p free:=by
 unfold pathsN
 simp only [Bool.and_eq_true,decide_eq_true_eq,List.all_eq_true,List.mem_range]
 constructor
 · rintro ⟨⟨h1,h2⟩,h3⟩
   have hok:okN p free=true:=by
    unfold okN
    rw [ok_iff]
    intro a hp
    obtain ⟨b,hb,hba⟩:=pth_head hp
    obtain ⟨ha,hbl,hbe,hga,hgb⟩:=edP_iff.1 hb
    have h4:=h3 a ha (b:Int) hbe
    unfold edgeOk at h4
    rw [getD_tt.2 (gm_iff.1 hga).1,Bool.not_true,Bool.false_or,Bool.and_eq_true,decide_eq_true_eq] at h4
    have h5:wE p free (b:Int) = -1:=worst_back _ b [] (.inr ⟨b,.inr rfl,by
     rcases hba with rfl | hba
     · exact hp
     · exact hba.trans (.one hb)⟩)
    omega
   refine ⟨hok,?_,fun i hi=>?_⟩
   · unfold deepF
     rw [he] at h2 ⊢
     have:=(wE_ok hok hl).2.1 h2
     rw [Int.toNat_natCast,decide_eq_false_iff_not];omega
   · cases hb:badF p free i with
     | false=>rfl
     | true=>
      exfalso
      unfold badF at hb
      simp only [Bool.and_eq_true,List.any_eq_true,Bool.not_eq_true'] at hb
      obtain ⟨⟨hc,hmm⟩,k,hk,hd⟩:=hb
      have h4:=h3 i hi k hk
      unfold edgeOk at h4
      rw [hc,hmm,Bool.not_true,Bool.false_or,Bool.false_or,Bool.and_eq_true,decide_eq_true_eq,decide_eq_true_eq] at h4
      obtain ⟨c,rfl,hcl⟩:=eg_in hi hk
      have:=(wE_ok hok hcl).2.1 h4.2
      unfold deepF at hd
      rw [Int.toNat_natCast,decide_eq_true_eq] at hd
      omega
 · intro h
   have hen:=(wE_ok h.ok hl)
   refine ⟨⟨by rw [he];omega,?_⟩,fun i hi k hk=>?_⟩
   · have:=h.at_
     unfold deepF at this
     rw [he,Int.toNat_natCast,decide_eq_false_iff_not] at this
     rw [he]
     exact hen.2.2 ZO
   · obtain ⟨c,rfl,hcl⟩:=eg_in hi hk
     have h1:=wE_ok h.ok hcl
     unfold edgeOk
     cases hc:(calledL p).getD i false with
     | false=>rfl
     | true=>
      rw [gm_mem hi,Bool.not_true,Bool.false_or,Bool.and_eq_true,decide_eq_true_eq]
      refine ⟨by omega,?_⟩
      cases hg:gm p free i with
      | true=>rfl
      | false=>
       have:=bad_no (h.bad i hi) (getD_tt.1 hc) hg hk
       rw [Bool.false_or,decide_eq_true_eq]
       rw [Int.toNat_natCast] at this
       exact h1.2.2 this
def cntM (p:ApiProgram) (met:List Int):Nat:=((List.range p.fFuns.length).filter fun i:Nat=>!decide ((i:Int) ∈ met)).length
theorem cntM_nil (p:ApiProgram):cntM p []≤p.fFuns.length:=by
 have h:cntM p []≤(List.range p.fFuns.length).length:=List.length_filter_le _ _
 rwa [List.length_range] at h
theorem cntM_app {p:ApiProgram}{met:List Int}{a:Nat}(ha:a<p.fFuns.length) (hn:¬ (a:Int) ∈ met):cntM p (met++[(a:Int)])<cntM p met:=by
 unfold cntM
 have:=filter_one (l:=List.range p.fFuns.length) (p:=fun i:Nat=>!decide ((i:Int) ∈ met)) (q:=fun i:Nat=>!decide ((i:Int) ∈ met++[(a:Int)])) (i:=a) List.nodup_range (List.mem_range.2 ha) (by simp [hn]) (by simp) (fun j hj=>by
  have:¬ (j:Int)=(a:Int):=by omega
  simp [this])
 omega
section
variable {p : ApiProgram} {free : List Bool} {f a : Nat} {met : List Int}
theorem wN_in (h:(a:Int) ∈ met):wN p free (f+1) (a:Int) met = -1:=by unfold wN worstN;rw [if_pos h]
theorem wN_out (h:¬ (a:Int) ∈ met) (hm:(memF p free)[a]?=some false):wN p free (f+1) (a:Int) met=1:=by unfold wN worstN;rw [if_neg h,Int.toNat_natCast,if_pos (getD_at hm)]
theorem wN_none (h:¬ (a:Int) ∈ met) (hm:(memF p free)[a]?=some true) {l:List Int}(hl:(graphF p)[a]?=some l) (hw:wFold (fun k=>wN p free f k (met++[(a:Int)])) l 0=none):wN p free (f+1) (a:Int) met = -1:=by
 unfold wN worstN
 rw [if_neg h,Int.toNat_natCast,if_neg (by rw [getD_at hm];simp),getD_at hl]
 unfold wN at hw
 rw [hw]
theorem wN_some (h:¬ (a:Int) ∈ met) (hm:(memF p free)[a]?=some true) {l:List Int}(hl:(graphF p)[a]?=some l) {m:Int}(hw:wFold (fun k=>wN p free f k (met++[(a:Int)])) l 0=some m):wN p free (f+1) (a:Int) met=m+(frmL p).getD a 0:=by
 unfold wN worstN
 rw [if_neg h,Int.toNat_natCast,if_neg (by rw [getD_at hm];simp),getD_at hl]
 unfold wN at hw
 rw [hw]
theorem wFold_go {F:Int→Int}{l:List Int}{j:Nat}{y m:Int}(hy:l[j]?=some y) (h:¬ F y<0):wFold F (l.drop j) m=wFold F (l.drop (j+1)) (if m<1+F y then 1+F y else m):=by
 obtain ⟨hj,rfl⟩:=List.getElem?_eq_some_iff.1 hy
 rw [← List.getElem_cons_drop (h:=hj)]
 show (if F l[j]<0 then none else _)=_
 rw [if_neg h]
theorem wFold_stop {F:Int→Int}{l:List Int}{j:Nat}{y m:Int}(hy:l[j]?=some y) (h:F y<0):wFold F (l.drop j) m=none:=by
 obtain ⟨hj,rfl⟩:=List.getElem?_eq_some_iff.1 hy
 rw [← List.getElem_cons_drop (h:=hj)]
 show (if F l[j]<0 then none else _)=_
 rw [if_pos h]
end
theorem frm_at {p:ApiProgram}{a:Nat}{f:ApiFun}(h:p.fFuns[a]?=some f):(frmL p).getD a 0=ownN f.fF:=by
 unfold frmL
 exact getD_at (by rw [List.getElem?_map,h];rfl)
theorem worst_any {p:ApiProgram}(hsm:SmallP p) (free:List Bool):∀ (n:Nat) {B:Base}{w:World}(hS:St B [] w) (pc:List Value) (hp:kApiProgram.K B.e p pc) (A:Option Addr) (cp:Nat) (hG:(Kd.slice (Kd.int .i64)).C B.e A (graphF p)) (A2:Option Addr) (cp2:Nat) (hM:Kd.bool.C B.e A2 (memF p free)) (a:Nat) (ha:a<p.fFuns.length) (A4:Option Addr) (c4:Nat) (met:List Int) (hC:(Kd.int .i64).C B.e A4 met) (hf:cntM p met<n) (hb:met.length+n≤1000),
 CW 109 #[.agg pc.toArray,.slice A p.fFuns.length cp,.slice A2 p.fFuns.length cp2,.int .i64 (a:Int),.slice A4 met.length c4] w (Ret B (fun _:Unit=>True) (fun _=>.int .i64 (wN p free n (a:Int) met)) (fun _=>[])):=by
 intro n
 induction n with
 | zero=>intro B w hS pc hp A cp hG A2 cp2 hM a ha A4 c4 met hC hf hb;omega
 | succ n ih=>
 intro B w hS pc hp A cp hG A2 cp2 hM a ha A4 c4 met hC hf hb
 obtain ⟨A0,c0,A1,c1,rfl,l0,g0,l1,g1⟩:=kApiProgram_open hp
 have hn:=hsm.funs
 have hml:=memF_len p free
 have hgl:=Go.Proofs.YtogaiijhicfoaaaGreatU.graphF_len p
 obtain ⟨l,hl⟩:∃ l,(graphF p)[a]?=some l:=⟨_,List.getElem?_eq_getElem ZO⟩
 obtain ⟨e2,cs2,hEg⟩:=hG.elm hl
 obtain ⟨Al,cl,rfl,hll,hCr⟩:=hEg.K
 have hlb:=hCr.1
 obtain ⟨um,hum⟩:∃ u,(memF p free)[a]?=some u:=⟨_,List.getElem?_eq_getElem ZO⟩
 obtain ⟨e4,cs4,hEm⟩:=hM.elm hum
 obtain rfl:=(show cs4=[Value.bool um] from hEm.K)
 obtain ⟨fn,hfn⟩:∃ f,p.fFuns[a]?=some f:=⟨_,List.getElem?_eq_getElem ha⟩
 obtain ⟨e1,cs1,hE⟩:=g0.elm hfn
 obtain ⟨D0,d0,D1,d1,D2,d2,D3,d3,D4,d4,rfl,m0,q0,m1,q1,m2,q2,m3,q3,m4,q4⟩:=kApiFun_open hE.K
 refine ZX Tryz.func109 hS ?_
 refine Zh (Zi (oBox J ZP (fun b5=>?_)))
 refine Zp J (Zn (Za (Zh (Zzv ?_))))
 (refine ZC0 rfl ZK (fun w hS=>frame hS ZQ (fun B' hB hS'=>in_any hS' A4 c4 met (Kd.C_grow hB hC) (a:Int))) ?_;rintro ⟨⟩ -)
 refine Zn (Za (wC (fun h17=>?_) (fun h17=>?_)))
 refine Zh (Zi (Zze ?_))
 exact ⟨(),trivial,by rw [wN_in h17];rfl,Lh⟩
 refine Zj (Za (Zh (Zh (Zi (Zo J (Zo J (oIdxE J J (hEm) ZO J J ?_)))))))
 have hc20:=(hEm).cell
 refine Zlx hc20 ?_
 refine Zno ?_
 refine Zn (Za (wC (fun h22=>?_) (fun h22=>?_)))
 refine Zh (Zi (Zze ?_))
 exact ⟨(),trivial,by rw [wN_out h17 (by rw [hum];congr 1;simpa using h22)];rfl,Lh⟩
 have hut:(memF p free)[a]?=some true:=by rw [hum];congr 1;simpa using h22
 refine Zj (Za (Zh (Zi (Zp J (Zn (Za (Zh (Zi (Zo J (Zo J (oConv (Leads.nilrow (kd:=Kd.int .i64) (W:=B.e) (e:=3)) ?_)))))))))))
 refine oAppA (kd:=Kd.int .i64) (W:=B.e) (ys:=met) J J J J ZP J (fun w hw=>src_C hC (Base.grow hw.ok)) (by simp only [List.length_nil];omega) J (fun A25 c25 hc25=>?_)
 rw [List.nil_append met,show ([]:List Int).length+met.length=met.length by simp]
 refine Zp J (Zn (Za (Zh (Zi (Zo J (Zo J (oBuildSlice1 J J J J J ZP J (fun b28=>?_))))))))
 refine oApp1 (a:Int) J J J J ZP ZP J ZO J (fun g29 cp29=>?_)
 refine Zp J (Zn (Za (Zh (Zi (Zp J (Zn (Za (Zh (Zh (Zi (Zp J (Zn (Za (Zk (wLoop (ι:=Nat×Int) (fun z=>[(1,.slice A p.fFuns.length cp),(2,.slice A2 p.fFuns.length cp2),(3,.int .i64 (a:Int)),(5,.pointer (some ⟨b5,0,none⟩)),(11,.slice (some ⟨g29,0,none⟩) (met.length+1) cp29),(12,.int .i64 z.2),(13,.int .i64 (z.1:Int))]) (fun z=>[blk b5 29 (pcL p A0 c0 A1 c1),row (Kd.int .i64) B.e 3 (.slice (some ⟨g29,0,none⟩) (met.length+1) cp29) (met++[(a:Int)])]) (fun z=>z.1≤l.length∧wFold (fun k=>wN p free n k (met++[(a:Int)])) (l.drop z.1) z.2=wFold (fun k=>wN p free n k (met++[(a:Int)])) l 0∧0≤z.2∧z.2≤1+2097152 * (n:Int)) (fun z=>l.length-z.1) (0,0) ?_ cv Lh ?_)))))))))))))))
 exact ⟨Nat.zero_le _,by simp,by omega,by omega⟩
 rintro ⟨j,m⟩ ⟨hj,hw,hm0,hm1⟩
 dsimp only at hj hw hm0 hm1
 try dsimp only
 refine Zh (Zh (Zi (Zo J (Zo J (Zo J (oIdxE J J (hEg) ZO J J ?_))))))
 have hc33:=(hEg).cell
 refine Zlx hc33 ?_
 refine Zv J J (Zx J J (Zn (Za (wC (fun h36=>?_) (fun h36=>?_)))))
 obtain ⟨y,hy⟩:∃ y,l[j]?=some y:=⟨_,List.getElem?_eq_getElem ZO⟩
 obtain ⟨e5,cs5,hEy⟩:=hCr.elm hy
 obtain rfl:=(show cs5=[Value.int .i64 y] from hEy.K)
 obtain ⟨yc,rfl,hyl⟩:=eg_in (p:=p) (i:=a) ha (x:=y) (by rw [getD_at hl];exact List.mem_of_getElem? hy)
 have hub:=worst_ub (g:=graphF p) (ib:=memF p free) (frm_ub hsm) n (yc:Int) (met++[(a:Int)])
 rw [show worstN (graphF p) (memF p free) (frmL p) n (yc:Int) (met++[(a:Int)])=wN p free n (yc:Int) (met++[(a:Int)]) from rfl] at hub
 refine Zj (Za (Zh (Zk (Zh (wDrawG J [0,1,2,3,4,5,6,7,8,9,10] [(11,[],[])] [12] 24 ZK J J (fun w0=>?_))))))
 refine Zla ?_
 refine Zo J (Zo J (Zo J (Zo J (oIdxE J J (hEg) ZO J J ?_))))
 have hc44:=(hEg).cell
 refine Zlx hc44 ?_
 refine Zo J (oIdxE J J (hEy) ZO J J ?_)
 have hc47:=(hEy).cell
 refine Zlx hc47 ?_
 refine Zo J ?_
 refine ZS0 (t:=49) (v':=.slice (some ⟨g29,0,none⟩) (met++[(a:Int)]).length cp29) rfl (by rw [List.length_append];rfl) ?_
 refine Z4 (Z5 J ?_)
 (refine ZD J (fun w B' hB hR hS'=>ih hS' _ (gPg hB hp) A cp (Kd.C_grow hB hG) A2 cp2 (Kd.C_grow hB hM) yc hyl (some ⟨g29,0,none⟩) cp29 (met++[(a:Int)]) (row_Cs (W:=B.e) (e:=3) (A:=some ⟨g29,0,none⟩) (n:=met.length+1) (cp:=cp29) (hR _ _ ZP)) (by have:=cntM_app ha h17;omega) (by rw [List.length_append,List.length_singleton];omega)) ?_;rintro ⟨⟩ -)
 refine ZG ?_ J (fun w0=>?_)
 exact AgainG.nil
 refine Z6 (Zp J (Zn (Za (Zh (Zh (Zi (Zo J (Zx J J (Zn (Za (wC (fun h52=>?_) (fun h52=>?_))))))))))))
 refine Zh (Zi (Zzn ?_))
 exact ⟨(),trivial,by rw [wN_none h17 hut hl (by rw [← hw];exact wFold_stop hy h52)];rfl,Lh⟩
 refine Zj (Za (Zi (Zo J (Zo J ?_))))
 first | refine oAdd rfl rfl ZO ?_ | refine oAddW rfl rfl ?_
 refine oMaxI J J (Zp J (Zn (Zzd ?_)))
 refine Zp J (Zn (Za ?_))
 exact ⟨rfl,(j+1,_),⟨by show j+1≤_;omega,by rw [← hw];exact (wFold_go hy h52).symm,by show 0≤(if m<1+wN p free n (yc:Int) (met++[(a:Int)]) then 1+wN p free n (yc:Int) (met++[(a:Int)]) else m);split <;> omega,by show (if m<1+wN p free n (yc:Int) (met++[(a:Int)]) then 1+wN p free n (yc:Int) (met++[(a:Int)]) else m)≤1+2097152 * (n:Int);split <;> omega⟩,by show l.length-(j+1)<l.length-j;omega,cv,Lh⟩
 obtain rfl:j=l.length:=by omega
 rw [List.drop_length] at hw
 refine Zm (Zb (Zb (Ze (Za (Zh (Zi (Zo J (Zz (n:=0) (m:=0) J J J (Zld ?_)))))))))
 refine Zo J (oIdxE J J (hE) ZO J J ?_)
 have hc61:=(hE).cell
 refine ZF (ZT 3) (ZT 3) ?_
 refine Zlx hc61 ?_
 (refine ZC0 rfl ZK (fun w hS=>frame hS ZQ (fun B' hB hS'=>ref16_Frame hS' fn.fF _ (kApiFunc_mk _ fn.fF m0 (Kd.C_grow hB q0) m1 (Kd.C_grow hB q1) m2 (Kd.C_grow hB q2) m3 (Kd.C_grow hB q3)) (by have:=(hsm.fn fn (List.mem_of_getElem? hfn)).2.2.1;omega))) ?_;rintro ⟨⟩ -)
 refine oMaxI J J ?_
 have hfu:=frm_ub hsm a
 rw [frm_at hfn] at hfu
 rw [show (if frameN fn.fF<1 then 1 else frameN fn.fF)=ownN fn.fF from rfl]
 first | refine oAdd rfl rfl ZO ?_ | refine oAddW rfl rfl ?_
 refine Zp J (Zzx ?_)
 exact ⟨(),trivial,by rw [wN_some h17 hut hl hw.symm,frm_at hfn];rfl,Lh⟩
section
variable {p : ApiProgram} {free : List Bool}
noncomputable def inTo (p:ApiProgram) (free:List Bool) (i:Nat):List Bool:=(List.range p.fFuns.length).map fun a=>if a<i then (calledL p).getD a false && free.getD a false else false
theorem inTo_len (p:ApiProgram) (free:List Bool) (i:Nat):(inTo p free i).length=p.fFuns.length:=by unfold inTo;simp
theorem inTo_zero (p:ApiProgram) (free:List Bool):List.replicate p.fFuns.length false=inTo p free 0:=by
 unfold inTo
 refine (List.eq_replicate_iff.2 ⟨by simp,fun b hb=>?_⟩).symm
 obtain ⟨a,_,rfl⟩:=List.mem_map.1 hb
 rw [if_neg ZO]
theorem inTo_set {i:Nat}(hi:i<p.fFuns.length) {b:Bool}(h:((calledL p).getD i false && free.getD i false)=b):(inTo p free i).set i b=inTo p free (i+1):=by
 apply List.ext_getElem?
 intro a
 rw [List.getElem?_set,inTo_len]
 by_cases e:i=a
 · subst e
   rw [if_pos rfl,if_pos hi]
   unfold inTo
   rw [List.getElem?_map,List.getElem?_range hi,← h]
   simp
 · rw [if_neg e]
   unfold inTo
   rw [List.getElem?_map,List.getElem?_map]
   cases hr:(List.range p.fFuns.length)[a]? with
   | none=>rfl
   | some j=>
    obtain ⟨hk2,rfl⟩:=List.getElem?_eq_some_iff.1 hr
    simp only [List.getElem_range,Option.map_some]
    by_cases h3:a<i
    · rw [if_pos h3,if_pos ZO]
    · rw [if_neg h3,if_neg ZO]
theorem inTo_all (p:ApiProgram) (free:List Bool):inTo p free p.fFuns.length=memF p free:=by
 unfold inTo memF
 refine List.map_congr_left (fun i hi=>?_)
 rw [if_pos (List.mem_range.1 hi)]
noncomputable def f0 (p:ApiProgram) (free:List Bool):Bool:=decide (0≤wE p free p.fEntry) && decide (1+wE p free p.fEntry≤56)
noncomputable def fTo (p:ApiProgram) (free:List Bool) (i:Nat):Bool:=f0 p free && (List.range i).all fun i=>((graphF p).getD i []).all (edgeOk p free i)
noncomputable def gTo (p:ApiProgram) (free:List Bool) (i:Nat) (l:List Int) (j:Nat):Bool:=fTo p free i && (l.take j).all (edgeOk p free i)
theorem fTo_zero:f0 p free=fTo p free 0:=by unfold fTo;simp
theorem fTo_all:fTo p free p.fFuns.length=pathsN p free:=rfl
theorem gTo_zero {i:Nat}{l:List Int} : fTo p free i=gTo p free i l 0:=by unfold gTo;simp
theorem gTo_succ {i j:Nat}{l:List Int}{y:Int}(hy:l[j]?=some y):gTo p free i l (j+1)=(gTo p free i l j && edgeOk p free i y):=by
 unfold gTo
 rw [List.take_add_one,hy,List.all_append,Bool.and_assoc]
 simp
theorem gTo_all {i:Nat}{l:List Int}(hl:(graphF p)[i]?=some l):gTo p free i l l.length=fTo p free (i+1):=by
 unfold gTo fTo
 rw [List.take_length,List.range_succ,List.all_append,Bool.and_assoc]
 congr 2
 show l.all _=(((graphF p).getD i []).all (edgeOk p free i) && true)
 rw [getD_at hl,Bool.and_true]
end
theorem law_Paths {B:Base}{w:World}(hS:St B [] w) (p:ApiProgram) (pc:List Value) (hp:kApiProgram.K B.e p pc) (hsm:SmallP p) (free:List Bool) (A':Option Addr) (c':Nat) (hF:Kd.bool.C B.e A' free) (e0:Nat) (he0:p.fEntry=(e0:Int)) (hel:e0<p.fFuns.length) :
 CW 48 #[.agg pc.toArray,.slice A' free.length c'] w (Ret B (fun _:Unit=>True) (fun _=>.bool (pathsN p free)) (fun _=>[])):=by
 obtain ⟨A0,c0,A1,c1,rfl,l0,g0,l1,g1⟩:=kApiProgram_open hp
 have hn:=hsm.funs
 have hcl:=calledL_len p
 have hml:=memF_len p free
 have hgl:=Go.Proofs.YtogaiijhicfoaaaGreatU.graphF_len p
 have hub0:=worst_ub (g:=graphF p) (ib:=memF p free) (frm_ub hsm) (p.fFuns.length+1) (e0:Int) []
 rw [show worstN (graphF p) (memF p free) (frmL p) (p.fFuns.length+1) (e0:Int) []=wE p free (e0:Int) from rfl] at hub0
 refine ZX Tryz.func48 hS ?_
 refine Zh (Zi (oBox J ZP (fun b2=>?_)))
 refine Zp J (Zn (Zzl ?_))
 (refine ZC0 rfl ZK (fun w hS=>frame hS ZQ (fun B' hB hS'=>ref26_Graph hS' p _ (gPg hB hp) hsm B.e)) ?_;rintro ⟨A8,c8,hs8⟩ hl8)
 dsimp only at hl8 ⊢
 refine Zp J (Zn (Zzl ?_))
 (refine ZC0 rfl ZK (fun w hS=>frame hS ZQ (fun B' hB hS'=>ref26_Called hS' p _ (gPg hB hp) hsm B.e)) ?_;rintro ⟨C8,d8⟩ -)
 refine Zp J (Zn (Za (wFreeze [row kHdr B.e 42 (.slice A8 p.fFuns.length c8) hs8,bun (rws (Kd.int .i64) B.e 3 hs8 (graphF p)),row Kd.bool B.e 4 (.slice C8 p.fFuns.length d8) (calledL p)] ZQ (fun B1 hB1 hq1=>?_))))
 have hG:=grid_C (hq1 _ _ ZP) (hq1 _ _ ZP) (by rw [hl8,hgl]) hB1
 have hCl:=row_Cs (W:=B.e) (e:=4) (n:=p.fFuns.length) (cp:=d8) (xs:=calledL p) (hq1 _ _ ZP)
 have hF:=Kd.C_grow hB1 hF
 have hp:=kApiProgram.K_grow hB1 hp
 refine Zh (Zi (Zz (n:=0) (m:=0) J J J (Zld ?_)))
 refine Zv J J (oMake (kd:=Kd.bool) (W:=B1.e) false J J J J J J ZO J (fun g21=>?_))
 rw [inTo_zero p free]
 refine Zp J (Zn (Za (Zh (Zh (Zi (Zp J (Zn (Za (Zk (wLoop (ι:=Nat) (fun i=>[(1,.slice A' free.length c'),(2,.pointer (some ⟨b2,0,none⟩)),(5,.slice A8 p.fFuns.length c8),(6,.slice C8 p.fFuns.length d8),(7,.slice (some ⟨g21,0,none⟩) p.fFuns.length p.fFuns.length),(8,.int .i64 (i:Int))]) (fun i=>[blk b2 29 (pcL p A0 c0 A1 c1),row Kd.bool B1.e 4 (.slice (some ⟨g21,0,none⟩) p.fFuns.length p.fFuns.length) (inTo p free i)]) (fun i=>i≤p.fFuns.length) (fun i=>p.fFuns.length-i) 0 ?_ cv Lh ?_))))))))))
 exact Nat.zero_le _
 rintro i hi
 have hil:=inTo_len p free i
 try dsimp only
 refine Zh (Zh (Zi (Zo J (Zo J (Zv J J (Zx J J (Zn (Za (wC (fun h25=>?_) (fun h25=>?_))))))))))
 have hkl:i<p.fFuns.length:=by omega
 obtain ⟨uc,huc⟩:∃ u,(calledL p)[i]?=some u:=⟨_,List.getElem?_eq_getElem ZO⟩
 obtain ⟨e3,cs3,hEc⟩:=hCl.elm huc
 obtain rfl:=(show cs3=[Value.bool uc] from hEc.K)
 refine Zj (Za (Zh (Zk (Zi (Zo J (Zo J (Zo J (Zo J (oIdxE J J (hEc) ZO J J ?_)))))))))
 have hc32:=(hEc).cell
 refine Zlx hc32 ?_
 refine Zo J (ZS (ZT 34) (fun h34=>?_) (fun h34=>?_))
 refine Zq J J (Zo J (Zq J J (Zo J (Zq J J (Zv J J (Zq J J (Zx J J (Zt J J (Zo J (ZS (ZT 40) (fun h40=>?_) (fun h40=>?_)))))))))))
 obtain ⟨uf,huf⟩:∃ u,free[i]?=some u:=⟨_,List.getElem?_eq_getElem ZO⟩
 obtain ⟨e4,cs4,hEf⟩:=hF.elm huf
 obtain rfl:=(show cs4=[Value.bool uf] from hEf.K)
 refine Zq J J (Zo J (Zq J J (Zo J (Zq J J (oIdxE J J (hEf) ZO J J ?_)))))
 have hc43:=(hEf).cell
 refine Zq J J (Zlx hc43 ?_)
 refine Zt J J (ZR J J ZP ZO J J (fun g46 hg46=>?_))
 first | subst hg46 | (injection hg46 with hg46;injection hg46 with hg46;subst hg46)
 refine oStR _ J J J J ZP (by first | omega | (simp only [List.length_set];omega)) ?_
 refine Zn (Zzd ?_)
 refine Zp J (Zn (Za ?_))
 exact ⟨rfl,i+1,by omega,by omega,cv,by rw [← inTo_set hkl (b:=uf) (by rw [getD_at huc,show uc=true from h34,getD_at huf];rfl)];exact (Leads.has ZQ)⟩
 refine Zr J J J J (Zr J J J J (Zr J J J J (Zr J J J J (Zu J J (ZR J J ZP ZO J J (fun g46 hg46=>?_))))))
 first | subst hg46 | (injection hg46 with hg46;injection hg46 with hg46;subst hg46)
 refine oStR _ J J J J ZP (by first | omega | (simp only [List.length_set];omega)) ?_
 refine Zn (Zzd ?_)
 refine Zp J (Zn (Za ?_))
 exact ⟨rfl,i+1,by omega,by omega,cv,by rw [← inTo_set hkl (b:=false) (by rw [List.getD_eq_getElem?_getD (l:=free),List.getElem?_eq_none ZO];simp)];exact (Leads.has ZQ)⟩
 refine Zr J J J J (Zr J J J J (Zr J J J J (Zr J J J J (Zu J J (Zo J (Zr J J J J (Zr J J J J (Zr J J J J (Zr J J J J (Zu J J (ZR J J ZP ZO J J (fun g46 hg46=>?_))))))))))))
 first | subst hg46 | (injection hg46 with hg46;injection hg46 with hg46;subst hg46)
 refine oStR _ J J J J ZP (by first | omega | (simp only [List.length_set];omega)) ?_
 refine Zn (Zzd ?_)
 refine Zp J (Zn (Za ?_))
 exact ⟨rfl,i+1,by omega,by omega,cv,by rw [← inTo_set hkl (b:=false) (by rw [getD_at huc,show uc=false from h34];rfl)];exact (Leads.has ZQ)⟩
 obtain rfl:i=p.fFuns.length:=by omega
 rw [inTo_all]
 refine Zm (Zb (Zb (Ze (Zzl ?_))))
 refine Zo J (Zo J (Zz (n:=2) (m:=2) J J J (Zld ?_)))
 refine ZS0 (t:=51) (v':=.int .i64 (e0:Int)) rfl (by rw [he0]) ?_
 (refine ZD J (fun w B' hB hR hS'=>worst_any hsm free (p.fFuns.length+1) hS' _ (gPg hB hp) A8 c8 (Kd.C_grow hB hG) (some ⟨g21,0,none⟩) p.fFuns.length (row_Cs (W:=B1.e) (e:=4) (A:=some ⟨g21,0,none⟩) (n:=p.fFuns.length) (cp:=p.fFuns.length) (xs:=memF p free) (hR _ _ ZP)) e0 hel none 0 [] (Kd.C_nil _ _ _) (by have:=cntM_nil p;omega) (by simp only [List.length_nil];omega)) ?_;rintro ⟨⟩ -)
 rw [show wN p free (p.fFuns.length+1) (e0:Int) []=wE p free (e0:Int) from rfl]
 refine Zp J (Zn (Za (wFreeze [row Kd.bool B1.e 4 (.slice (some ⟨g21,0,none⟩) p.fFuns.length p.fFuns.length) (memF p free)] ZQ (fun B2 hB2 hq2=>?_))))
 have hM:=row_Cs (W:=B1.e) (e:=4) (n:=p.fFuns.length) (cp:=p.fFuns.length) (xs:=memF p free) (hq2 _ _ ZP)
 have hG:=Kd.C_grow hB2 hG
 have hCl:=Kd.C_grow hB2 hCl
 have hp:=kApiProgram.K_grow hB2 hp
 refine wCut (ι:=Unit) (fun _=>[(2,.pointer (some ⟨b2,0,none⟩)),(5,.slice A8 p.fFuns.length c8),(6,.slice C8 p.fFuns.length d8),(7,.slice (some ⟨g21,0,none⟩) p.fFuns.length p.fFuns.length),(10,.bool (fTo p free 0))]) (fun _=>[blk b2 29 (pcL p A0 c0 A1 c1)]) (fun _=>True) ?_ ?_
 refine Zi (Zo J (Z2 J J (Zo J (ZS (ZT 55) (fun h55=>?_) (fun h55=>?_)))))
 refine Zq J J (Zo J (Zq J J ?_))
 first | refine oAdd rfl rfl ZO ?_ | refine oAddW rfl rfl ?_
 refine Zq J J (oLeq J J (Zt J J ?_))
 refine ZS0 (t:=59) (v':=.bool (fTo p free 0)) rfl (by rw [← fTo_zero];unfold f0;rw [he0,decide_eq_true (p:=0≤wE p free (e0:Int)) (by first | exact h55 | omega)];rfl) ?_
 refine Zp J (Zn (Za ?_))
 exact ⟨rfl,(),trivial,cv,Lh⟩
 refine Zr J J J J (Zr J J J J (Zr J J J J (Zu J J ?_)))
 refine ZS0 (t:=59) (v':=.bool (fTo p free 0)) rfl (by rw [← fTo_zero];unfold f0;rw [he0,decide_eq_false (p:=0≤wE p free (e0:Int)) (by first | exact h55 | omega)];rfl) ?_
 refine Zp J (Zn (Za ?_))
 exact ⟨rfl,(),trivial,cv,Lh⟩
 rintro ⟨⟩ -
 try dsimp only
 refine Zh (Zh (Zi (Zp J (Zn (Za (Zk (wLoop (ι:=Nat) (fun i=>[(2,.pointer (some ⟨b2,0,none⟩)),(5,.slice A8 p.fFuns.length c8),(6,.slice C8 p.fFuns.length d8),(7,.slice (some ⟨g21,0,none⟩) p.fFuns.length p.fFuns.length),(10,.bool (fTo p free i)),(11,.int .i64 (i:Int))]) (fun i=>[blk b2 29 (pcL p A0 c0 A1 c1)]) (fun i=>i≤p.fFuns.length) (fun i=>p.fFuns.length-i) 0 ?_ cv Lh ?_)))))))
 exact Nat.zero_le _
 rintro i hi
 try dsimp only
 refine Zh (Zh (Zi (Zo J (Zo J (Zv J J (Zx J J (Zn (Za (wC (fun h63=>?_) (fun h63=>?_))))))))))
 obtain ⟨l,hl⟩:∃ l,(graphF p)[i]?=some l:=⟨_,List.getElem?_eq_getElem ZO⟩
 obtain ⟨e2,cs2,hEg⟩:=hG.elm hl
 obtain ⟨Al,cl,rfl,hll,hCr⟩:=hEg.K
 have hlb:=hCr.1
 obtain ⟨uc,huc⟩:∃ u,(calledL p)[i]?=some u:=⟨_,List.getElem?_eq_getElem ZO⟩
 obtain ⟨e3,cs3,hEc⟩:=hCl.elm huc
 obtain rfl:=(show cs3=[Value.bool uc] from hEc.K)
 obtain ⟨um,hum⟩:∃ u,(memF p free)[i]?=some u:=⟨_,List.getElem?_eq_getElem ZO⟩
 obtain ⟨e4,cs4,hEm⟩:=hM.elm hum
 obtain rfl:=(show cs4=[Value.bool um] from hEm.K)
 refine Zj (Za (Zh (Zk (Zh (Zi (Zp rfl (ZS0 (t:=10) (v':=.bool (gTo p free i l 0)) rfl (by rw [← gTo_zero]) ?_)))))))
 refine Zn (Za (Zk (wLoop (ι:=Nat) (fun j=>[(2,.pointer (some ⟨b2,0,none⟩)),(5,.slice A8 p.fFuns.length c8),(6,.slice C8 p.fFuns.length d8),(7,.slice (some ⟨g21,0,none⟩) p.fFuns.length p.fFuns.length),(10,.bool (gTo p free i l j)),(11,.int .i64 (i:Int)),(12,.int .i64 (j:Int))]) (fun j=>[blk b2 29 (pcL p A0 c0 A1 c1)]) (fun j=>j≤l.length) (fun j=>l.length-j) 0 ?_ cv Lh ?_)))
 exact Nat.zero_le _
 rintro j hj
 try dsimp only
 refine Zh (Zh (Zi (Zo J (Zo J (Zo J (oIdxE J J (hEg) ZO J J ?_))))))
 have hc69:=(hEg).cell
 refine Zlx hc69 ?_
 refine Zv J J (Zx J J (Zn (Za (wC (fun h72=>?_) (fun h72=>?_)))))
 obtain ⟨y,hy⟩:∃ y,l[j]?=some y:=⟨_,List.getElem?_eq_getElem ZO⟩
 obtain ⟨e5,cs5,hEy⟩:=hCr.elm hy
 obtain rfl:=(show cs5=[Value.int .i64 y] from hEy.K)
 obtain ⟨yc,rfl,hyl⟩:=eg_in (p:=p) (i:=i) ZO (x:=y) (by rw [getD_at hl];exact List.mem_of_getElem? hy)
 have hub:=worst_ub (g:=graphF p) (ib:=memF p free) (frm_ub hsm) (p.fFuns.length+1) (yc:Int) []
 rw [show worstN (graphF p) (memF p free) (frmL p) (p.fFuns.length+1) (yc:Int) []=wE p free (yc:Int) from rfl] at hub
 refine Zj (Za (Zh (Zk (Zh (wDrawG J [0,1,2,3,4,5,6,7,8,9] [(10,[],[])] [11] 24 ZK J J (fun w0=>?_))))))
 refine Zla ?_
 refine Zo J (Zo J (Zo J (Zo J (oIdxE J J (hEg) ZO J J ?_))))
 have hc80:=(hEg).cell
 refine Zlx hc80 ?_
 refine Zo J (oIdxE J J (hEy) ZO J J ?_)
 have hc83:=(hEy).cell
 refine Zlx hc83 ?_
 refine Z4 (Z5 J ?_)
 (refine ZC0 rfl ZK (fun w hS=>frame hS ZQ (fun B' hB hS'=>worst_any hsm free (p.fFuns.length+1) hS' _ (gPg hB hp) A8 c8 (Kd.C_grow hB hG) (some ⟨g21,0,none⟩) p.fFuns.length (Kd.C_grow hB hM) yc hyl none 0 [] (Kd.C_nil _ _ _) (by have:=cntM_nil p;omega) (by simp only [List.length_nil];omega))) ?_;rintro ⟨⟩ -)
 rw [show wN p free (p.fFuns.length+1) (yc:Int) []=wE p free (yc:Int) from rfl]
 refine ZG ?_ J (fun w0=>?_)
 exact AgainG.nil
 refine Z6 (Zp J (Zn (Za (Zi (Zo J (Zo J (ZS (ZT 87) (fun h87=>?_) (fun h87=>?_))))))))
 refine Zq J J (Zo J (Zq J J (Zo J (Zq J J (oIdxE J J (hEc) ZO J J ?_)))))
 have hc90:=(hEc).cell
 refine Zq J J (Zlx hc90 ?_)
 refine Zq J J (Zno ?_)
 refine Zq J J (Zo J (ZS (ZT 93) (fun h93=>?_) (fun h93=>?_)))
 refine Zr J J J J (Zr J J J J (Zr J J J J (Zs J J J (Zs J J J (Zs J J J (Zs J J J (Zs J J J (Zs J J J (Zs J J J (Zs J J J (Zs J J J (Zr J J J J (Zq J J (Zt J J (Zt J J ?_)))))))))))))))
 refine ZS0 (t:=108) (v':=.bool (gTo p free i l j && edgeOk p free i (yc:Int))) rfl (by rw [show gTo p free i l j=true from h87];unfold edgeOk;rw [getD_at huc,show uc=false by simpa using h93];rfl) ?_
 refine Zp J (Zn (Zzd ?_))
 refine Zp J ?_
 skip
 refine Zn (Za ?_)
 exact ⟨rfl,j+1,by omega,by omega,by rw [gTo_succ hy];exact cv,Lh⟩
 refine Zq J J (Zo J (Zq J J (Z2 J J (Zq J J (Zo J (ZS (ZT 96) (fun h96=>?_) (fun h96=>?_)))))))
 refine Zq J J (Zo J (Zq J J (Zo J (Zq J J (oIdxE J J (hEm) ZO J J ?_)))))
 have hc99:=(hEm).cell
 refine Zq J J (Zlx hc99 ?_)
 refine Zq J J (Zo J (ZS (ZT 101) (fun h101=>?_) (fun h101=>?_)))
 refine Zr J J J J (Zr J J J J (Zr J J J J (Zq J J (Zt J J (Zq J J (Zt J J (Zq J J (Zu J J (Zt J J ?_)))))))))
 refine ZS0 (t:=108) (v':=.bool (gTo p free i l j && edgeOk p free i (yc:Int))) rfl (by rw [show gTo p free i l j=true from h87];unfold edgeOk;rw [getD_at huc,show uc=true by simpa using h93,decide_eq_true (p:=0≤wE p free (yc:Int)) (by first | exact h96 | omega),getD_at hum,show um=true from h101];rfl) ?_
 refine Zp J (Zn (Zzd ?_))
 refine Zp J ?_
 skip
 refine Zn (Za ?_)
 exact ⟨rfl,j+1,by omega,by omega,by rw [gTo_succ hy];exact cv,Lh⟩
 refine Zq J J (Zo J (Zq J J ?_))
 first | refine oAdd rfl rfl ZO ?_ | refine oAddW rfl rfl ?_
 refine Zq J J (oLeq J J (Zq J J (Zu J J (Zq J J (Zt J J (Zq J J (Zu J J (Zt J J ?_))))))))
 refine ZS0 (t:=108) (v':=.bool (gTo p free i l j && edgeOk p free i (yc:Int))) rfl (by rw [show gTo p free i l j=true from h87];unfold edgeOk;rw [getD_at huc,show uc=true by simpa using h93,decide_eq_true (p:=0≤wE p free (yc:Int)) (by first | exact h96 | omega),getD_at hum,show um=false from h101];rfl) ?_
 refine Zp J (Zn (Zzd ?_))
 refine Zp J ?_
 skip
 refine Zn (Za ?_)
 exact ⟨rfl,j+1,by omega,by omega,by rw [gTo_succ hy];exact cv,Lh⟩
 refine Zr J J J J (Zr J J J J (Zr J J J J (Zr J J J J (Zr J J J J (Zs J J J (Zs J J J (Zs J J J (Zr J J J J (Zq J J (Zu J J (Zq J J (Zu J J (Zt J J ?_)))))))))))))
 refine ZS0 (t:=108) (v':=.bool (gTo p free i l j && edgeOk p free i (yc:Int))) rfl (by rw [show gTo p free i l j=true from h87];unfold edgeOk;rw [getD_at huc,show uc=true by simpa using h93,decide_eq_false (p:=0≤wE p free (yc:Int)) (by first | exact h96 | omega)];rfl) ?_
 refine Zp J (Zn (Zzd ?_))
 refine Zp J ?_
 skip
 refine Zn (Za ?_)
 exact ⟨rfl,j+1,by omega,by omega,by rw [gTo_succ hy];exact cv,Lh⟩
 refine Zr J J J J (Zr J J J J (Zr J J J J (Zr J J J J (Zr J J J J (Zr J J J J (Zs J J J (Zs J J J (Zs J J J (Zs J J J (Zs J J J (Zs J J J (Zs J J J (Zs J J J (Zs J J J (Zs J J J (Zs J J J (Zs J J J (Zs J J J (Zr J J J J (Zu J J ?_))))))))))))))))))))
 refine ZS0 (t:=108) (v':=.bool (gTo p free i l j && edgeOk p free i (yc:Int))) rfl (by rw [show gTo p free i l j=false from h87];rfl) ?_
 refine Zp J (Zn (Zzd ?_))
 refine Zp J ?_
 skip
 refine Zn (Za ?_)
 exact ⟨rfl,j+1,by omega,by omega,by rw [gTo_succ hy];exact cv,Lh⟩
 obtain rfl:j=l.length:=by omega
 refine Zm (Zb (Zb (Ze (Zzd ?_))))
 refine Zp J (Zn (Za ?_))
 exact ⟨rfl,i+1,by omega,by omega,by rw [← gTo_all hl];exact cv,Lh⟩
 obtain rfl:i=p.fFuns.length:=by omega
 refine Zm (Zzf ?_)
 exact ⟨(),trivial,by rw [fTo_all];rfl,Lh⟩
theorem two_ch1:(chN twoP).1=[true,true,false,false]:=by rw [two_ch]
theorem two_ch2:(chN twoP).2=1:=by rw [two_ch]
theorem known31 {B:Base}{w:World}(hS:St B [] w) :
 CW 50 #[] w (Ret B (fun _:Unit=>True) (fun _=>.bool true) (fun _=>[])):=by
 refine ZX Tryz.func50 hS ?_
 refine Zh (Zi (Zp J (Zn (Za (Zh (Zi ?_))))))
 (refine ZC0 rfl ZK (fun w hS=>frame hS ZQ (fun B' hB hS'=>law_Two hS' B.e)) ?_;rintro ⟨A2,S2⟩ -)
 refine oAlloc J ZP (fun b1=>?_)
 refine Zsa ?_
 refine Zn (Zzl ?_)
 (refine ZD J (fun w B' hB hR hS'=>elide_Order hS' twoP _ (two_K (A:=A2) (rdr_C (hR _ _ ZP) hB) (by decide)) two_small B.e) ?_;rintro ⟨A4,c4⟩ -)
 rw [two_ord]
 refine oBuildSliceF (Parts.cons J (Parts.cons J Parts.nil)) J J J J J (Fulls.cons ZP J (Fulls.cons ZP J Fulls.nil ap) ap) (fun b5=>?_)
 refine oConv (blk_row (enc:=Value.int .i64) (h1:=fun _=>J) (W:=B.e) (xs:=([0,2]:List Int)) (n:=2) ZP J J (by decide)) ?_
 (refine ZD J (fun w B' hB hR hS'=>ints_any hS' A4 c4 [0,2] (row_Cs (W:=B.e) (e:=3) (A:=A4) (n:=([0,2]:List Int).length) (cp:=c4) (xs:=[0,2]) (hR _ _ ZP)) (some ⟨b5,0,none⟩) 2 [0,2] (row_Cs (W:=B.e) (e:=3) (A:=(some ⟨b5,0,none⟩)) (n:=2) (cp:=2) (xs:=[0,2]) (hR _ _ ZP))) ?_;rintro ⟨⟩ -)
 rw [show decide (([0,2]:List Int)=[0,2])=true by decide]
 refine Zo J (Zq J J (Zla ?_))
 refine Zq J J ?_
 (refine ZD J (fun w B' hB hR hS'=>elide_Free hS' twoP _ (two_K (A:=A2) (rdr_C (hR _ _ ZP) hB) (by decide)) two_small B.e) ?_;rintro ⟨A9,c9⟩ -)
 rw [two_ch1]
 refine Zq J J ?_
 refine oBuildSliceF (Parts.cons J (Parts.cons J (Parts.cons J (Parts.cons J Parts.nil)))) J J J J J (Fulls.cons ZP J (Fulls.cons ZP J (Fulls.cons ZP J (Fulls.cons ZP J Fulls.nil ap) ap) ap) ap) (fun b10=>?_)
 refine oConv (blk_row (enc:=Value.bool) (h1:=fun _=>J) (W:=B.e) (xs:=([true,true,false,false]:List Bool)) (n:=4) ZP J J (by decide)) ?_
 refine Zq J J ?_
 (refine ZD J (fun w B' hB hR hS'=>ref01_Bools hS' [true,true,false,false] A9 c9 (row_Cs (W:=B.e) (e:=4) (A:=A9) (n:=twoP.fFuns.length) (cp:=c9) (xs:=[true,true,false,false]) (hR _ _ ZP)) (some ⟨b10,0,none⟩) 4 (row_Cs (W:=B.e) (e:=4) (A:=(some ⟨b10,0,none⟩)) (n:=4) (cp:=4) (xs:=[true,true,false,false]) (hR _ _ ZP))) ?_;rintro ⟨⟩ -)
 refine Zt J J (Zo J (Zq J J (Zla ?_)))
 refine Zq J J ?_
 (refine ZD J (fun w B' hB hR hS'=>elide_Saved hS' twoP _ (two_K (A:=A2) (rdr_C (hR _ _ ZP) hB) (by decide)) two_small B.e) ?_;rintro ⟨⟩ -)
 rw [two_ch2]
 refine Zq J J (Zy J J (ZS0 (t:=16) (v':=.bool true) J (by simp) ?_))
 refine Zt J J (Zo J (Zq J J (Zla ?_)))
 refine Zq J J ?_
 (refine ZD J (fun w B' hB hR hS'=>elide_Plan hS' twoP _ (two_K (A:=A2) (rdr_C (hR _ _ ZP) hB) (by decide)) two_small B.e) ?_;rintro ⟨⟨K1,k1⟩,⟨L1,l1⟩⟩ -)
 rw [two_keep,two_chk]
 refine Zq J J ?_
 refine oBuildSliceF (Parts.cons J (Parts.cons J (Parts.cons J (Parts.cons J Parts.nil)))) J J J J J (Fulls.cons ZP J (Fulls.cons ZP J (Fulls.cons ZP J (Fulls.cons ZP J Fulls.nil ap) ap) ap) ap) (fun b21=>?_)
 refine oConv (blk_row (enc:=Value.bool) (h1:=fun _=>J) (W:=B.e) (xs:=([true,true,true,false]:List Bool)) (n:=4) ZP J J (by decide)) ?_
 refine Zq J J ?_
 refine oBuildSliceF (Parts.cons J (Parts.cons J (Parts.cons J (Parts.cons J Parts.nil)))) J J J J J (Fulls.cons ZP J (Fulls.cons ZP J (Fulls.cons ZP J (Fulls.cons ZP J Fulls.nil ap) ap) ap) ap) (fun b22=>?_)
 refine oConv (blk_row (enc:=Value.int .i64) (h1:=fun _=>J) (W:=B.e) (xs:=([0,0,3,1]:List Int)) (n:=4) ZP J J (by decide)) ?_
 refine Zq J J (oBuild (Parts.cons J (Parts.cons J Parts.nil)) J J (Built.cons (off:=0) (s:=1) J ZP J ZP (Built.cons (off:=1) (s:=1) J ZP J ZP Built.nil)) ?_)
 refine Zq J J ?_
 (refine ZD J (fun w B' hB hR hS'=>ref28_Same hS' [true,true,true,false] [0,0,3,1] K1 L1 (some ⟨b21,0,none⟩) (some ⟨b22,0,none⟩) 4 4 k1 l1 4 4 rfl rfl (row_Cs (W:=B.e) (e:=4) (A:=K1) (n:=twoP.fFuns.length) (cp:=k1) (xs:=[true,true,true,false]) (hR _ _ ZP)) (row_Cs (W:=B.e) (e:=3) (A:=L1) (n:=twoP.fFuns.length) (cp:=l1) (xs:=[0,0,3,1]) (hR _ _ ZP)) (row_Cs (W:=B.e) (e:=4) (A:=(some ⟨b21,0,none⟩)) (n:=4) (cp:=4) (xs:=[true,true,true,false]) (hR _ _ ZP)) (row_Cs (W:=B.e) (e:=3) (A:=(some ⟨b22,0,none⟩)) (n:=4) (cp:=4) (xs:=[0,0,3,1]) (hR _ _ ZP))) ?_;rintro ⟨⟩ -)
 refine Zt J J (Zza ?_)
 exact ⟨(),trivial,rfl,Lh⟩
theorem law31_few {B:Base}{w:World}(hS:St B [] w) (A:Option Addr) (cp:Nat) (l:List ApiObject) (W0:World) (hW:Grow W0 B.e) (hC0:kApiObject.C W0 A l) (hv:∀ o ∈ l,vApiObject o) :
 CW 49 #[.slice A l.length cp] w (Ret B (fun z:PZ×Int×Bool=>z.1.ok∧(z.2.2=true→SmallP (z.1.prog z.2.1)∧z.1.prog z.2.1=bindP l mainS∧(bindR l mainS).1=0)) (fun z=>.tuple #[.agg (z.1.cells z.2.1).toArray,.bool z.2.2]) (fun z=>[row kFunT W0 49 (.slice z.1.Af z.1.ft.length z.1.cf) z.1.ft,bun (rws (Kd.int .i64) W0 3 (z.1.ft.map hdT) z.1.fr),row kDatT W0 98 (.slice z.1.Ad z.1.dt.length z.1.cd) z.1.dt,bun (rws (Kd.int .i64) W0 3 (z.1.dt.map hdT) z.1.dr)])):=by
 have hC:=Kd.C_grow hW hC0
 refine ZX Tryz.func49 hS ?_
 refine Zh (Zi (oAlloc J ZP (fun b2=>?_)))
 refine Zp J (Zn (Za (Zh (Zh (Zi (Zo J ?_))))))
 (refine ZC0 rfl ZK (fun w hS=>frame hS ZQ (fun B' hB hS'=>ref24_Few hS' A cp l (Kd.C_grow hB hC))) ?_;rintro r7 h7)
 refine Zno ?_
 refine Zn (Za (wC (fun h8=>?_) (fun h8=>?_)))
 refine Zh (Zi (oBuild Parts.nil J J Built.nil (Zsa ?_)))
 refine Zp J (Zn (Za (Zl (Zc (Zw (ZI2 ?_))))))
 exact ⟨(⟨none,0,[],[],none,0,[],[]⟩,0,false),⟨⟨rfl,rfl⟩,fun h=>by cases h⟩,rfl,(Leads.nilrow.trans (bun_nil.trans (Leads.nilrow.trans (bun_nil.trans Lh))))⟩
 have hsm:FewO l:=h7 (by simpa using h8)
 refine Zj (Zzo ?_)
 (refine ZC0 rfl ZK (fun w hS=>frame hS ZQ (fun B' hB hS'=>ref24_Bind hS' A cp l W0 (hW.trans hB) hC0 hv hsm mainS)) ?_;rintro z ⟨hz,hzp⟩)
 obtain ⟨Af,cf,ft,fr,Ad,cd,dt,dr⟩:=z
 have hz1:=hz.f
 have hz3:=hz.d
 dsimp only [PZ.cells] at hz1 hz3 ⊢
 refine Zo J (oExt J ZP ?_)
 refine oExt J ZP ?_
 refine oAlloc J ZP (fun b4=>?_)
 refine oAlloc J ZP (fun b5=>?_)
 refine Zsa ?_
 refine Zsa ?_
 refine Zn (Za (Zh (wDrawN J J (ZM (i:=0) (rs:=[1]) ZK ?_))))
 refine ZA J ?_ ?_
 refine Zla ?_
 refine Z7 (ZM (i:=1) (rs:=[]) ZK ?_)
 refine ZA J ?_ ?_
 refine Zz (n:=0) (m:=0) J J J (Z7 (ZM (i:=2) (rs:=[]) ZK ?_))
 refine ZA J ?_ ?_
 refine Zld ?_
 refine Z7 (ZM (i:=3) (rs:=[]) ZK ?_)
 refine ZA J ?_ ?_
 refine Zy J J (Z7 (ZM (i:=4) (rs:=[]) ZK ?_))
 refine ZA J ?_ ?_
 refine Zo J (Z7 (ZM (i:=5) (rs:=[]) ZK ?_))
 refine ZA J ?_ ?_
 refine ZS (ZT 19) (fun h19=>?_) (fun h19=>?_)
 refine Zq J J (Zla ?_)
 refine Z7 (ZM (i:=6) (rs:=[]) ZK ?_)
 refine ZA J ?_ ?_
 refine Zq J J ?_
 (refine ZD J (fun w B' hB hR hS'=>ref25_Few hS' (bindP l mainS) _ (by have h:=prog_K (z:=⟨Af,cf,ft,fr,Ad,cd,dt,dr⟩) hz (hR _ _ ZP) (hR _ _ ZP) (hR _ _ ZP) (hR _ _ ZP) (hW.trans hB) (bindP l mainS).fEntry;rw [hzp] at h;exact h)) ?_;rintro r28 h28)
 refine Z7 (ZM (i:=7) (rs:=[8]) ZK ?_)
 refine ZA J ?_ ?_
 refine Zt J J (Z7 (ZM (i:=8) (rs:=[]) ZK ?_))
 refine ZA J ?_ ?_
 refine Zsa ?_
 refine Z7 (ZM (i:=9) (rs:=[]) ZK ?_)
 refine ZA J ?_ ?_
 refine Zp J (Z7 (anNil ZK ?_))
 refine Za (Zzy ?_)
 exact ⟨(⟨Af,cf,ft,fr,Ad,cd,dt,dr⟩,(bindP l mainS).fEntry,r28),⟨hz,fun h=>⟨by rw [hzp];exact h28 h,hzp,by first | exact h19 | exact of_decide_eq_true h19 | simpa using h19⟩⟩,rfl,Lh⟩
 exact ZB
 exact ZB
 refine ZA J ?_ ?_
 refine Zsa ?_
 refine Z7 (ZM (i:=7) (rs:=[]) ZK ?_)
 refine ZA J ?_ ?_
 refine Zt J J (Z7 (ZM (i:=9) (rs:=[]) ZK ?_))
 refine ZA J ?_ ?_
 refine Zp J (Z7 (anNil ZK ?_))
 refine Za (Zzy ?_)
 exact ⟨(⟨Af,cf,ft,fr,Ad,cd,dt,dr⟩,(bindP l mainS).fEntry,r28),⟨hz,fun h=>⟨by rw [hzp];exact h28 h,hzp,by first | exact h19 | exact of_decide_eq_true h19 | simpa using h19⟩⟩,rfl,Lh⟩
 exact ZB
 exact ZB
 exact ZB
 exact ZB
 refine Zr J J J J (Z7 (ZM (i:=6) (rs:=[]) ZK ?_))
 refine ZA J ?_ ?_
 refine Zr J J J J (Z7 (ZM (i:=7) (rs:=[8]) ZK ?_))
 refine ZA J ?_ ?_
 refine Zu J J (Z7 (ZM (i:=8) (rs:=[]) ZK ?_))
 refine ZA J ?_ ?_
 refine Zsa ?_
 refine Z7 (ZM (i:=9) (rs:=[]) ZK ?_)
 refine ZA J ?_ ?_
 refine Zp J (Z7 (anNil ZK ?_))
 refine Za (Zzy ?_)
 exact ⟨(⟨Af,cf,ft,fr,Ad,cd,dt,dr⟩,(bindP l mainS).fEntry,false),⟨hz,fun h=>by cases h⟩,rfl,Lh⟩
 exact ZB
 exact ZB
 refine ZA J ?_ ?_
 refine Zsa ?_
 refine Z7 (ZM (i:=7) (rs:=[]) ZK ?_)
 refine ZA J ?_ ?_
 refine Zu J J (Z7 (ZM (i:=9) (rs:=[]) ZK ?_))
 refine ZA J ?_ ?_
 refine Zp J (Z7 (anNil ZK ?_))
 refine Za (Zzy ?_)
 exact ⟨(⟨Af,cf,ft,fr,Ad,cd,dt,dr⟩,(bindP l mainS).fEntry,false),⟨hz,fun h=>by cases h⟩,rfl,Lh⟩
 exact ZB
 exact ZB
 exact ZB
 exact ZB
 exact ZB
 exact ZB
 exact ZB
 exact ZB
 exact ZB
 refine ZA J ?_ ?_
 refine Zz (n:=0) (m:=0) J J J (Z7 (ZM (i:=0) (rs:=[2]) ZK ?_))
 refine ZA J ?_ ?_
 refine Zla ?_
 refine Z7 (ZM (i:=2) (rs:=[]) ZK ?_)
 refine ZA J ?_ ?_
 refine Zld ?_
 refine Z7 (ZM (i:=3) (rs:=[]) ZK ?_)
 refine ZA J ?_ ?_
 refine Zy J J (Z7 (ZM (i:=4) (rs:=[]) ZK ?_))
 refine ZA J ?_ ?_
 refine Zo J (Z7 (ZM (i:=5) (rs:=[]) ZK ?_))
 refine ZA J ?_ ?_
 refine ZS (ZT 19) (fun h19=>?_) (fun h19=>?_)
 refine Zq J J (Zla ?_)
 refine Z7 (ZM (i:=6) (rs:=[]) ZK ?_)
 refine ZA J ?_ ?_
 refine Zq J J ?_
 (refine ZD J (fun w B' hB hR hS'=>ref25_Few hS' (bindP l mainS) _ (by have h:=prog_K (z:=⟨Af,cf,ft,fr,Ad,cd,dt,dr⟩) hz (hR _ _ ZP) (hR _ _ ZP) (hR _ _ ZP) (hR _ _ ZP) (hW.trans hB) (bindP l mainS).fEntry;rw [hzp] at h;exact h)) ?_;rintro r28 h28)
 refine Z7 (ZM (i:=7) (rs:=[8]) ZK ?_)
 refine ZA J ?_ ?_
 refine Zt J J (Z7 (ZM (i:=8) (rs:=[]) ZK ?_))
 refine ZA J ?_ ?_
 refine Zsa ?_
 refine Z7 (ZM (i:=9) (rs:=[]) ZK ?_)
 refine ZA J ?_ ?_
 refine Zp J (Z7 (anNil ZK ?_))
 refine Za (Zzy ?_)
 exact ⟨(⟨Af,cf,ft,fr,Ad,cd,dt,dr⟩,(bindP l mainS).fEntry,r28),⟨hz,fun h=>⟨by rw [hzp];exact h28 h,hzp,by first | exact h19 | exact of_decide_eq_true h19 | simpa using h19⟩⟩,rfl,Lh⟩
 exact ZB
 exact ZB
 refine ZA J ?_ ?_
 refine Zsa ?_
 refine Z7 (ZM (i:=7) (rs:=[]) ZK ?_)
 refine ZA J ?_ ?_
 refine Zt J J (Z7 (ZM (i:=9) (rs:=[]) ZK ?_))
 refine ZA J ?_ ?_
 refine Zp J (Z7 (anNil ZK ?_))
 refine Za (Zzy ?_)
 exact ⟨(⟨Af,cf,ft,fr,Ad,cd,dt,dr⟩,(bindP l mainS).fEntry,r28),⟨hz,fun h=>⟨by rw [hzp];exact h28 h,hzp,by first | exact h19 | exact of_decide_eq_true h19 | simpa using h19⟩⟩,rfl,Lh⟩
 exact ZB
 exact ZB
 exact ZB
 exact ZB
 refine Zr J J J J (Z7 (ZM (i:=6) (rs:=[]) ZK ?_))
 refine ZA J ?_ ?_
 refine Zr J J J J (Z7 (ZM (i:=7) (rs:=[8]) ZK ?_))
 refine ZA J ?_ ?_
 refine Zu J J (Z7 (ZM (i:=8) (rs:=[]) ZK ?_))
 refine ZA J ?_ ?_
 refine Zsa ?_
 refine Z7 (ZM (i:=9) (rs:=[]) ZK ?_)
 refine ZA J ?_ ?_
 refine Zp J (Z7 (anNil ZK ?_))
 refine Za (Zzy ?_)
 exact ⟨(⟨Af,cf,ft,fr,Ad,cd,dt,dr⟩,(bindP l mainS).fEntry,false),⟨hz,fun h=>by cases h⟩,rfl,Lh⟩
 exact ZB
 exact ZB
 refine ZA J ?_ ?_
 refine Zsa ?_
 refine Z7 (ZM (i:=7) (rs:=[]) ZK ?_)
 refine ZA J ?_ ?_
 refine Zu J J (Z7 (ZM (i:=9) (rs:=[]) ZK ?_))
 refine ZA J ?_ ?_
 refine Zp J (Z7 (anNil ZK ?_))
 refine Za (Zzy ?_)
 exact ⟨(⟨Af,cf,ft,fr,Ad,cd,dt,dr⟩,(bindP l mainS).fEntry,false),⟨hz,fun h=>by cases h⟩,rfl,Lh⟩
 exact ZB
 exact ZB
 exact ZB
 exact ZB
 exact ZB
 exact ZB
 exact ZB
 exact ZB
 refine ZA J ?_ ?_
 refine Zld ?_
 refine Z7 (ZM (i:=0) (rs:=[3]) ZK ?_)
 refine ZA J ?_ ?_
 refine Zla ?_
 refine Z7 (ZM (i:=3) (rs:=[]) ZK ?_)
 refine ZA J ?_ ?_
 refine Zy J J (Z7 (ZM (i:=4) (rs:=[]) ZK ?_))
 refine ZA J ?_ ?_
 refine Zo J (Z7 (ZM (i:=5) (rs:=[]) ZK ?_))
 refine ZA J ?_ ?_
 refine ZS (ZT 19) (fun h19=>?_) (fun h19=>?_)
 refine Zq J J (Zla ?_)
 refine Z7 (ZM (i:=6) (rs:=[]) ZK ?_)
 refine ZA J ?_ ?_
 refine Zq J J ?_
 (refine ZD J (fun w B' hB hR hS'=>ref25_Few hS' (bindP l mainS) _ (by have h:=prog_K (z:=⟨Af,cf,ft,fr,Ad,cd,dt,dr⟩) hz (hR _ _ ZP) (hR _ _ ZP) (hR _ _ ZP) (hR _ _ ZP) (hW.trans hB) (bindP l mainS).fEntry;rw [hzp] at h;exact h)) ?_;rintro r28 h28)
 refine Z7 (ZM (i:=7) (rs:=[8]) ZK ?_)
 refine ZA J ?_ ?_
 refine Zt J J (Z7 (ZM (i:=8) (rs:=[]) ZK ?_))
 refine ZA J ?_ ?_
 refine Zsa ?_
 refine Z7 (ZM (i:=9) (rs:=[]) ZK ?_)
 refine ZA J ?_ ?_
 refine Zp J (Z7 (anNil ZK ?_))
 refine Za (Zzy ?_)
 exact ⟨(⟨Af,cf,ft,fr,Ad,cd,dt,dr⟩,(bindP l mainS).fEntry,r28),⟨hz,fun h=>⟨by rw [hzp];exact h28 h,hzp,by first | exact h19 | exact of_decide_eq_true h19 | simpa using h19⟩⟩,rfl,Lh⟩
 exact ZB
 exact ZB
 refine ZA J ?_ ?_
 refine Zsa ?_
 refine Z7 (ZM (i:=7) (rs:=[]) ZK ?_)
 refine ZA J ?_ ?_
 refine Zt J J (Z7 (ZM (i:=9) (rs:=[]) ZK ?_))
 refine ZA J ?_ ?_
 refine Zp J (Z7 (anNil ZK ?_))
 refine Za (Zzy ?_)
 exact ⟨(⟨Af,cf,ft,fr,Ad,cd,dt,dr⟩,(bindP l mainS).fEntry,r28),⟨hz,fun h=>⟨by rw [hzp];exact h28 h,hzp,by first | exact h19 | exact of_decide_eq_true h19 | simpa using h19⟩⟩,rfl,Lh⟩
 exact ZB
 exact ZB
 exact ZB
 exact ZB
 refine Zr J J J J (Z7 (ZM (i:=6) (rs:=[]) ZK ?_))
 refine ZA J ?_ ?_
 refine Zr J J J J (Z7 (ZM (i:=7) (rs:=[8]) ZK ?_))
 refine ZA J ?_ ?_
 refine Zu J J (Z7 (ZM (i:=8) (rs:=[]) ZK ?_))
 refine ZA J ?_ ?_
 refine Zsa ?_
 refine Z7 (ZM (i:=9) (rs:=[]) ZK ?_)
 refine ZA J ?_ ?_
 refine Zp J (Z7 (anNil ZK ?_))
 refine Za (Zzy ?_)
 exact ⟨(⟨Af,cf,ft,fr,Ad,cd,dt,dr⟩,(bindP l mainS).fEntry,false),⟨hz,fun h=>by cases h⟩,rfl,Lh⟩
 exact ZB
 exact ZB
 refine ZA J ?_ ?_
 refine Zsa ?_
 refine Z7 (ZM (i:=7) (rs:=[]) ZK ?_)
 refine ZA J ?_ ?_
 refine Zu J J (Z7 (ZM (i:=9) (rs:=[]) ZK ?_))
 refine ZA J ?_ ?_
 refine Zp J (Z7 (anNil ZK ?_))
 refine Za (Zzy ?_)
 exact ⟨(⟨Af,cf,ft,fr,Ad,cd,dt,dr⟩,(bindP l mainS).fEntry,false),⟨hz,fun h=>by cases h⟩,rfl,Lh⟩
 exact ZB
 exact ZB
 exact ZB
 exact ZB
 exact ZB
 exact ZB
 exact ZB
 refine ZA J ?_ ?_
 refine Zy J J (Z7 (ZM (i:=0) (rs:=[4]) ZK ?_))
 refine ZA J ?_ ?_
 refine Zla ?_
 refine Z7 (ZM (i:=4) (rs:=[]) ZK ?_)
 refine ZA J ?_ ?_
 refine Zo J (Z7 (ZM (i:=5) (rs:=[]) ZK ?_))
 refine ZA J ?_ ?_
 refine ZS (ZT 19) (fun h19=>?_) (fun h19=>?_)
 refine Zq J J (Zla ?_)
 refine Z7 (ZM (i:=6) (rs:=[]) ZK ?_)
 refine ZA J ?_ ?_
 refine Zq J J ?_
 (refine ZD J (fun w B' hB hR hS'=>ref25_Few hS' (bindP l mainS) _ (by have h:=prog_K (z:=⟨Af,cf,ft,fr,Ad,cd,dt,dr⟩) hz (hR _ _ ZP) (hR _ _ ZP) (hR _ _ ZP) (hR _ _ ZP) (hW.trans hB) (bindP l mainS).fEntry;rw [hzp] at h;exact h)) ?_;rintro r28 h28)
 refine Z7 (ZM (i:=7) (rs:=[8]) ZK ?_)
 refine ZA J ?_ ?_
 refine Zt J J (Z7 (ZM (i:=8) (rs:=[]) ZK ?_))
 refine ZA J ?_ ?_
 refine Zsa ?_
 refine Z7 (ZM (i:=9) (rs:=[]) ZK ?_)
 refine ZA J ?_ ?_
 refine Zp J (Z7 (anNil ZK ?_))
 refine Za (Zzy ?_)
 exact ⟨(⟨Af,cf,ft,fr,Ad,cd,dt,dr⟩,(bindP l mainS).fEntry,r28),⟨hz,fun h=>⟨by rw [hzp];exact h28 h,hzp,by first | exact h19 | exact of_decide_eq_true h19 | simpa using h19⟩⟩,rfl,Lh⟩
 exact ZB
 exact ZB
 refine ZA J ?_ ?_
 refine Zsa ?_
 refine Z7 (ZM (i:=7) (rs:=[]) ZK ?_)
 refine ZA J ?_ ?_
 refine Zt J J (Z7 (ZM (i:=9) (rs:=[]) ZK ?_))
 refine ZA J ?_ ?_
 refine Zp J (Z7 (anNil ZK ?_))
 refine Za (Zzy ?_)
 exact ⟨(⟨Af,cf,ft,fr,Ad,cd,dt,dr⟩,(bindP l mainS).fEntry,r28),⟨hz,fun h=>⟨by rw [hzp];exact h28 h,hzp,by first | exact h19 | exact of_decide_eq_true h19 | simpa using h19⟩⟩,rfl,Lh⟩
 exact ZB
 exact ZB
 exact ZB
 exact ZB
 refine Zr J J J J (Z7 (ZM (i:=6) (rs:=[]) ZK ?_))
 refine ZA J ?_ ?_
 refine Zr J J J J (Z7 (ZM (i:=7) (rs:=[8]) ZK ?_))
 refine ZA J ?_ ?_
 refine Zu J J (Z7 (ZM (i:=8) (rs:=[]) ZK ?_))
 refine ZA J ?_ ?_
 refine Zsa ?_
 refine Z7 (ZM (i:=9) (rs:=[]) ZK ?_)
 refine ZA J ?_ ?_
 refine Zp J (Z7 (anNil ZK ?_))
 refine Za (Zzy ?_)
 exact ⟨(⟨Af,cf,ft,fr,Ad,cd,dt,dr⟩,(bindP l mainS).fEntry,false),⟨hz,fun h=>by cases h⟩,rfl,Lh⟩
 exact ZB
 exact ZB
 refine ZA J ?_ ?_
 refine Zsa ?_
 refine Z7 (ZM (i:=7) (rs:=[]) ZK ?_)
 refine ZA J ?_ ?_
 refine Zu J J (Z7 (ZM (i:=9) (rs:=[]) ZK ?_))
 refine ZA J ?_ ?_
 refine Zp J (Z7 (anNil ZK ?_))
 refine Za (Zzy ?_)
 exact ⟨(⟨Af,cf,ft,fr,Ad,cd,dt,dr⟩,(bindP l mainS).fEntry,false),⟨hz,fun h=>by cases h⟩,rfl,Lh⟩
 exact ZB
 exact ZB
 exact ZB
 exact ZB
 exact ZB
 exact ZB
 refine ZA J ?_ ?_
 refine Zo J (Z7 (ZM (i:=0) (rs:=[5]) ZK ?_))
 refine ZA J ?_ ?_
 refine Zla ?_
 refine Z7 (ZM (i:=5) (rs:=[]) ZK ?_)
 refine ZA J ?_ ?_
 refine ZS (ZT 19) (fun h19=>?_) (fun h19=>?_)
 refine Zq J J (Zla ?_)
 refine Z7 (ZM (i:=6) (rs:=[]) ZK ?_)
 refine ZA J ?_ ?_
 refine Zq J J ?_
 (refine ZD J (fun w B' hB hR hS'=>ref25_Few hS' (bindP l mainS) _ (by have h:=prog_K (z:=⟨Af,cf,ft,fr,Ad,cd,dt,dr⟩) hz (hR _ _ ZP) (hR _ _ ZP) (hR _ _ ZP) (hR _ _ ZP) (hW.trans hB) (bindP l mainS).fEntry;rw [hzp] at h;exact h)) ?_;rintro r28 h28)
 refine Z7 (ZM (i:=7) (rs:=[8]) ZK ?_)
 refine ZA J ?_ ?_
 refine Zt J J (Z7 (ZM (i:=8) (rs:=[]) ZK ?_))
 refine ZA J ?_ ?_
 refine Zsa ?_
 refine Z7 (ZM (i:=9) (rs:=[]) ZK ?_)
 refine ZA J ?_ ?_
 refine Zp J (Z7 (anNil ZK ?_))
 refine Za (Zzy ?_)
 exact ⟨(⟨Af,cf,ft,fr,Ad,cd,dt,dr⟩,(bindP l mainS).fEntry,r28),⟨hz,fun h=>⟨by rw [hzp];exact h28 h,hzp,by first | exact h19 | exact of_decide_eq_true h19 | simpa using h19⟩⟩,rfl,Lh⟩
 exact ZB
 exact ZB
 refine ZA J ?_ ?_
 refine Zsa ?_
 refine Z7 (ZM (i:=7) (rs:=[]) ZK ?_)
 refine ZA J ?_ ?_
 refine Zt J J (Z7 (ZM (i:=9) (rs:=[]) ZK ?_))
 refine ZA J ?_ ?_
 refine Zp J (Z7 (anNil ZK ?_))
 refine Za (Zzy ?_)
 exact ⟨(⟨Af,cf,ft,fr,Ad,cd,dt,dr⟩,(bindP l mainS).fEntry,r28),⟨hz,fun h=>⟨by rw [hzp];exact h28 h,hzp,by first | exact h19 | exact of_decide_eq_true h19 | simpa using h19⟩⟩,rfl,Lh⟩
 exact ZB
 exact ZB
 exact ZB
 exact ZB
 refine Zr J J J J (Z7 (ZM (i:=6) (rs:=[]) ZK ?_))
 refine ZA J ?_ ?_
 refine Zr J J J J (Z7 (ZM (i:=7) (rs:=[8]) ZK ?_))
 refine ZA J ?_ ?_
 refine Zu J J (Z7 (ZM (i:=8) (rs:=[]) ZK ?_))
 refine ZA J ?_ ?_
 refine Zsa ?_
 refine Z7 (ZM (i:=9) (rs:=[]) ZK ?_)
 refine ZA J ?_ ?_
 refine Zp J (Z7 (anNil ZK ?_))
 refine Za (Zzy ?_)
 exact ⟨(⟨Af,cf,ft,fr,Ad,cd,dt,dr⟩,(bindP l mainS).fEntry,false),⟨hz,fun h=>by cases h⟩,rfl,Lh⟩
 exact ZB
 exact ZB
 refine ZA J ?_ ?_
 refine Zsa ?_
 refine Z7 (ZM (i:=7) (rs:=[]) ZK ?_)
 refine ZA J ?_ ?_
 refine Zu J J (Z7 (ZM (i:=9) (rs:=[]) ZK ?_))
 refine ZA J ?_ ?_
 refine Zp J (Z7 (anNil ZK ?_))
 refine Za (Zzy ?_)
 exact ⟨(⟨Af,cf,ft,fr,Ad,cd,dt,dr⟩,(bindP l mainS).fEntry,false),⟨hz,fun h=>by cases h⟩,rfl,Lh⟩
 exact ZB
 exact ZB
 exact ZB
 exact ZB
 exact ZB
 refine ZA J ?_ ?_
 refine ZS (ZT 19) (fun h19=>?_) (fun h19=>?_)
 refine Zq J J (Zla ?_)
 refine Z7 (ZM (i:=0) (rs:=[6]) ZK ?_)
 refine ZA J ?_ ?_
 refine Zla ?_
 refine Z7 (ZM (i:=6) (rs:=[]) ZK ?_)
 refine ZA J ?_ ?_
 refine Zq J J ?_
 (refine ZD J (fun w B' hB hR hS'=>ref25_Few hS' (bindP l mainS) _ (by have h:=prog_K (z:=⟨Af,cf,ft,fr,Ad,cd,dt,dr⟩) hz (hR _ _ ZP) (hR _ _ ZP) (hR _ _ ZP) (hR _ _ ZP) (hW.trans hB) (bindP l mainS).fEntry;rw [hzp] at h;exact h)) ?_;rintro r28 h28)
 refine Z7 (ZM (i:=7) (rs:=[8]) ZK ?_)
 refine ZA J ?_ ?_
 refine Zt J J (Z7 (ZM (i:=8) (rs:=[]) ZK ?_))
 refine ZA J ?_ ?_
 refine Zsa ?_
 refine Z7 (ZM (i:=9) (rs:=[]) ZK ?_)
 refine ZA J ?_ ?_
 refine Zp J (Z7 (anNil ZK ?_))
 refine Za (Zzy ?_)
 exact ⟨(⟨Af,cf,ft,fr,Ad,cd,dt,dr⟩,(bindP l mainS).fEntry,r28),⟨hz,fun h=>⟨by rw [hzp];exact h28 h,hzp,by first | exact h19 | exact of_decide_eq_true h19 | simpa using h19⟩⟩,rfl,Lh⟩
 exact ZB
 exact ZB
 refine ZA J ?_ ?_
 refine Zsa ?_
 refine Z7 (ZM (i:=7) (rs:=[]) ZK ?_)
 refine ZA J ?_ ?_
 refine Zt J J (Z7 (ZM (i:=9) (rs:=[]) ZK ?_))
 refine ZA J ?_ ?_
 refine Zp J (Z7 (anNil ZK ?_))
 refine Za (Zzy ?_)
 exact ⟨(⟨Af,cf,ft,fr,Ad,cd,dt,dr⟩,(bindP l mainS).fEntry,r28),⟨hz,fun h=>⟨by rw [hzp];exact h28 h,hzp,by first | exact h19 | exact of_decide_eq_true h19 | simpa using h19⟩⟩,rfl,Lh⟩
 exact ZB
 exact ZB
 exact ZB
 exact ZB
 refine ZA J ?_ ?_
 refine Zq J J ?_
 (refine ZD J (fun w B' hB hR hS'=>ref25_Few hS' (bindP l mainS) _ (by have h:=prog_K (z:=⟨Af,cf,ft,fr,Ad,cd,dt,dr⟩) hz (hR _ _ ZP) (hR _ _ ZP) (hR _ _ ZP) (hR _ _ ZP) (hW.trans hB) (bindP l mainS).fEntry;rw [hzp] at h;exact h)) ?_;rintro r28 h28)
 refine Z7 (ZM (i:=0) (rs:=[7]) ZK ?_)
 refine ZA J ?_ ?_
 refine Zla ?_
 refine Z7 (ZM (i:=7) (rs:=[8]) ZK ?_)
 refine ZA J ?_ ?_
 refine Zt J J (Z7 (ZM (i:=8) (rs:=[]) ZK ?_))
 refine ZA J ?_ ?_
 refine Zsa ?_
 refine Z7 (ZM (i:=9) (rs:=[]) ZK ?_)
 refine ZA J ?_ ?_
 refine Zp J (Z7 (anNil ZK ?_))
 refine Za (Zzy ?_)
 exact ⟨(⟨Af,cf,ft,fr,Ad,cd,dt,dr⟩,(bindP l mainS).fEntry,r28),⟨hz,fun h=>⟨by rw [hzp];exact h28 h,hzp,by first | exact h19 | exact of_decide_eq_true h19 | simpa using h19⟩⟩,rfl,Lh⟩
 exact ZB
 exact ZB
 refine ZA J ?_ ?_
 refine Zsa ?_
 refine Z7 (ZM (i:=7) (rs:=[]) ZK ?_)
 refine ZA J ?_ ?_
 refine Zt J J (Z7 (ZM (i:=9) (rs:=[]) ZK ?_))
 refine ZA J ?_ ?_
 refine Zp J (Z7 (anNil ZK ?_))
 refine Za (Zzy ?_)
 exact ⟨(⟨Af,cf,ft,fr,Ad,cd,dt,dr⟩,(bindP l mainS).fEntry,r28),⟨hz,fun h=>⟨by rw [hzp];exact h28 h,hzp,by first | exact h19 | exact of_decide_eq_true h19 | simpa using h19⟩⟩,rfl,Lh⟩
 exact ZB
 exact ZB
 exact ZB
 refine ZA J ?_ ?_
 refine Zt J J (Z7 (ZM (i:=0) (rs:=[]) ZK ?_))
 refine ZA J ?_ ?_
 refine Zla ?_
 refine Z7 (ZM (i:=8) (rs:=[]) ZK ?_)
 refine ZA J ?_ ?_
 refine Zsa ?_
 refine Z7 (ZM (i:=9) (rs:=[]) ZK ?_)
 refine ZA J ?_ ?_
 refine Zp J (Z7 (anNil ZK ?_))
 refine Za (Zzy ?_)
 exact ⟨(⟨Af,cf,ft,fr,Ad,cd,dt,dr⟩,(bindP l mainS).fEntry,r28),⟨hz,fun h=>⟨by rw [hzp];exact h28 h,hzp,by first | exact h19 | exact of_decide_eq_true h19 | simpa using h19⟩⟩,rfl,Lh⟩
 exact ZB
 exact ZB
 exact ZB
 exact ZB
 exact ZB
 refine Zr J J J J (Z7 (ZM (i:=0) (rs:=[6]) ZK ?_))
 refine ZA J ?_ ?_
 refine Zla ?_
 refine Z7 (ZM (i:=6) (rs:=[]) ZK ?_)
 refine ZA J ?_ ?_
 refine Zr J J J J (Z7 (ZM (i:=7) (rs:=[8]) ZK ?_))
 refine ZA J ?_ ?_
 refine Zu J J (Z7 (ZM (i:=8) (rs:=[]) ZK ?_))
 refine ZA J ?_ ?_
 refine Zsa ?_
 refine Z7 (ZM (i:=9) (rs:=[]) ZK ?_)
 refine ZA J ?_ ?_
 refine Zp J (Z7 (anNil ZK ?_))
 refine Za (Zzy ?_)
 exact ⟨(⟨Af,cf,ft,fr,Ad,cd,dt,dr⟩,(bindP l mainS).fEntry,false),⟨hz,fun h=>by cases h⟩,rfl,Lh⟩
 exact ZB
 exact ZB
 refine ZA J ?_ ?_
 refine Zsa ?_
 refine Z7 (ZM (i:=7) (rs:=[]) ZK ?_)
 refine ZA J ?_ ?_
 refine Zu J J (Z7 (ZM (i:=9) (rs:=[]) ZK ?_))
 refine ZA J ?_ ?_
 refine Zp J (Z7 (anNil ZK ?_))
 refine Za (Zzy ?_)
 exact ⟨(⟨Af,cf,ft,fr,Ad,cd,dt,dr⟩,(bindP l mainS).fEntry,false),⟨hz,fun h=>by cases h⟩,rfl,Lh⟩
 exact ZB
 exact ZB
 exact ZB
 exact ZB
 refine ZA J ?_ ?_
 refine Zr J J J J (Z7 (ZM (i:=0) (rs:=[7]) ZK ?_))
 refine ZA J ?_ ?_
 refine Zla ?_
 refine Z7 (ZM (i:=7) (rs:=[8]) ZK ?_)
 refine ZA J ?_ ?_
 refine Zu J J (Z7 (ZM (i:=8) (rs:=[]) ZK ?_))
 refine ZA J ?_ ?_
 refine Zsa ?_
 refine Z7 (ZM (i:=9) (rs:=[]) ZK ?_)
 refine ZA J ?_ ?_
 refine Zp J (Z7 (anNil ZK ?_))
 refine Za (Zzy ?_)
 exact ⟨(⟨Af,cf,ft,fr,Ad,cd,dt,dr⟩,(bindP l mainS).fEntry,false),⟨hz,fun h=>by cases h⟩,rfl,Lh⟩
 exact ZB
 exact ZB
 refine ZA J ?_ ?_
 refine Zsa ?_
 refine Z7 (ZM (i:=7) (rs:=[]) ZK ?_)
 refine ZA J ?_ ?_
 refine Zu J J (Z7 (ZM (i:=9) (rs:=[]) ZK ?_))
 refine ZA J ?_ ?_
 refine Zp J (Z7 (anNil ZK ?_))
 refine Za (Zzy ?_)
 exact ⟨(⟨Af,cf,ft,fr,Ad,cd,dt,dr⟩,(bindP l mainS).fEntry,false),⟨hz,fun h=>by cases h⟩,rfl,Lh⟩
 exact ZB
 exact ZB
 exact ZB
 refine ZA J ?_ ?_
 refine Zu J J (Z7 (ZM (i:=0) (rs:=[]) ZK ?_))
 refine ZA J ?_ ?_
 refine Zla ?_
 refine Z7 (ZM (i:=8) (rs:=[]) ZK ?_)
 refine ZA J ?_ ?_
 refine Zsa ?_
 refine Z7 (ZM (i:=9) (rs:=[]) ZK ?_)
 refine ZA J ?_ ?_
 refine Zp J (Z7 (anNil ZK ?_))
 refine Za (Zzy ?_)
 exact ⟨(⟨Af,cf,ft,fr,Ad,cd,dt,dr⟩,(bindP l mainS).fEntry,false),⟨hz,fun h=>by cases h⟩,rfl,Lh⟩
 exact ZB
 exact ZB
 exact ZB
 exact ZB
 exact ZB
 exact ZB
 exact ZB
 exact ZB
 exact ZB
 exact ZB
theorem law_PathsN {B:Base}{w:World}(hS:St B [] w) (p:ApiProgram) (pc:List Value) (hp:kApiProgram.K B.e p pc) (hsm:SmallP p) (free:List Bool) (A':Option Addr) (c':Nat) (hF:Kd.bool.C B.e A' free) (e0:Nat) (he0:p.fEntry=(e0:Int)) (hel:e0<p.fFuns.length) {n:Nat}(hn:free.length=n) :
 CW 48 #[.agg pc.toArray,.slice A' n c'] w (Ret B (fun _:Unit=>True) (fun _=>.bool (pathsN p free)) (fun _=>[])):=by subst hn;exact law_Paths hS p pc hp hsm free A' c' hF e0 he0 hel
theorem elideSafe {B:Base}{w:World}(hS:St B [] w) (A:Option Addr) (cp:Nat) (l:List ApiObject) (hC:kApiObject.C B.e A l) (hv:∀ o ∈ l,vApiObject o) (more:Int) :
 CW 12 #[.slice A l.length cp,.int .i64 more] w (Ret B (fun _:Unit=>True) (fun _=>.bool true) (fun _=>[])):=by
 refine ZX Tryz.func12 hS ?_
 refine Zh (Zi (Zp J (Zn (Zzo ?_))))
 (refine ZC0 rfl ZK (fun w hS=>frame hS ZQ (fun B' hB hS'=>law31_few hS' A cp l B.e hB hC hv)) ?_;rintro ⟨z,e,ok⟩ ⟨hz,hzp⟩)
 dsimp only at hz hzp ⊢
 obtain ⟨Af,cf,ft,fr,Ad,cd,dt,dr⟩:=z
 have hz1:=hz.f
 have hz3:=hz.d
 dsimp only [PZ.cells] at hz1 hz3 ⊢
 obtain ⟨P,hP⟩:∃ P,P=PZ.prog ⟨Af,cf,ft,fr,Ad,cd,dt,dr⟩ e:=⟨_,rfl⟩
 rw [← hP] at hzp
 have hPf:funsOf ft fr=P.fFuns:=by rw [hP];rfl
 have hPd:datsOf dt dr=P.fDats:=by rw [hP];rfl
 have hPe:e=P.fEntry:=by rw [hP];rfl
 have hfl:ft.length=P.fFuns.length:=by rw [← hPf];exact (zip_len hz1).symm
 have hdl:dt.length=P.fDats.length:=by rw [← hPd];exact (zip_len hz3).symm
 rw [hfl,hdl]
 clear hP hz
 subst hPe
 refine Zo J (oExt J ZP ?_)
 refine oExt J ZP ?_
 refine oAlloc J ZP (fun b5=>?_)
 refine Zsa ?_
 refine Zp J (Zn (Za (wFreeze [row kFunT B.e 49 (.slice Af P.fFuns.length cf) ft,bun (rws (Kd.int .i64) B.e 3 (ft.map hdT) fr),row kDatT B.e 98 (.slice Ad P.fDats.length cd) dt,bun (rws (Kd.int .i64) B.e 3 (dt.map hdT) dr)] ZQ (fun B1 hB1 hq1=>?_))))
 have hcF:=funs_C (hq1 _ _ ZP) hB1 (hq1 _ _ ZP) hz1
 have hcD:=dats_C (hq1 _ _ ZP) hB1 (hq1 _ _ ZP) hz3
 rw [hPf] at hcF
 rw [hPd] at hcD
 obtain ⟨-,hfc,hgF⟩:=hcF
 obtain ⟨-,hdc,hgD⟩:=hcD
 have hKp:kApiProgram.K B1.e P [.slice Af P.fFuns.length cf,.slice Ad P.fDats.length cd,.int .i64 P.fEntry]:=kApiProgram_mk B1.e P hfc hgF hdc hgD
 have hnlP:=nosL_len P
 have hclP:=chN_len P
 refine Zh (Zh (wDrawG J [0,1,2,3,4,5,6,7,8,9,10] [(11,[9],[]),(12,[],[13,14,15])] [] 24 ZK J J (fun w0=>?_)))
 refine Zo J (Zno ?_)
 refine Zo J (ZS (ZT 16) (fun h16=>?_) (fun h16=>?_))
 refine Zr J J J J (Zr J J J J (Zr J J J J (Zr J J J J (Zt J J (Zo J (Zr J J J J (Zr J J J J (Z4 (Z5 J (Zr J J J J (ZG ?_ J (fun w0=>?_))))))))))))
 refine Z8 J J J J (fun w0=>?_) ?_
 refine Zr J J J J ?_
 exact Z9 rfl
 exact AgainG.nil
 refine Z4 (Z5 J (Zr J J J J (ZG ?_ J (fun w0=>?_))))
 exact AgainG.nil
 refine Zr J J J J (Zr J J J J (Zt J J (Z6 (Zn (Za (wCondT J (Zh (Zi ?_))))))))
 (refine ZC0 rfl ZK (fun w hS=>frame hS ZQ (fun B' hB hS'=>known31 hS')) ?_;rintro ⟨⟩ -)
 refine Zp J (Zzt ?_)
 exact ⟨(),trivial,rfl,Lh⟩
 obtain ⟨hsp,hpe,hbr⟩:=hzp (by simpa using h16)
 have hn:=hsp.funs
 refine Zq J J (Zz (n:=0) (m:=0) J J J (Zzg ?_))
 refine Zq J J (Zv J J (Zq J J (Z1 J J (Zu J J (Zo J (ZS (ZT 22) (fun h22=>?_) (fun h22=>?_)))))))
 refine Zr J J J J (Zr J J J J (Z4 (Z5 J (Zr J J J J (ZG ?_ J (fun w0=>?_))))))
 refine Z8 J J J J (fun w0=>?_) ?_
 refine Zr J J J J ?_
 exact Z9 rfl
 exact AgainG.nil
 refine Z4 (Z5 J (Zr J J J J (ZG ?_ J (fun w0=>?_))))
 exact AgainG.nil
 refine Zr J J J J (Zr J J J J (Zt J J (Z6 (Zn (Za (wCondT J (Zh (Zi ?_))))))))
 (refine ZC0 rfl ZK (fun w hS=>frame hS ZQ (fun B' hB hS'=>known31 hS')) ?_;rintro ⟨⟩ -)
 refine Zp J (Zzt ?_)
 exact ⟨(),trivial,rfl,Lh⟩
 refine Zq J J (Zla ?_)
 refine Zq J J (Zla ?_)
 refine Z4 (Z5 J (Zq J J ?_))
 (refine ZC0 rfl ZK (fun w hS=>frame hS ZQ (fun B' hB hS'=>ref27_Nosplit hS' P _ (gPg hB hKp) hsp B1.e)) ?_;rintro ⟨A25,c25⟩ -)
 refine ZG ?_ J (fun w0=>?_)
 refine Z8 J J J J (fun w0=>?_) ?_
 refine Zq J J (Zla ?_)
 exact Z9 rfl
 exact AgainG.nil
 refine Z4 (Z5 J (Zq J J ?_))
 (refine ZD J (fun w B' hB hR hS'=>ref27_CheckN hS' P _ (gPg hB hKp) hsp (nosL P) A25 c25 (row_Cs (W:=B1.e) (e:=4) (A:=A25) (n:=P.fFuns.length) (cp:=c25) (xs:=nosL P) (hR _ _ ZP)) hnlP) ?_;rintro ⟨⟩ -)
 refine ZG ?_ J (fun w0=>?_)
 exact AgainG.nil
 refine Zq J J (Zfi ?_)
 refine Zq J J (Z0 J J (Zu J J (Z6 (Zn (Za (wC (fun h29=>?_) (fun h29=>?_)))))))
 refine Zh (Zi ?_)
 (refine ZC0 rfl ZK (fun w hS=>frame hS ZQ (fun B' hB hS'=>known31 hS')) ?_;rintro ⟨⟩ -)
 refine Zp J (Zzt ?_)
 exact ⟨(),trivial,rfl,Lh⟩
 have hfn:fineB P (nosL P)=true:=by unfold fineB;exact decide_eq_true (by first | exact h29 | exact Classical.not_not.1 h29 | simpa using h29)
 obtain ⟨n0,hn0,hnl⟩:=bind_in hbr
 rw [show bindP l Go.Proofs.YtogaiijhicfoaaaGreatU.mainS=P from hpe.symm] at hn0 hnl
 have hokP:=chN_ok hn0 hnl hfn
 have hpt:pathsN P (chN P).1=true:=(paths_iff hn0 hnl).2 hokP
 refine Zj (Zzl ?_)
 (refine ZC0 rfl ZK (fun w hS=>frame hS ZQ (fun B' hB hS'=>elide_Free hS' P _ (gPg hB hKp) hsp B1.e)) ?_;rintro ⟨A32,c32⟩ -)
 refine Zp J (Zn (Za (Zh (Zh (Zi (Zo J (Zv J J (Zz (n:=0) (m:=0) J J J (Zld ?_)))))))))
 refine Zv J J (Z0 J J (Zo J (ZS (ZT 39) (fun h39=>?_) (fun h39=>?_))))
 first | exact h39 rfl | focus (simp at h39;done)
 refine Zq J J (Zla ?_)
 refine Zq J J (Zo J (Zq J J ?_))
 (refine ZD J (fun w B' hB hR hS'=>law_PathsN hS' P _ (gPg hB hKp) hsp (chN P).1 A32 c32 (row_Cs (W:=B1.e) (e:=4) (A:=A32) (n:=P.fFuns.length) (cp:=c32) (xs:=(chN P).1) (hR _ _ ZP)) n0 hn0 hnl hclP) ?_;rintro ⟨⟩ -)
 rw [hpt]
 refine Zq J J (oNotT J (Zu J J (Zn (Za (wCondF J (Zj (Za (Zh (Zh (Zi (Zo J (Zx J J (Zo J (ZS (ZT 47) (fun h47=>?_) (fun h47=>?_)))))))))))))))
 refine Zr J J J J (Zr J J J J (Zr J J J J (Zr J J J J (Zt J J (Zo J (Zr J J J J (Zr J J J J (Zr J J J J (Zr J J J J (Zt J J (Zo J (Zr J J J J (Zr J J J J (Zr J J J J (Zr J J J J (Zr J J J J (Zr J J J J (Zt J J (Zn (Za (wCondT J (Zh (Zi ?_)))))))))))))))))))))))
 (refine ZC0 rfl ZK (fun w hS=>frame hS ZQ (fun B' hB hS'=>known31 hS')) ?_;rintro ⟨⟩ -)
 refine Zp J (Zzt ?_)
 exact ⟨(),trivial,rfl,Lh⟩
 refine Zq J J (Zo J (Zq J J (Zo J (Zq J J (Zv J J (Zq J J (Z2 J J (Zu J J (Zo J (ZS (ZT 53) (fun h53=>?_) (fun h53=>?_)))))))))))
 refine Zr J J J J (Zr J J J J (Zr J J J J (Zr J J J J (Zt J J (Zo J (Zr J J J J (Zr J J J J (Zr J J J J (Zr J J J J (Zr J J J J (Zr J J J J (Zt J J (Zn (Za (wCondT J (Zh (Zi ?_)))))))))))))))))
 (refine ZC0 rfl ZK (fun w hS=>frame hS ZQ (fun B' hB hS'=>known31 hS')) ?_;rintro ⟨⟩ -)
 refine Zp J (Zzt ?_)
 exact ⟨(),trivial,rfl,Lh⟩
 have hm1:¬ more<0:=by first | exact h47 | simpa using h47
 have hm2:¬ (P.fFuns.length:Int)≤more:=by first | exact h53 | simpa using h53
 obtain ⟨k,rfl⟩:=Int.eq_ofNat_of_zero_le (show 0≤more by omega)
 have hkl:k<P.fFuns.length:=by omega
 refine Zq J J (Zo J (Zq J J (Zo J (Zq J J (ZR J J ZP ZO J J (fun g56 hg56=>?_))))))
 first | subst hg56 | (injection hg56 with hg56;injection hg56 with hg56;subst hg56)
 refine Zq J J (ZR1 J ZP ZO J (fun u57 hu57=>?_))
 refine Zu J J (Zo J (ZS (ZT 59) (fun h59=>?_) (fun h59=>?_)))
 refine Zr J J J J (Zr J J J J (Zr J J J J (Zr J J J J (Zr J J J J (Zr J J J J (Zt J J (Zn (Za (wCondT J (Zh (Zi ?_)))))))))))
 (refine ZC0 rfl ZK (fun w hS=>frame hS ZQ (fun B' hB hS'=>known31 hS')) ?_;rintro ⟨⟩ -)
 refine Zp J (Zzt ?_)
 exact ⟨(),trivial,rfl,Lh⟩
 refine Zq J J (Zla ?_)
 refine Zq J J ?_
 (refine ZC0 rfl ZK (fun w hS=>frame hS ZQ (fun B' hB hS'=>ref26_Called hS' P _ (gPg hB hKp) hsp B1.e)) ?_;rintro ⟨A61,c61⟩ -)
 have hcl61:=calledL_len P
 refine Zq J J (Zo J (Zq J J (ZR J J ZP ZO J J (fun g63 hg63=>?_))))
 first | subst hg63 | (injection hg63 with hg63;injection hg63 with hg63;subst hg63)
 refine Zq J J (ZR1 J ZP ZO J (fun u64 hu64=>?_))
 refine Zq J J (Zno ?_)
 refine Zu J J (Zn (Za (wC (fun h66=>?_) (fun h66=>?_))))
 refine Zh (Zi ?_)
 (refine ZC0 rfl ZK (fun w hS=>frame hS ZQ (fun B' hB hS'=>known31 hS')) ?_;rintro ⟨⟩ -)
 refine Zp J (Zzt ?_)
 exact ⟨(),trivial,rfl,Lh⟩
 have hnf:(chN P).1[k]?=some false:=by rw [hu57];first | (rw [show u57=false by simpa using h59];done) | (congr 1;done) | (congr 1;simpa using h59)
 have hcc:(calledL P)[k]?=some true:=by rw [hu64];congr 1;simpa using h66
 have hpf:pathsN P ((chN P).1.set k true)=false:=by
  cases hb:pathsN P ((chN P).1.set k true) with
  | false=>rfl
  | true=>exact absurd ((paths_iff hn0 hnl).1 hb) (chN_max hn0 hnl hfn hcc hnf)
 refine Zj (Za (Zh (Zi (Zp J (Zn (Za (Zh (Zi (Zo J (Zo J (oConv (Leads.nilrow (kd:=Kd.bool) (W:=B1.e) (e:=4)) ?_)))))))))))
 refine oAppA (kd:=Kd.bool) (W:=B1.e) (e:=4) (ys:=(chN P).1) J J J J ZP hclP (fun w hw=>src_row (e:=4) (n:=P.fFuns.length) (cp:=c32) (hw.get ZP)) (by simp only [List.length_nil];omega) J (fun A70 c70 hc70=>?_)
 rw [List.nil_append (chN P).1,show ([]:List Bool).length+P.fFuns.length=P.fFuns.length by simp]
 refine Zp J (Zn (Za (Zh (Zi (Zo J (Zo J (ZR J J ZP ZO J J (fun g73 hg73=>?_))))))))
 first | subst hg73 | (injection hg73 with hg73;injection hg73 with hg73;subst hg73)
 refine oStR _ J J J J ZP (by first | omega | (simp only [List.length_set];omega)) ?_
 refine Zn (Zzl ?_)
 refine Zo J ?_
 (refine ZD J (fun w B' hB hR hS'=>law_PathsN hS' P _ (gPg hB hKp) hsp ((chN P).1.set k true) _ c70 (row_Cs (W:=B1.e) (e:=4) (A:=_) (n:=P.fFuns.length) (cp:=c70) (xs:=(chN P).1.set k true) (hR _ _ ZP)) n0 hn0 hnl (by rw [List.length_set];exact hclP)) ?_;rintro ⟨⟩ -)
 rw [hpf]
 refine oNotF J (Zo J (Zq J J ?_))
 (refine ZC0 rfl ZK (fun w hS=>frame hS ZQ (fun B' hB hS'=>known31 hS')) ?_;rintro ⟨⟩ -)
 refine Zt J J (Zza ?_)
 exact ⟨(),trivial,rfl,Lh⟩
end Go.Proofs.YtogaiijhicfoaaaGreatY
