/-
  Part 6 of the proof of ElideLess: contracts of functions, and what follows from them; without conditions.
-/
import Derived.Test.YtogaiijhicfoaaaGreatElideLess5
set_option linter.unusedVariables false
set_option linter.unusedSimpArgs false
set_option linter.defProp false
namespace Go.Proofs.YtogaiijhicfoaaaGreatY
set_option maxRecDepth 100000
set_option maxHeartbeats 4000000
open Go.RowKit Go.Proofs.YtogaiijhicfoaaaGreatK Go.Proofs.YtogaiijhicfoaaaGreatT Go.Proofs.YtogaiijhicfoaaaGreatL Go.Proofs.YtogaiijhicfoaaaGreatV Go.Proofs.YtogaiijhicfoaaaGreatG Go.Proofs.YtogaiijhicfoaaaGreatW Go.Proofs.YtogaiijhicfoaaaGreatU

theorem two_ch1:(chN twoP).1=[true,true,false,false]:=by rw [two_ch]
theorem two_ch2:(chN twoP).2=1:=by rw [two_ch]
theorem known31 {B:Base}{w:World}(hS:St B [] w) :
    CallsIn Fence.wide 0 Tryz.prog 50 #[] w (Ret B (fun _:Unit=>True) (fun _=>.bool true) (fun _=>[])):=by
  refine ZX Tryz.func50 hS ?_
  refine Zh (Zi (Zp J (Zn (Za (Zh (Zi ?_))))))
  (refine ZC0 rfl ZK (fun w hS=>frame hS ZQ (fun B' hB hS'=>law_Two hS' B.e)) ?_;rintro ⟨A2,S2⟩ -)
  refine oAlloc J ZP (fun b1=>?_)
  refine Zsa ?_
  refine Zn (Za (Zh (Zi (Zla ?_))))
  (refine ZD J (fun w B' hB hR hS'=>elide_Order hS' twoP _ (two_K (A:=A2) (rdr_C (hR _ _ ZP) hB) (by decide)) two_small B.e) ?_;rintro ⟨A4,c4⟩ -)
  rw [two_ord]
  refine oBuildSliceF (Parts.cons J (Parts.cons J Parts.nil)) J J J J J (Fulls.cons ZP J (Fulls.cons ZP J Fulls.nil (by repeat (first | exact AppL.nil | apply AppL.cons))) (by repeat (first | exact AppL.nil | apply AppL.cons))) (fun b5=>?_)
  refine oConv (blk_row (enc:=Value.int .i64) (h1:=fun _=>J) (W:=B.e) (xs:=([0,2]:List Int)) (n:=2) ZP J J (by decide)) ?_
  (refine ZD J (fun w B' hB hR hS'=>ints_any hS' A4 c4 [0,2] (row_Cs (W:=B.e) (e:=3) (A:=A4) (n:=([0,2]:List Int).length) (cp:=c4) (xs:=[0,2]) (hR _ _ ZP)) (some ⟨b5,0,none⟩) 2 [0,2] (row_Cs (W:=B.e) (e:=3) (A:=(some ⟨b5,0,none⟩)) (n:=2) (cp:=2) (xs:=[0,2]) (hR _ _ ZP))) ?_;rintro ⟨⟩ -)
  rw [show decide (([0,2]:List Int)=[0,2])=true by decide]
  refine Zo J (Zq J J (Zla ?_))
  refine Zq J J ?_
  (refine ZD J (fun w B' hB hR hS'=>elide_Free hS' twoP _ (two_K (A:=A2) (rdr_C (hR _ _ ZP) hB) (by decide)) two_small B.e) ?_;rintro ⟨A9,c9⟩ -)
  rw [two_ch1]
  refine Zq J J ?_
  refine oBuildSliceF (Parts.cons J (Parts.cons J (Parts.cons J (Parts.cons J Parts.nil)))) J J J J J (Fulls.cons ZP J (Fulls.cons ZP J (Fulls.cons ZP J (Fulls.cons ZP J Fulls.nil (by repeat (first | exact AppL.nil | apply AppL.cons))) (by repeat (first | exact AppL.nil | apply AppL.cons))) (by repeat (first | exact AppL.nil | apply AppL.cons))) (by repeat (first | exact AppL.nil | apply AppL.cons))) (fun b10=>?_)
  refine oConv (blk_row (enc:=Value.bool) (h1:=fun _=>J) (W:=B.e) (xs:=([true,true,false,false]:List Bool)) (n:=4) ZP J J (by decide)) ?_
  refine Zq J J ?_
  (refine ZD J (fun w B' hB hR hS'=>ref01_Bools hS' [true,true,false,false] A9 c9 (row_Cs (W:=B.e) (e:=4) (A:=A9) (n:=twoP.fFuns.length) (cp:=c9) (xs:=[true,true,false,false]) (hR _ _ ZP)) (some ⟨b10,0,none⟩) 4 (row_Cs (W:=B.e) (e:=4) (A:=(some ⟨b10,0,none⟩)) (n:=4) (cp:=4) (xs:=[true,true,false,false]) (hR _ _ ZP))) ?_;rintro ⟨⟩ -)
  refine Zt J J (Zo J (Zq J J (Zla ?_)))
  refine Zq J J ?_
  (refine ZD J (fun w B' hB hR hS'=>elide_Saved hS' twoP _ (two_K (A:=A2) (rdr_C (hR _ _ ZP) hB) (by decide)) two_small B.e) ?_;rintro ⟨⟩ -)
  rw [two_ch2]
  refine Zq J J (Zy J J (ZS0 (t:=16) (v':=.bool true) J (by simp) ?_))
  refine Zt J J (Zo J (Zq J J (Zla ?_)))
  refine Zq J J ?_
  (refine ZD J (fun w B' hB hR hS'=>elide_Plan hS' twoP _ (two_K (A:=A2) (rdr_C (hR _ _ ZP) hB) (by decide)) two_small B.e) ?_;rintro ⟨⟨K1,k1⟩,⟨L1,l1⟩⟩ -)
  rw [two_keep,two_chk]
  refine Zq J J ?_
  refine oBuildSliceF (Parts.cons J (Parts.cons J (Parts.cons J (Parts.cons J Parts.nil)))) J J J J J (Fulls.cons ZP J (Fulls.cons ZP J (Fulls.cons ZP J (Fulls.cons ZP J Fulls.nil (by repeat (first | exact AppL.nil | apply AppL.cons))) (by repeat (first | exact AppL.nil | apply AppL.cons))) (by repeat (first | exact AppL.nil | apply AppL.cons))) (by repeat (first | exact AppL.nil | apply AppL.cons))) (fun b21=>?_)
  refine oConv (blk_row (enc:=Value.bool) (h1:=fun _=>J) (W:=B.e) (xs:=([true,true,true,false]:List Bool)) (n:=4) ZP J J (by decide)) ?_
  refine Zq J J ?_
  refine oBuildSliceF (Parts.cons J (Parts.cons J (Parts.cons J (Parts.cons J Parts.nil)))) J J J J J (Fulls.cons ZP J (Fulls.cons ZP J (Fulls.cons ZP J (Fulls.cons ZP J Fulls.nil (by repeat (first | exact AppL.nil | apply AppL.cons))) (by repeat (first | exact AppL.nil | apply AppL.cons))) (by repeat (first | exact AppL.nil | apply AppL.cons))) (by repeat (first | exact AppL.nil | apply AppL.cons))) (fun b22=>?_)
  refine oConv (blk_row (enc:=Value.int .i64) (h1:=fun _=>J) (W:=B.e) (xs:=([0,0,3,1]:List Int)) (n:=4) ZP J J (by decide)) ?_
  refine Zq J J (oBuild (Parts.cons J (Parts.cons J Parts.nil)) J J (Built.cons (off:=0) (s:=1) J ZP J ZP (Built.cons (off:=1) (s:=1) J ZP J ZP Built.nil)) ?_)
  refine Zq J J ?_
  (refine ZD J (fun w B' hB hR hS'=>ref28_Same hS' [true,true,true,false] [0,0,3,1] K1 L1 (some ⟨b21,0,none⟩) (some ⟨b22,0,none⟩) 4 4 k1 l1 4 4 rfl rfl (row_Cs (W:=B.e) (e:=4) (A:=K1) (n:=twoP.fFuns.length) (cp:=k1) (xs:=[true,true,true,false]) (hR _ _ ZP)) (row_Cs (W:=B.e) (e:=3) (A:=L1) (n:=twoP.fFuns.length) (cp:=l1) (xs:=[0,0,3,1]) (hR _ _ ZP)) (row_Cs (W:=B.e) (e:=4) (A:=(some ⟨b21,0,none⟩)) (n:=4) (cp:=4) (xs:=[true,true,true,false]) (hR _ _ ZP)) (row_Cs (W:=B.e) (e:=3) (A:=(some ⟨b22,0,none⟩)) (n:=4) (cp:=4) (xs:=[0,0,3,1]) (hR _ _ ZP))) ?_;rintro ⟨⟩ -)
  refine Zt J J (Zp J (Zn (Za (Zl (Zw (fi1 J ?_))))))
  exact ⟨(),trivial,rfl,Lh⟩
theorem law31_few {B:Base}{w:World}(hS:St B [] w) (A:Option Addr) (cp:Nat) (l:List ApiObject) (W0:World) (hW:Grow W0 B.e) (hC0:kApiObject.C W0 A l) (hv:∀ o ∈ l,vApiObject o) :
    CallsIn Fence.wide 0 Tryz.prog 49 #[.slice A l.length cp] w (Ret B (fun z:PZ×Int×Bool=>z.1.ok∧(z.2.2=true→SmallP (z.1.prog z.2.1)∧z.1.prog z.2.1=bindP l mainS∧(bindR l mainS).1=0)) (fun z=>.tuple #[.agg (z.1.cells z.2.1).toArray,.bool z.2.2]) (fun z=>[row kFunT W0 49 (.slice z.1.Af z.1.ft.length z.1.cf) z.1.ft,bun (rws (Kd.int .i64) W0 3 (z.1.ft.map hdT) z.1.fr),row kDatT W0 98 (.slice z.1.Ad z.1.dt.length z.1.cd) z.1.dt,bun (rws (Kd.int .i64) W0 3 (z.1.dt.map hdT) z.1.dr)])):=by
  have hC:=Kd.C_grow hW hC0
  refine ZX Tryz.func49 hS ?_
  refine Zh (Zi (oAlloc J ZP (fun b2=>?_)))
  refine Zp J (Zn (Za (Zh (Zh (Zi (Zo J ?_))))))
  (refine ZC0 rfl ZK (fun w hS=>frame hS ZQ (fun B' hB hS'=>ref24_Few hS' A cp l (Kd.C_grow hB hC))) ?_;rintro r7 h7)
  refine Zno ?_
  refine Zn (Za (wC (fun h8=>?_) (fun h8=>?_)))
  refine Zh (Zi (oBuild Parts.nil J J Built.nil (Zsa ?_)))
  refine Zp J (Zn (Za (Zl (Zc (Zw ?_)))))
  refine ⟨rfl,_,(ResL.cons (by first | exact ResR.cell rfl ZP rfl | exact ResR.agg rfl ZP rfl rfl) (ResL.cons (ResR.tmp rfl) ResL.nil)),?_⟩
  exact ⟨(⟨none,0,[],[],none,0,[],[]⟩,0,false),⟨⟨rfl,rfl⟩,fun h=>by cases h⟩,rfl,(Leads.nilrow.trans (bun_nil.trans (Leads.nilrow.trans (bun_nil.trans Lh))))⟩
  have hsm:FewO l:=h7 (by simpa using h8)
  refine Zj (Za (Zh (Zi (Zo J ?_))))
  (refine ZC0 rfl ZK (fun w hS=>frame hS ZQ (fun B' hB hS'=>ref24_Bind hS' A cp l W0 (hW.trans hB) hC0 hv hsm mainS)) ?_;rintro z ⟨hz,hzp⟩)
  obtain ⟨Af,cf,ft,fr,Ad,cd,dt,dr⟩:=z
  have hz1:=hz.f
  have hz3:=hz.d
  dsimp only [PZ.cells] at hz1 hz3 ⊢
  refine Zo J (oExt J ZP ?_)
  refine oExt J ZP ?_
  refine oAlloc J ZP (fun b4=>?_)
  refine oAlloc J ZP (fun b5=>?_)
  refine Zsa ?_
  refine Zsa ?_
  refine Zn (Za (Zh (wDrawN J J (ZM (i:=0) (rs:=[1]) ZK ?_))))
  refine ZA J ?_ ?_
  refine Zla ?_
  refine Z7 (ZM (i:=1) (rs:=[]) ZK ?_)
  refine ZA J ?_ ?_
  refine Zz (n:=0) (m:=0) J J J (Z7 (ZM (i:=2) (rs:=[]) ZK ?_))
  refine ZA J ?_ ?_
  refine Zld ?_
  refine Z7 (ZM (i:=3) (rs:=[]) ZK ?_)
  refine ZA J ?_ ?_
  refine Zy J J (Z7 (ZM (i:=4) (rs:=[]) ZK ?_))
  refine ZA J ?_ ?_
  refine Zo J (Z7 (ZM (i:=5) (rs:=[]) ZK ?_))
  refine ZA J ?_ ?_
  refine ZS (ZT 19) (fun h19=>?_) (fun h19=>?_)
  refine Zq J J (Zla ?_)
  refine Z7 (ZM (i:=6) (rs:=[]) ZK ?_)
  refine ZA J ?_ ?_
  refine Zq J J ?_
  (refine ZD J (fun w B' hB hR hS'=>ref25_Few hS' (bindP l mainS) _ (by have h:=prog_K (z:=⟨Af,cf,ft,fr,Ad,cd,dt,dr⟩) hz (hR _ _ ZP) (hR _ _ ZP) (hR _ _ ZP) (hR _ _ ZP) (hW.trans hB) (bindP l mainS).fEntry;rw [hzp] at h;exact h)) ?_;rintro r28 h28)
  refine Z7 (ZM (i:=7) (rs:=[8]) ZK ?_)
  refine ZA J ?_ ?_
  refine Zt J J (Z7 (ZM (i:=8) (rs:=[]) ZK ?_))
  refine ZA J ?_ ?_
  refine Zsa ?_
  refine Z7 (ZM (i:=9) (rs:=[]) ZK ?_)
  refine ZA J ?_ ?_
  refine Zp J (Z7 (anNil ZK ?_))
  refine Za (Zl (Zw ?_))
  refine ⟨rfl,_,(ResL.cons (by first | exact ResR.cell rfl ZP rfl | exact ResR.agg rfl ZP rfl rfl) (ResL.cons (ResR.tmp rfl) ResL.nil)),?_⟩
  exact ⟨(⟨Af,cf,ft,fr,Ad,cd,dt,dr⟩,(bindP l mainS).fEntry,r28),⟨hz,fun h=>⟨by rw [hzp];exact h28 h,hzp,by first | exact h19 | exact of_decide_eq_true h19 | simpa using h19⟩⟩,rfl,Lh⟩
  exact ZB
  exact ZB
  refine ZA J ?_ ?_
  refine Zsa ?_
  refine Z7 (ZM (i:=7) (rs:=[]) ZK ?_)
  refine ZA J ?_ ?_
  refine Zt J J (Z7 (ZM (i:=9) (rs:=[]) ZK ?_))
  refine ZA J ?_ ?_
  refine Zp J (Z7 (anNil ZK ?_))
  refine Za (Zl (Zw ?_))
  refine ⟨rfl,_,(ResL.cons (by first | exact ResR.cell rfl ZP rfl | exact ResR.agg rfl ZP rfl rfl) (ResL.cons (ResR.tmp rfl) ResL.nil)),?_⟩
  exact ⟨(⟨Af,cf,ft,fr,Ad,cd,dt,dr⟩,(bindP l mainS).fEntry,r28),⟨hz,fun h=>⟨by rw [hzp];exact h28 h,hzp,by first | exact h19 | exact of_decide_eq_true h19 | simpa using h19⟩⟩,rfl,Lh⟩
  exact ZB
  exact ZB
  exact ZB
  exact ZB
  refine Zr J J J J (Z7 (ZM (i:=6) (rs:=[]) ZK ?_))
  refine ZA J ?_ ?_
  refine Zr J J J J (Z7 (ZM (i:=7) (rs:=[8]) ZK ?_))
  refine ZA J ?_ ?_
  refine Zu J J (Z7 (ZM (i:=8) (rs:=[]) ZK ?_))
  refine ZA J ?_ ?_
  refine Zsa ?_
  refine Z7 (ZM (i:=9) (rs:=[]) ZK ?_)
  refine ZA J ?_ ?_
  refine Zp J (Z7 (anNil ZK ?_))
  refine Za (Zl (Zw ?_))
  refine ⟨rfl,_,(ResL.cons (by first | exact ResR.cell rfl ZP rfl | exact ResR.agg rfl ZP rfl rfl) (ResL.cons (ResR.tmp rfl) ResL.nil)),?_⟩
  exact ⟨(⟨Af,cf,ft,fr,Ad,cd,dt,dr⟩,(bindP l mainS).fEntry,false),⟨hz,fun h=>by cases h⟩,rfl,Lh⟩
  exact ZB
  exact ZB
  refine ZA J ?_ ?_
  refine Zsa ?_
  refine Z7 (ZM (i:=7) (rs:=[]) ZK ?_)
  refine ZA J ?_ ?_
  refine Zu J J (Z7 (ZM (i:=9) (rs:=[]) ZK ?_))
  refine ZA J ?_ ?_
  refine Zp J (Z7 (anNil ZK ?_))
  refine Za (Zl (Zw ?_))
  refine ⟨rfl,_,(ResL.cons (by first | exact ResR.cell rfl ZP rfl | exact ResR.agg rfl ZP rfl rfl) (ResL.cons (ResR.tmp rfl) ResL.nil)),?_⟩
  exact ⟨(⟨Af,cf,ft,fr,Ad,cd,dt,dr⟩,(bindP l mainS).fEntry,false),⟨hz,fun h=>by cases h⟩,rfl,Lh⟩
  exact ZB
  exact ZB
  exact ZB
  exact ZB
  exact ZB
  exact ZB
  exact ZB
  exact ZB
  exact ZB
  refine ZA J ?_ ?_
  refine Zz (n:=0) (m:=0) J J J (Z7 (ZM (i:=0) (rs:=[2]) ZK ?_))
  refine ZA J ?_ ?_
  refine Zla ?_
  refine Z7 (ZM (i:=2) (rs:=[]) ZK ?_)
  refine ZA J ?_ ?_
  refine Zld ?_
  refine Z7 (ZM (i:=3) (rs:=[]) ZK ?_)
  refine ZA J ?_ ?_
  refine Zy J J (Z7 (ZM (i:=4) (rs:=[]) ZK ?_))
  refine ZA J ?_ ?_
  refine Zo J (Z7 (ZM (i:=5) (rs:=[]) ZK ?_))
  refine ZA J ?_ ?_
  refine ZS (ZT 19) (fun h19=>?_) (fun h19=>?_)
  refine Zq J J (Zla ?_)
  refine Z7 (ZM (i:=6) (rs:=[]) ZK ?_)
  refine ZA J ?_ ?_
  refine Zq J J ?_
  (refine ZD J (fun w B' hB hR hS'=>ref25_Few hS' (bindP l mainS) _ (by have h:=prog_K (z:=⟨Af,cf,ft,fr,Ad,cd,dt,dr⟩) hz (hR _ _ ZP) (hR _ _ ZP) (hR _ _ ZP) (hR _ _ ZP) (hW.trans hB) (bindP l mainS).fEntry;rw [hzp] at h;exact h)) ?_;rintro r28 h28)
  refine Z7 (ZM (i:=7) (rs:=[8]) ZK ?_)
  refine ZA J ?_ ?_
  refine Zt J J (Z7 (ZM (i:=8) (rs:=[]) ZK ?_))
  refine ZA J ?_ ?_
  refine Zsa ?_
  refine Z7 (ZM (i:=9) (rs:=[]) ZK ?_)
  refine ZA J ?_ ?_
  refine Zp J (Z7 (anNil ZK ?_))
  refine Za (Zl (Zw ?_))
  refine ⟨rfl,_,(ResL.cons (by first | exact ResR.cell rfl ZP rfl | exact ResR.agg rfl ZP rfl rfl) (ResL.cons (ResR.tmp rfl) ResL.nil)),?_⟩
  exact ⟨(⟨Af,cf,ft,fr,Ad,cd,dt,dr⟩,(bindP l mainS).fEntry,r28),⟨hz,fun h=>⟨by rw [hzp];exact h28 h,hzp,by first | exact h19 | exact of_decide_eq_true h19 | simpa using h19⟩⟩,rfl,Lh⟩
  exact ZB
  exact ZB
  refine ZA J ?_ ?_
  refine Zsa ?_
  refine Z7 (ZM (i:=7) (rs:=[]) ZK ?_)
  refine ZA J ?_ ?_
  refine Zt J J (Z7 (ZM (i:=9) (rs:=[]) ZK ?_))
  refine ZA J ?_ ?_
  refine Zp J (Z7 (anNil ZK ?_))
  refine Za (Zl (Zw ?_))
  refine ⟨rfl,_,(ResL.cons (by first | exact ResR.cell rfl ZP rfl | exact ResR.agg rfl ZP rfl rfl) (ResL.cons (ResR.tmp rfl) ResL.nil)),?_⟩
  exact ⟨(⟨Af,cf,ft,fr,Ad,cd,dt,dr⟩,(bindP l mainS).fEntry,r28),⟨hz,fun h=>⟨by rw [hzp];exact h28 h,hzp,by first | exact h19 | exact of_decide_eq_true h19 | simpa using h19⟩⟩,rfl,Lh⟩
  exact ZB
  exact ZB
  exact ZB
  exact ZB
  refine Zr J J J J (Z7 (ZM (i:=6) (rs:=[]) ZK ?_))
  refine ZA J ?_ ?_
  refine Zr J J J J (Z7 (ZM (i:=7) (rs:=[8]) ZK ?_))
  refine ZA J ?_ ?_
  refine Zu J J (Z7 (ZM (i:=8) (rs:=[]) ZK ?_))
  refine ZA J ?_ ?_
  refine Zsa ?_
  refine Z7 (ZM (i:=9) (rs:=[]) ZK ?_)
  refine ZA J ?_ ?_
  refine Zp J (Z7 (anNil ZK ?_))
  refine Za (Zl (Zw ?_))
  refine ⟨rfl,_,(ResL.cons (by first | exact ResR.cell rfl ZP rfl | exact ResR.agg rfl ZP rfl rfl) (ResL.cons (ResR.tmp rfl) ResL.nil)),?_⟩
  exact ⟨(⟨Af,cf,ft,fr,Ad,cd,dt,dr⟩,(bindP l mainS).fEntry,false),⟨hz,fun h=>by cases h⟩,rfl,Lh⟩
  exact ZB
  exact ZB
  refine ZA J ?_ ?_
  refine Zsa ?_
  refine Z7 (ZM (i:=7) (rs:=[]) ZK ?_)
  refine ZA J ?_ ?_
  refine Zu J J (Z7 (ZM (i:=9) (rs:=[]) ZK ?_))
  refine ZA J ?_ ?_
  refine Zp J (Z7 (anNil ZK ?_))
  refine Za (Zl (Zw ?_))
  refine ⟨rfl,_,(ResL.cons (by first | exact ResR.cell rfl ZP rfl | exact ResR.agg rfl ZP rfl rfl) (ResL.cons (ResR.tmp rfl) ResL.nil)),?_⟩
  exact ⟨(⟨Af,cf,ft,fr,Ad,cd,dt,dr⟩,(bindP l mainS).fEntry,false),⟨hz,fun h=>by cases h⟩,rfl,Lh⟩
  exact ZB
  exact ZB
  exact ZB
  exact ZB
  exact ZB
  exact ZB
  exact ZB
  exact ZB
  refine ZA J ?_ ?_
  refine Zld ?_
  refine Z7 (ZM (i:=0) (rs:=[3]) ZK ?_)
  refine ZA J ?_ ?_
  refine Zla ?_
  refine Z7 (ZM (i:=3) (rs:=[]) ZK ?_)
  refine ZA J ?_ ?_
  refine Zy J J (Z7 (ZM (i:=4) (rs:=[]) ZK ?_))
  refine ZA J ?_ ?_
  refine Zo J (Z7 (ZM (i:=5) (rs:=[]) ZK ?_))
  refine ZA J ?_ ?_
  refine ZS (ZT 19) (fun h19=>?_) (fun h19=>?_)
  refine Zq J J (Zla ?_)
  refine Z7 (ZM (i:=6) (rs:=[]) ZK ?_)
  refine ZA J ?_ ?_
  refine Zq J J ?_
  (refine ZD J (fun w B' hB hR hS'=>ref25_Few hS' (bindP l mainS) _ (by have h:=prog_K (z:=⟨Af,cf,ft,fr,Ad,cd,dt,dr⟩) hz (hR _ _ ZP) (hR _ _ ZP) (hR _ _ ZP) (hR _ _ ZP) (hW.trans hB) (bindP l mainS).fEntry;rw [hzp] at h;exact h)) ?_;rintro r28 h28)
  refine Z7 (ZM (i:=7) (rs:=[8]) ZK ?_)
  refine ZA J ?_ ?_
  refine Zt J J (Z7 (ZM (i:=8) (rs:=[]) ZK ?_))
  refine ZA J ?_ ?_
  refine Zsa ?_
  refine Z7 (ZM (i:=9) (rs:=[]) ZK ?_)
  refine ZA J ?_ ?_
  refine Zp J (Z7 (anNil ZK ?_))
  refine Za (Zl (Zw ?_))
  refine ⟨rfl,_,(ResL.cons (by first | exact ResR.cell rfl ZP rfl | exact ResR.agg rfl ZP rfl rfl) (ResL.cons (ResR.tmp rfl) ResL.nil)),?_⟩
  exact ⟨(⟨Af,cf,ft,fr,Ad,cd,dt,dr⟩,(bindP l mainS).fEntry,r28),⟨hz,fun h=>⟨by rw [hzp];exact h28 h,hzp,by first | exact h19 | exact of_decide_eq_true h19 | simpa using h19⟩⟩,rfl,Lh⟩
  exact ZB
  exact ZB
  refine ZA J ?_ ?_
  refine Zsa ?_
  refine Z7 (ZM (i:=7) (rs:=[]) ZK ?_)
  refine ZA J ?_ ?_
  refine Zt J J (Z7 (ZM (i:=9) (rs:=[]) ZK ?_))
  refine ZA J ?_ ?_
  refine Zp J (Z7 (anNil ZK ?_))
  refine Za (Zl (Zw ?_))
  refine ⟨rfl,_,(ResL.cons (by first | exact ResR.cell rfl ZP rfl | exact ResR.agg rfl ZP rfl rfl) (ResL.cons (ResR.tmp rfl) ResL.nil)),?_⟩
  exact ⟨(⟨Af,cf,ft,fr,Ad,cd,dt,dr⟩,(bindP l mainS).fEntry,r28),⟨hz,fun h=>⟨by rw [hzp];exact h28 h,hzp,by first | exact h19 | exact of_decide_eq_true h19 | simpa using h19⟩⟩,rfl,Lh⟩
  exact ZB
  exact ZB
  exact ZB
  exact ZB
  refine Zr J J J J (Z7 (ZM (i:=6) (rs:=[]) ZK ?_))
  refine ZA J ?_ ?_
  refine Zr J J J J (Z7 (ZM (i:=7) (rs:=[8]) ZK ?_))
  refine ZA J ?_ ?_
  refine Zu J J (Z7 (ZM (i:=8) (rs:=[]) ZK ?_))
  refine ZA J ?_ ?_
  refine Zsa ?_
  refine Z7 (ZM (i:=9) (rs:=[]) ZK ?_)
  refine ZA J ?_ ?_
  refine Zp J (Z7 (anNil ZK ?_))
  refine Za (Zl (Zw ?_))
  refine ⟨rfl,_,(ResL.cons (by first | exact ResR.cell rfl ZP rfl | exact ResR.agg rfl ZP rfl rfl) (ResL.cons (ResR.tmp rfl) ResL.nil)),?_⟩
  exact ⟨(⟨Af,cf,ft,fr,Ad,cd,dt,dr⟩,(bindP l mainS).fEntry,false),⟨hz,fun h=>by cases h⟩,rfl,Lh⟩
  exact ZB
  exact ZB
  refine ZA J ?_ ?_
  refine Zsa ?_
  refine Z7 (ZM (i:=7) (rs:=[]) ZK ?_)
  refine ZA J ?_ ?_
  refine Zu J J (Z7 (ZM (i:=9) (rs:=[]) ZK ?_))
  refine ZA J ?_ ?_
  refine Zp J (Z7 (anNil ZK ?_))
  refine Za (Zl (Zw ?_))
  refine ⟨rfl,_,(ResL.cons (by first | exact ResR.cell rfl ZP rfl | exact ResR.agg rfl ZP rfl rfl) (ResL.cons (ResR.tmp rfl) ResL.nil)),?_⟩
  exact ⟨(⟨Af,cf,ft,fr,Ad,cd,dt,dr⟩,(bindP l mainS).fEntry,false),⟨hz,fun h=>by cases h⟩,rfl,Lh⟩
  exact ZB
  exact ZB
  exact ZB
  exact ZB
  exact ZB
  exact ZB
  exact ZB
  refine ZA J ?_ ?_
  refine Zy J J (Z7 (ZM (i:=0) (rs:=[4]) ZK ?_))
  refine ZA J ?_ ?_
  refine Zla ?_
  refine Z7 (ZM (i:=4) (rs:=[]) ZK ?_)
  refine ZA J ?_ ?_
  refine Zo J (Z7 (ZM (i:=5) (rs:=[]) ZK ?_))
  refine ZA J ?_ ?_
  refine ZS (ZT 19) (fun h19=>?_) (fun h19=>?_)
  refine Zq J J (Zla ?_)
  refine Z7 (ZM (i:=6) (rs:=[]) ZK ?_)
  refine ZA J ?_ ?_
  refine Zq J J ?_
  (refine ZD J (fun w B' hB hR hS'=>ref25_Few hS' (bindP l mainS) _ (by have h:=prog_K (z:=⟨Af,cf,ft,fr,Ad,cd,dt,dr⟩) hz (hR _ _ ZP) (hR _ _ ZP) (hR _ _ ZP) (hR _ _ ZP) (hW.trans hB) (bindP l mainS).fEntry;rw [hzp] at h;exact h)) ?_;rintro r28 h28)
  refine Z7 (ZM (i:=7) (rs:=[8]) ZK ?_)
  refine ZA J ?_ ?_
  refine Zt J J (Z7 (ZM (i:=8) (rs:=[]) ZK ?_))
  refine ZA J ?_ ?_
  refine Zsa ?_
  refine Z7 (ZM (i:=9) (rs:=[]) ZK ?_)
  refine ZA J ?_ ?_
  refine Zp J (Z7 (anNil ZK ?_))
  refine Za (Zl (Zw ?_))
  refine ⟨rfl,_,(ResL.cons (by first | exact ResR.cell rfl ZP rfl | exact ResR.agg rfl ZP rfl rfl) (ResL.cons (ResR.tmp rfl) ResL.nil)),?_⟩
  exact ⟨(⟨Af,cf,ft,fr,Ad,cd,dt,dr⟩,(bindP l mainS).fEntry,r28),⟨hz,fun h=>⟨by rw [hzp];exact h28 h,hzp,by first | exact h19 | exact of_decide_eq_true h19 | simpa using h19⟩⟩,rfl,Lh⟩
  exact ZB
  exact ZB
  refine ZA J ?_ ?_
  refine Zsa ?_
  refine Z7 (ZM (i:=7) (rs:=[]) ZK ?_)
  refine ZA J ?_ ?_
  refine Zt J J (Z7 (ZM (i:=9) (rs:=[]) ZK ?_))
  refine ZA J ?_ ?_
  refine Zp J (Z7 (anNil ZK ?_))
  refine Za (Zl (Zw ?_))
  refine ⟨rfl,_,(ResL.cons (by first | exact ResR.cell rfl ZP rfl | exact ResR.agg rfl ZP rfl rfl) (ResL.cons (ResR.tmp rfl) ResL.nil)),?_⟩
  exact ⟨(⟨Af,cf,ft,fr,Ad,cd,dt,dr⟩,(bindP l mainS).fEntry,r28),⟨hz,fun h=>⟨by rw [hzp];exact h28 h,hzp,by first | exact h19 | exact of_decide_eq_true h19 | simpa using h19⟩⟩,rfl,Lh⟩
  exact ZB
  exact ZB
  exact ZB
  exact ZB
  refine Zr J J J J (Z7 (ZM (i:=6) (rs:=[]) ZK ?_))
  refine ZA J ?_ ?_
  refine Zr J J J J (Z7 (ZM (i:=7) (rs:=[8]) ZK ?_))
  refine ZA J ?_ ?_
  refine Zu J J (Z7 (ZM (i:=8) (rs:=[]) ZK ?_))
  refine ZA J ?_ ?_
  refine Zsa ?_
  refine Z7 (ZM (i:=9) (rs:=[]) ZK ?_)
  refine ZA J ?_ ?_
  refine Zp J (Z7 (anNil ZK ?_))
  refine Za (Zl (Zw ?_))
  refine ⟨rfl,_,(ResL.cons (by first | exact ResR.cell rfl ZP rfl | exact ResR.agg rfl ZP rfl rfl) (ResL.cons (ResR.tmp rfl) ResL.nil)),?_⟩
  exact ⟨(⟨Af,cf,ft,fr,Ad,cd,dt,dr⟩,(bindP l mainS).fEntry,false),⟨hz,fun h=>by cases h⟩,rfl,Lh⟩
  exact ZB
  exact ZB
  refine ZA J ?_ ?_
  refine Zsa ?_
  refine Z7 (ZM (i:=7) (rs:=[]) ZK ?_)
  refine ZA J ?_ ?_
  refine Zu J J (Z7 (ZM (i:=9) (rs:=[]) ZK ?_))
  refine ZA J ?_ ?_
  refine Zp J (Z7 (anNil ZK ?_))
  refine Za (Zl (Zw ?_))
  refine ⟨rfl,_,(ResL.cons (by first | exact ResR.cell rfl ZP rfl | exact ResR.agg rfl ZP rfl rfl) (ResL.cons (ResR.tmp rfl) ResL.nil)),?_⟩
  exact ⟨(⟨Af,cf,ft,fr,Ad,cd,dt,dr⟩,(bindP l mainS).fEntry,false),⟨hz,fun h=>by cases h⟩,rfl,Lh⟩
  exact ZB
  exact ZB
  exact ZB
  exact ZB
  exact ZB
  exact ZB
  refine ZA J ?_ ?_
  refine Zo J (Z7 (ZM (i:=0) (rs:=[5]) ZK ?_))
  refine ZA J ?_ ?_
  refine Zla ?_
  refine Z7 (ZM (i:=5) (rs:=[]) ZK ?_)
  refine ZA J ?_ ?_
  refine ZS (ZT 19) (fun h19=>?_) (fun h19=>?_)
  refine Zq J J (Zla ?_)
  refine Z7 (ZM (i:=6) (rs:=[]) ZK ?_)
  refine ZA J ?_ ?_
  refine Zq J J ?_
  (refine ZD J (fun w B' hB hR hS'=>ref25_Few hS' (bindP l mainS) _ (by have h:=prog_K (z:=⟨Af,cf,ft,fr,Ad,cd,dt,dr⟩) hz (hR _ _ ZP) (hR _ _ ZP) (hR _ _ ZP) (hR _ _ ZP) (hW.trans hB) (bindP l mainS).fEntry;rw [hzp] at h;exact h)) ?_;rintro r28 h28)
  refine Z7 (ZM (i:=7) (rs:=[8]) ZK ?_)
  refine ZA J ?_ ?_
  refine Zt J J (Z7 (ZM (i:=8) (rs:=[]) ZK ?_))
  refine ZA J ?_ ?_
  refine Zsa ?_
  refine Z7 (ZM (i:=9) (rs:=[]) ZK ?_)
  refine ZA J ?_ ?_
  refine Zp J (Z7 (anNil ZK ?_))
  refine Za (Zl (Zw ?_))
  refine ⟨rfl,_,(ResL.cons (by first | exact ResR.cell rfl ZP rfl | exact ResR.agg rfl ZP rfl rfl) (ResL.cons (ResR.tmp rfl) ResL.nil)),?_⟩
  exact ⟨(⟨Af,cf,ft,fr,Ad,cd,dt,dr⟩,(bindP l mainS).fEntry,r28),⟨hz,fun h=>⟨by rw [hzp];exact h28 h,hzp,by first | exact h19 | exact of_decide_eq_true h19 | simpa using h19⟩⟩,rfl,Lh⟩
  exact ZB
  exact ZB
  refine ZA J ?_ ?_
  refine Zsa ?_
  refine Z7 (ZM (i:=7) (rs:=[]) ZK ?_)
  refine ZA J ?_ ?_
  refine Zt J J (Z7 (ZM (i:=9) (rs:=[]) ZK ?_))
  refine ZA J ?_ ?_
  refine Zp J (Z7 (anNil ZK ?_))
  refine Za (Zl (Zw ?_))
  refine ⟨rfl,_,(ResL.cons (by first | exact ResR.cell rfl ZP rfl | exact ResR.agg rfl ZP rfl rfl) (ResL.cons (ResR.tmp rfl) ResL.nil)),?_⟩
  exact ⟨(⟨Af,cf,ft,fr,Ad,cd,dt,dr⟩,(bindP l mainS).fEntry,r28),⟨hz,fun h=>⟨by rw [hzp];exact h28 h,hzp,by first | exact h19 | exact of_decide_eq_true h19 | simpa using h19⟩⟩,rfl,Lh⟩
  exact ZB
  exact ZB
  exact ZB
  exact ZB
  refine Zr J J J J (Z7 (ZM (i:=6) (rs:=[]) ZK ?_))
  refine ZA J ?_ ?_
  refine Zr J J J J (Z7 (ZM (i:=7) (rs:=[8]) ZK ?_))
  refine ZA J ?_ ?_
  refine Zu J J (Z7 (ZM (i:=8) (rs:=[]) ZK ?_))
  refine ZA J ?_ ?_
  refine Zsa ?_
  refine Z7 (ZM (i:=9) (rs:=[]) ZK ?_)
  refine ZA J ?_ ?_
  refine Zp J (Z7 (anNil ZK ?_))
  refine Za (Zl (Zw ?_))
  refine ⟨rfl,_,(ResL.cons (by first | exact ResR.cell rfl ZP rfl | exact ResR.agg rfl ZP rfl rfl) (ResL.cons (ResR.tmp rfl) ResL.nil)),?_⟩
  exact ⟨(⟨Af,cf,ft,fr,Ad,cd,dt,dr⟩,(bindP l mainS).fEntry,false),⟨hz,fun h=>by cases h⟩,rfl,Lh⟩
  exact ZB
  exact ZB
  refine ZA J ?_ ?_
  refine Zsa ?_
  refine Z7 (ZM (i:=7) (rs:=[]) ZK ?_)
  refine ZA J ?_ ?_
  refine Zu J J (Z7 (ZM (i:=9) (rs:=[]) ZK ?_))
  refine ZA J ?_ ?_
  refine Zp J (Z7 (anNil ZK ?_))
  refine Za (Zl (Zw ?_))
  refine ⟨rfl,_,(ResL.cons (by first | exact ResR.cell rfl ZP rfl | exact ResR.agg rfl ZP rfl rfl) (ResL.cons (ResR.tmp rfl) ResL.nil)),?_⟩
  exact ⟨(⟨Af,cf,ft,fr,Ad,cd,dt,dr⟩,(bindP l mainS).fEntry,false),⟨hz,fun h=>by cases h⟩,rfl,Lh⟩
  exact ZB
  exact ZB
  exact ZB
  exact ZB
  exact ZB
  refine ZA J ?_ ?_
  refine ZS (ZT 19) (fun h19=>?_) (fun h19=>?_)
  refine Zq J J (Zla ?_)
  refine Z7 (ZM (i:=0) (rs:=[6]) ZK ?_)
  refine ZA J ?_ ?_
  refine Zla ?_
  refine Z7 (ZM (i:=6) (rs:=[]) ZK ?_)
  refine ZA J ?_ ?_
  refine Zq J J ?_
  (refine ZD J (fun w B' hB hR hS'=>ref25_Few hS' (bindP l mainS) _ (by have h:=prog_K (z:=⟨Af,cf,ft,fr,Ad,cd,dt,dr⟩) hz (hR _ _ ZP) (hR _ _ ZP) (hR _ _ ZP) (hR _ _ ZP) (hW.trans hB) (bindP l mainS).fEntry;rw [hzp] at h;exact h)) ?_;rintro r28 h28)
  refine Z7 (ZM (i:=7) (rs:=[8]) ZK ?_)
  refine ZA J ?_ ?_
  refine Zt J J (Z7 (ZM (i:=8) (rs:=[]) ZK ?_))
  refine ZA J ?_ ?_
  refine Zsa ?_
  refine Z7 (ZM (i:=9) (rs:=[]) ZK ?_)
  refine ZA J ?_ ?_
  refine Zp J (Z7 (anNil ZK ?_))
  refine Za (Zl (Zw ?_))
  refine ⟨rfl,_,(ResL.cons (by first | exact ResR.cell rfl ZP rfl | exact ResR.agg rfl ZP rfl rfl) (ResL.cons (ResR.tmp rfl) ResL.nil)),?_⟩
  exact ⟨(⟨Af,cf,ft,fr,Ad,cd,dt,dr⟩,(bindP l mainS).fEntry,r28),⟨hz,fun h=>⟨by rw [hzp];exact h28 h,hzp,by first | exact h19 | exact of_decide_eq_true h19 | simpa using h19⟩⟩,rfl,Lh⟩
  exact ZB
  exact ZB
  refine ZA J ?_ ?_
  refine Zsa ?_
  refine Z7 (ZM (i:=7) (rs:=[]) ZK ?_)
  refine ZA J ?_ ?_
  refine Zt J J (Z7 (ZM (i:=9) (rs:=[]) ZK ?_))
  refine ZA J ?_ ?_
  refine Zp J (Z7 (anNil ZK ?_))
  refine Za (Zl (Zw ?_))
  refine ⟨rfl,_,(ResL.cons (by first | exact ResR.cell rfl ZP rfl | exact ResR.agg rfl ZP rfl rfl) (ResL.cons (ResR.tmp rfl) ResL.nil)),?_⟩
  exact ⟨(⟨Af,cf,ft,fr,Ad,cd,dt,dr⟩,(bindP l mainS).fEntry,r28),⟨hz,fun h=>⟨by rw [hzp];exact h28 h,hzp,by first | exact h19 | exact of_decide_eq_true h19 | simpa using h19⟩⟩,rfl,Lh⟩
  exact ZB
  exact ZB
  exact ZB
  exact ZB
  refine ZA J ?_ ?_
  refine Zq J J ?_
  (refine ZD J (fun w B' hB hR hS'=>ref25_Few hS' (bindP l mainS) _ (by have h:=prog_K (z:=⟨Af,cf,ft,fr,Ad,cd,dt,dr⟩) hz (hR _ _ ZP) (hR _ _ ZP) (hR _ _ ZP) (hR _ _ ZP) (hW.trans hB) (bindP l mainS).fEntry;rw [hzp] at h;exact h)) ?_;rintro r28 h28)
  refine Z7 (ZM (i:=0) (rs:=[7]) ZK ?_)
  refine ZA J ?_ ?_
  refine Zla ?_
  refine Z7 (ZM (i:=7) (rs:=[8]) ZK ?_)
  refine ZA J ?_ ?_
  refine Zt J J (Z7 (ZM (i:=8) (rs:=[]) ZK ?_))
  refine ZA J ?_ ?_
  refine Zsa ?_
  refine Z7 (ZM (i:=9) (rs:=[]) ZK ?_)
  refine ZA J ?_ ?_
  refine Zp J (Z7 (anNil ZK ?_))
  refine Za (Zl (Zw ?_))
  refine ⟨rfl,_,(ResL.cons (by first | exact ResR.cell rfl ZP rfl | exact ResR.agg rfl ZP rfl rfl) (ResL.cons (ResR.tmp rfl) ResL.nil)),?_⟩
  exact ⟨(⟨Af,cf,ft,fr,Ad,cd,dt,dr⟩,(bindP l mainS).fEntry,r28),⟨hz,fun h=>⟨by rw [hzp];exact h28 h,hzp,by first | exact h19 | exact of_decide_eq_true h19 | simpa using h19⟩⟩,rfl,Lh⟩
  exact ZB
  exact ZB
  refine ZA J ?_ ?_
  refine Zsa ?_
  refine Z7 (ZM (i:=7) (rs:=[]) ZK ?_)
  refine ZA J ?_ ?_
  refine Zt J J (Z7 (ZM (i:=9) (rs:=[]) ZK ?_))
  refine ZA J ?_ ?_
  refine Zp J (Z7 (anNil ZK ?_))
  refine Za (Zl (Zw ?_))
  refine ⟨rfl,_,(ResL.cons (by first | exact ResR.cell rfl ZP rfl | exact ResR.agg rfl ZP rfl rfl) (ResL.cons (ResR.tmp rfl) ResL.nil)),?_⟩
  exact ⟨(⟨Af,cf,ft,fr,Ad,cd,dt,dr⟩,(bindP l mainS).fEntry,r28),⟨hz,fun h=>⟨by rw [hzp];exact h28 h,hzp,by first | exact h19 | exact of_decide_eq_true h19 | simpa using h19⟩⟩,rfl,Lh⟩
  exact ZB
  exact ZB
  exact ZB
  refine ZA J ?_ ?_
  refine Zt J J (Z7 (ZM (i:=0) (rs:=[]) ZK ?_))
  refine ZA J ?_ ?_
  refine Zla ?_
  refine Z7 (ZM (i:=8) (rs:=[]) ZK ?_)
  refine ZA J ?_ ?_
  refine Zsa ?_
  refine Z7 (ZM (i:=9) (rs:=[]) ZK ?_)
  refine ZA J ?_ ?_
  refine Zp J (Z7 (anNil ZK ?_))
  refine Za (Zl (Zw ?_))
  refine ⟨rfl,_,(ResL.cons (by first | exact ResR.cell rfl ZP rfl | exact ResR.agg rfl ZP rfl rfl) (ResL.cons (ResR.tmp rfl) ResL.nil)),?_⟩
  exact ⟨(⟨Af,cf,ft,fr,Ad,cd,dt,dr⟩,(bindP l mainS).fEntry,r28),⟨hz,fun h=>⟨by rw [hzp];exact h28 h,hzp,by first | exact h19 | exact of_decide_eq_true h19 | simpa using h19⟩⟩,rfl,Lh⟩
  exact ZB
  exact ZB
  exact ZB
  exact ZB
  exact ZB
  refine Zr J J J J (Z7 (ZM (i:=0) (rs:=[6]) ZK ?_))
  refine ZA J ?_ ?_
  refine Zla ?_
  refine Z7 (ZM (i:=6) (rs:=[]) ZK ?_)
  refine ZA J ?_ ?_
  refine Zr J J J J (Z7 (ZM (i:=7) (rs:=[8]) ZK ?_))
  refine ZA J ?_ ?_
  refine Zu J J (Z7 (ZM (i:=8) (rs:=[]) ZK ?_))
  refine ZA J ?_ ?_
  refine Zsa ?_
  refine Z7 (ZM (i:=9) (rs:=[]) ZK ?_)
  refine ZA J ?_ ?_
  refine Zp J (Z7 (anNil ZK ?_))
  refine Za (Zl (Zw ?_))
  refine ⟨rfl,_,(ResL.cons (by first | exact ResR.cell rfl ZP rfl | exact ResR.agg rfl ZP rfl rfl) (ResL.cons (ResR.tmp rfl) ResL.nil)),?_⟩
  exact ⟨(⟨Af,cf,ft,fr,Ad,cd,dt,dr⟩,(bindP l mainS).fEntry,false),⟨hz,fun h=>by cases h⟩,rfl,Lh⟩
  exact ZB
  exact ZB
  refine ZA J ?_ ?_
  refine Zsa ?_
  refine Z7 (ZM (i:=7) (rs:=[]) ZK ?_)
  refine ZA J ?_ ?_
  refine Zu J J (Z7 (ZM (i:=9) (rs:=[]) ZK ?_))
  refine ZA J ?_ ?_
  refine Zp J (Z7 (anNil ZK ?_))
  refine Za (Zl (Zw ?_))
  refine ⟨rfl,_,(ResL.cons (by first | exact ResR.cell rfl ZP rfl | exact ResR.agg rfl ZP rfl rfl) (ResL.cons (ResR.tmp rfl) ResL.nil)),?_⟩
  exact ⟨(⟨Af,cf,ft,fr,Ad,cd,dt,dr⟩,(bindP l mainS).fEntry,false),⟨hz,fun h=>by cases h⟩,rfl,Lh⟩
  exact ZB
  exact ZB
  exact ZB
  exact ZB
  refine ZA J ?_ ?_
  refine Zr J J J J (Z7 (ZM (i:=0) (rs:=[7]) ZK ?_))
  refine ZA J ?_ ?_
  refine Zla ?_
  refine Z7 (ZM (i:=7) (rs:=[8]) ZK ?_)
  refine ZA J ?_ ?_
  refine Zu J J (Z7 (ZM (i:=8) (rs:=[]) ZK ?_))
  refine ZA J ?_ ?_
  refine Zsa ?_
  refine Z7 (ZM (i:=9) (rs:=[]) ZK ?_)
  refine ZA J ?_ ?_
  refine Zp J (Z7 (anNil ZK ?_))
  refine Za (Zl (Zw ?_))
  refine ⟨rfl,_,(ResL.cons (by first | exact ResR.cell rfl ZP rfl | exact ResR.agg rfl ZP rfl rfl) (ResL.cons (ResR.tmp rfl) ResL.nil)),?_⟩
  exact ⟨(⟨Af,cf,ft,fr,Ad,cd,dt,dr⟩,(bindP l mainS).fEntry,false),⟨hz,fun h=>by cases h⟩,rfl,Lh⟩
  exact ZB
  exact ZB
  refine ZA J ?_ ?_
  refine Zsa ?_
  refine Z7 (ZM (i:=7) (rs:=[]) ZK ?_)
  refine ZA J ?_ ?_
  refine Zu J J (Z7 (ZM (i:=9) (rs:=[]) ZK ?_))
  refine ZA J ?_ ?_
  refine Zp J (Z7 (anNil ZK ?_))
  refine Za (Zl (Zw ?_))
  refine ⟨rfl,_,(ResL.cons (by first | exact ResR.cell rfl ZP rfl | exact ResR.agg rfl ZP rfl rfl) (ResL.cons (ResR.tmp rfl) ResL.nil)),?_⟩
  exact ⟨(⟨Af,cf,ft,fr,Ad,cd,dt,dr⟩,(bindP l mainS).fEntry,false),⟨hz,fun h=>by cases h⟩,rfl,Lh⟩
  exact ZB
  exact ZB
  exact ZB
  refine ZA J ?_ ?_
  refine Zu J J (Z7 (ZM (i:=0) (rs:=[]) ZK ?_))
  refine ZA J ?_ ?_
  refine Zla ?_
  refine Z7 (ZM (i:=8) (rs:=[]) ZK ?_)
  refine ZA J ?_ ?_
  refine Zsa ?_
  refine Z7 (ZM (i:=9) (rs:=[]) ZK ?_)
  refine ZA J ?_ ?_
  refine Zp J (Z7 (anNil ZK ?_))
  refine Za (Zl (Zw ?_))
  refine ⟨rfl,_,(ResL.cons (by first | exact ResR.cell rfl ZP rfl | exact ResR.agg rfl ZP rfl rfl) (ResL.cons (ResR.tmp rfl) ResL.nil)),?_⟩
  exact ⟨(⟨Af,cf,ft,fr,Ad,cd,dt,dr⟩,(bindP l mainS).fEntry,false),⟨hz,fun h=>by cases h⟩,rfl,Lh⟩
  exact ZB
  exact ZB
  exact ZB
  exact ZB
  exact ZB
  exact ZB
  exact ZB
  exact ZB
  exact ZB
  exact ZB
theorem chk_at {p:ApiProgram}{free:List Bool}{i:Nat}(h:i<p.fFuns.length):(chkL p free)[i]?=some (chkF p free i):=by unfold chkL;rw [List.getElem?_map,List.getElem?_range h];rfl
theorem full_at {p:ApiProgram}{i:Nat}{f:ApiFun}(h:p.fFuns[i]?=some f):(fullL p)[i]?=some (if f.fF.fNosplit=true then 0 else 3):=by unfold fullL;rw [List.getElem?_map,h];rfl
theorem kept_at {n i:Nat}{kept:List Bool}{u:Bool}(h:i<n) (hu:kept[i]?=some u):(keptL n kept)[i]?=some u:=by unfold keptL;rw [List.getElem?_map,List.getElem?_range h];show some (kept.getD i false)=_;rw [getD_at hu]
theorem least_in (n:Int):1≤leastF n∧leastF n≤3:=by unfold leastF;split;omega;split <;> omega
theorem chk_facts {p:ApiProgram}{i:Nat}{f:ApiFun}(hf:p.fFuns[i]?=some f):chkF p (chN p).1 i≤(if f.fF.fNosplit=true then 0 else 3)∧0≤chkF p (chN p).1 i∧(f.fF.fNosplit=true→chkF p (chN p).1 i=0):=by
  have h1:=least_in (frmF p i)
  have h2:f.fF.fNosplit=true→chkF p (chN p).1 i=0:=by
    intro hn
    unfold chkF
    rw [if_pos (getD_tt.2 (chN_nos (nos_at.2 ⟨f,hf,hn⟩)))]
  refine ⟨?_,?_,h2⟩
  · split
    · rename_i hn;rw [h2 hn];omega
    · unfold chkF;split <;> omega
  · unfold chkF;split <;> omega
theorem elideLess {B:Base}{w:World}(hS:St B [] w) (A:Option Addr) (cp:Nat) (l:List ApiObject) (hC:kApiObject.C B.e A l) (hv:∀ o ∈ l,vApiObject o) :
    CallsIn Fence.wide 0 Tryz.prog 13 #[.slice A l.length cp] w (Ret B (fun _:Unit=>True) (fun _=>.bool true) (fun _=>[])):=by
  refine ZX Tryz.func13 hS ?_
  refine Zh (Zi (Zp J (Zn (Za (Zh (Zi (Zo J ?_)))))))
  (refine ZC0 rfl ZK (fun w hS=>frame hS ZQ (fun B' hB hS'=>law31_few hS' A cp l B.e hB hC hv)) ?_;rintro ⟨z,e,ok⟩ ⟨hz,hzp⟩)
  dsimp only at hz hzp ⊢
  obtain ⟨Af,cf,ft,fr,Ad,cd,dt,dr⟩:=z
  have hz1:=hz.f
  have hz3:=hz.d
  dsimp only [PZ.cells] at hz1 hz3 ⊢
  obtain ⟨P,hP⟩:∃ P,P=PZ.prog ⟨Af,cf,ft,fr,Ad,cd,dt,dr⟩ e:=⟨_,rfl⟩
  rw [← hP] at hzp
  have hPf:funsOf ft fr=P.fFuns:=by rw [hP];rfl
  have hPd:datsOf dt dr=P.fDats:=by rw [hP];rfl
  have hPe:e=P.fEntry:=by rw [hP];rfl
  have hfl:ft.length=P.fFuns.length:=by rw [← hPf];exact (zip_len hz1).symm
  have hdl:dt.length=P.fDats.length:=by rw [← hPd];exact (zip_len hz3).symm
  rw [hfl,hdl]
  clear hP hz
  subst hPe
  refine Zo J (oExt J ZP ?_)
  refine oExt J ZP ?_
  refine oAlloc J ZP (fun b3=>?_)
  refine Zsa ?_
  refine Zp J (Zn (Za (wFreeze [row kFunT B.e 49 (.slice Af P.fFuns.length cf) ft,bun (rws (Kd.int .i64) B.e 3 (ft.map hdT) fr),row kDatT B.e 98 (.slice Ad P.fDats.length cd) dt,bun (rws (Kd.int .i64) B.e 3 (dt.map hdT) dr)] ZQ (fun B1 hB1 hq1=>?_))))
  have hcF:=funs_C (hq1 _ _ ZP) hB1 (hq1 _ _ ZP) hz1
  have hcD:=dats_C (hq1 _ _ ZP) hB1 (hq1 _ _ ZP) hz3
  rw [hPf] at hcF
  rw [hPd] at hcD
  obtain ⟨-,hfc,hgF⟩:=hcF
  obtain ⟨-,hdc,hgD⟩:=hcD
  have hKp:kApiProgram.K B1.e P [.slice Af P.fFuns.length cf,.slice Ad P.fDats.length cd,.int .i64 P.fEntry]:=kApiProgram_mk B1.e P hfc hgF hdc hgD
  refine Zh (Zh (Zi (Zo J (Zno ?_))))
  refine Zn (Za (wC (fun h15=>?_) (fun h15=>?_)))
  refine Zh (Zi ?_)
  (refine ZC0 rfl ZK (fun w hS=>frame hS ZQ (fun B' hB hS'=>known31 hS')) ?_;rintro ⟨⟩ -)
  refine Zp J (Zn (Za (Zl (Zc (Zw (fi1 J ?_))))))
  exact ⟨(),trivial,rfl,Lh⟩
  obtain ⟨hsp,hpe,hbr⟩:=hzp (by simpa using h15)
  have hn:=hsp.funs
  have hll:=liveL_len P
  refine Zj (Za (Zh (Zi (Zla ?_))))
  (refine ZC0 rfl ZK (fun w hS=>frame hS ZQ (fun B' hB hS'=>elide_Plan hS' P _ (kApiProgram.K_grow hB hKp) hsp B1.e)) ?_;rintro ⟨⟨K18,k18⟩,⟨L18,l18⟩⟩ -)
  refine oAlloc J ZP (fun b5=>?_)
  refine Zsa ?_
  refine Zn (Za (Zh (Zi (Zla ?_))))
  (refine ZC0 rfl ZK (fun w hS=>frame hS ZQ (fun B' hB hS'=>ref28_Full hS' P _ (kApiProgram.K_grow hB hKp) hsp B1.e)) ?_;rintro ⟨⟨K20,k20⟩,⟨L20,l20⟩⟩ -)
  refine oAlloc J ZP (fun b6=>?_)
  refine Zsa ?_
  refine Zn (Za (Zh (Zi (Zla ?_))))
  (refine ZC0 rfl ZK (fun w hS=>frame hS ZQ (fun B' hB hS'=>ref26_Live hS' P _ (kApiProgram.K_grow hB hKp) hsp B1.e)) ?_;rintro ⟨A22,c22⟩ -)
  refine Zp J (Zn (Za (wFreeze [row Kd.bool B1.e 4 (.slice K18 P.fFuns.length k18) (keptL P.fFuns.length (liveL P)),row (Kd.int .i64) B1.e 3 (.slice L18 P.fFuns.length l18) (chkL P (chN P).1),row (Kd.int .i64) B1.e 3 (.slice L20 P.fFuns.length l20) (fullL P),row Kd.bool B1.e 4 (.slice A22 P.fFuns.length c22) (liveL P)] ZQ (fun B2 hB2 hq2=>?_))))
  have hcK:=row_Cs (W:=B1.e) (e:=4) (n:=P.fFuns.length) (cp:=k18) (xs:=keptL P.fFuns.length (liveL P)) (hq2 _ _ ZP)
  have hcC:=row_Cs (W:=B1.e) (e:=3) (n:=P.fFuns.length) (cp:=l18) (xs:=chkL P (chN P).1) (hq2 _ _ ZP)
  have hcU:=row_Cs (W:=B1.e) (e:=3) (n:=P.fFuns.length) (cp:=l20) (xs:=fullL P) (hq2 _ _ ZP)
  have hcV:=row_Cs (W:=B1.e) (e:=4) (n:=P.fFuns.length) (cp:=c22) (xs:=liveL P) (hq2 _ _ ZP)
  have hgF:=Kd.C_grow hB2 hgF
  refine Zh (Zh (Zi (Zz (n:=1) (m:=1) J J J (Zld ?_))))
  refine Zv J J (Zz (n:=0) (m:=0) J J J (Zld ?_))
  refine Zv J J (Z0 J J (Zo J (ZS (ZT 30) (fun h30=>?_) (fun h30=>?_))))
  first | exact h30 rfl | focus (simp at h30;done)
  refine Zq J J (Zz (n:=0) (m:=0) J J J (Zq J J (Zld ?_)))
  refine Zq J J (Zv J J (Zq J J (Zz (n:=0) (m:=0) J J J (Zq J J (Zld ?_)))))
  refine Zq J J (Zv J J (Zq J J (Z0 J J (Zu J J (Zn (Za (wC (fun h38=>?_) (fun h38=>?_))))))))
  first | exact h38 rfl | focus (simp at h38;done)
  refine Zj (Za (Zh (Zh (Zi (Zp J (Zn (Za (Zk (wLoop (ι:=Nat) (fun i=>[(3,.pointer (some ⟨b3,0,none⟩)),(5,.pointer (some ⟨b5,0,none⟩)),(6,.pointer (some ⟨b6,0,none⟩)),(7,.slice A22 P.fFuns.length c22),(8,.int .i64 (i:Int))]) (fun i=>[blk b3 29 [.slice Af P.fFuns.length cf,.slice Ad P.fDats.length cd,.int .i64 P.fEntry],blk b5 71 [.slice K18 P.fFuns.length k18,.slice L18 P.fFuns.length l18],blk b6 71 [.slice K20 P.fFuns.length k20,.slice L20 P.fFuns.length l20]]) (fun i=>i≤P.fFuns.length) (fun i=>P.fFuns.length-i) 0 ?_ cv Lh ?_)))))))))
  exact Nat.zero_le _
  rintro i hi
  try dsimp only
  refine Zh (Zh (Zi (Zo J (Zz (n:=0) (m:=0) J J J (Zld ?_)))))
  refine Zv J J (Zx J J (Zn (Za (wC (fun h43=>?_) (fun h43=>?_)))))
  have hil:i<P.fFuns.length:=by omega
  obtain ⟨f,hf⟩:∃ f,P.fFuns[i]?=some f:=⟨_,List.getElem?_eq_getElem ZO⟩
  obtain ⟨e1,cs1,hE⟩:=hgF.elm hf
  obtain ⟨D0,d0,D1,d1,D2,d2,D3,d3,D4,d4,rfl,m0,q0,m1,q1,m2,q2,m3,q3,m4,q4⟩:=kApiFun_open hE.K
  obtain ⟨e2,cs2,hEc⟩:=hcC.elm (chk_at (p:=P) (free:=(chN P).1) hil)
  obtain rfl:=(show cs2=[Value.int .i64 (chkF P (chN P).1 i)] from hEc.K)
  obtain ⟨e3,cs3,hEu⟩:=hcU.elm (full_at hf)
  obtain rfl:=(show cs3=[Value.int .i64 (if f.fF.fNosplit=true then 0 else 3)] from hEu.K)
  obtain ⟨u,hu⟩:∃ u,(liveL P)[i]?=some u:=⟨_,List.getElem?_eq_getElem ZO⟩
  obtain ⟨e4,cs4,hEk⟩:=hcK.elm (kept_at hil hu)
  obtain rfl:=(show cs4=[Value.bool u] from hEk.K)
  obtain ⟨e5,cs5,hEv⟩:=hcV.elm hu
  obtain rfl:=(show cs5=[Value.bool u] from hEv.K)
  obtain ⟨hc1,hc2,hc3⟩:=chk_facts hf
  refine Zj (Za (Zh (Zk (Zh (wDrawG J [0,1,2,3,4,5,6,7,8,9,10,11,12,13,14,15,16,17,18,19,20,21,22,23,24,25,26,27,28,29,30,31,32,33,34,35,36,37,38,39,40,41,42,43,44,45,46,47] [] [] 24 ZK J J (fun w0=>?_))))))
  refine Zz (n:=1) (m:=1) J J J (Zld ?_)
  refine Zo J (oIdxE J J (hEc) ZO J J ?_)
  have hc49:=(hEc).cell
  refine Zlx hc49 ?_
  refine Zz (n:=1) (m:=1) J J J (Zld ?_)
  refine Zo J (oIdxE J J (hEu) ZO J J ?_)
  have hc54:=(hEu).cell
  refine Zlx hc54 ?_
  refine Z1 J J ?_
  refine ZS0 (t:=56) (v':=.bool false) J (by congr 1;exact decide_eq_false ZO) ?_
  refine Zo J (Zq J J (Zz (n:=1) (m:=1) J J J (Zq J J (Zld ?_))))
  refine Zq J J (Zo J (Zq J J (oIdxE J J (hEc) ZO J J ?_)))
  have hc61:=(hEc).cell
  refine Zq J J (Zlx hc61 ?_)
  refine Zq J J (Zx J J ?_)
  refine ZS0 (t:=63) (v':=.bool false) J (by congr 1;exact decide_eq_false ZO) ?_
  refine Zu J J (Zo J (Zq J J (Zz (n:=0) (m:=0) J J J (Zq J J (Zld ?_)))))
  refine Zq J J (Zo J (Zq J J (oIdxE J J (hE) ZO J J ?_)))
  have hc69:=(hE).cell
  refine Zq J J (ZF (ZT 3) (ZT 3) ?_)
  refine Zq J J (ZF (ZT 3) (ZT 6) ?_)
  refine Zq J J (Zlx hc69 ?_)
  refine Zq J J (Zo J (ZS (ZT 73) (fun h73=>?_) (fun h73=>?_)))
  refine Zq J J (Zz (n:=1) (m:=1) J J J (Zq J J (Zld ?_)))
  refine Zq J J (Zo J (Zq J J (oIdxE J J (hEc) ZO J J ?_)))
  have hc77:=(hEc).cell
  refine Zq J J (Zlx hc77 ?_)
  refine Zq J J (Z0 J J ?_)
  refine ZS0 (t:=79) (v':=.bool false) rfl (by congr 1;exact decide_eq_false (by rw [hc3 (show f.fF.fNosplit=true from h73)];simp)) ?_
  refine Zq J J (Zt J J (Zu J J (Zo J (Zq J J (Zz (n:=0) (m:=0) J J J (Zq J J (Zld ?_)))))))
  refine Zq J J (Zo J (Zq J J (oIdxE J J (hEk) ZO J J ?_)))
  have hc86:=(hEk).cell
  refine Zq J J (Zlx hc86 ?_)
  refine Zq J J (Zo J (Zq J J (Zo J (Zq J J (oIdxE J J (hEv) ZO J J ?_)))))
  have hc90:=(hEv).cell
  refine Zq J J (Zlx hc90 ?_)
  refine Zq J J (oNeqBool J J J (ZS0 (t:=92) (v':=.bool false) J (by simp) ?_))
  refine Zu J J (Z6 (Zn (Za (wCondF J (Zj (Zd (Za (Zi (Zo J (Zsu ?_))))))))))
  refine Zp J (Zn (Za ?_))
  exact ⟨rfl,i+1,by omega,by omega,cv,Lh⟩
  refine Zr J J J J (Zr J J J J (Zr J J J J (Zr J J J J (Zr J J J J (Zr J J J J (Zq J J (Zu J J (Zu J J (Zo J (Zq J J (Zz (n:=0) (m:=0) J J J (Zq J J (Zld ?_)))))))))))))
  refine Zq J J (Zo J (Zq J J (oIdxE J J (hEk) ZO J J ?_)))
  have hc86:=(hEk).cell
  refine Zq J J (Zlx hc86 ?_)
  refine Zq J J (Zo J (Zq J J (Zo J (Zq J J (oIdxE J J (hEv) ZO J J ?_)))))
  have hc90:=(hEv).cell
  refine Zq J J (Zlx hc90 ?_)
  refine Zq J J (oNeqBool J J J (ZS0 (t:=92) (v':=.bool false) J (by simp) ?_))
  refine Zu J J (Z6 (Zn (Za (wCondF J (Zj (Zd (Za (Zi (Zo J (Zsu ?_))))))))))
  refine Zp J (Zn (Za ?_))
  exact ⟨rfl,i+1,by omega,by omega,cv,Lh⟩
  obtain rfl:i=P.fFuns.length:=by omega
  refine Zm (Zb (Zb (Ze (Za (Zh (Zi ?_))))))
  (refine ZC0 rfl ZK (fun w hS=>frame hS ZQ (fun B' hB hS'=>known31 hS')) ?_;rintro ⟨⟩ -)
  refine Zp J (Zn (Za (Zl (Zw (fi1 J ?_)))))
  exact ⟨(),trivial,rfl,Lh⟩
end Go.Proofs.YtogaiijhicfoaaaGreatY
