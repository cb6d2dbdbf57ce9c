/-
  sheerleglaw23: known.
-/
import Derived.Test.YtnidmlngkpkmlaaSg
import Derived.Test.YtnidmlngkpkmlaaKp
import Derived.Test.YtnidmlngkpkmlaaFa
namespace Go.Proofs.YtnidmlngkpkmlaaS
set_option linter.unusedVariables false
set_option linter.unusedSimpArgs false
open Go.RowKit Go.Proofs.YtnidmlngkpkmlaaK Go.Proofs.YtnidmlngkpkmlaaT

set_option maxRecDepth 100000 in
theorem rej_eql (p q : Int × Int × Int) (w : World) : (binOp .eql 31 (rejV p) (rejV q)).run Try.prog w = .ok (.bool (decide (p = q))) w := by
  obtain ⟨a, b, c⟩ := p
  obtain ⟨a', b', c'⟩ := q
  simp [go_sem, binOp, Op.equal, Op.maxDepth]
  by_cases h1 : a = a'
  · subst h1
    by_cases h2 : b = b'
    · subst h2
      by_cases h3 : c = c'
      · subst h3; simp
      · simp [h3]
    · simp [h2]
  · simp [h1]
set_option maxRecDepth 100000 in
theorem rej_neq (p q : Int × Int × Int) (w : World) : (binOp .neq 31 (rejV p) (rejV q)).run Try.prog w = .ok (.bool (decide (¬ p = q))) w := by
  obtain ⟨a, b, c⟩ := p
  obtain ⟨a', b', c'⟩ := q
  simp [go_sem, binOp, Op.equal, Op.maxDepth]
  by_cases h1 : a = a'
  · subst h1
    by_cases h2 : b = b'
    · subst h2
      by_cases h3 : c = c'
      · subst h3; simp
      · simp [h3]
    · simp [h2]
  · simp [h1]
def symF : ApiSymbol := ⟨⟨#[102]⟩, false, 1, 0, 0⟩
def symFx : ApiSymbol := ⟨⟨#[102]⟩, false, 1, 0, -1⟩
def symG : ApiSymbol := ⟨⟨#[103]⟩, false, 2, 0, 0⟩
def kl0 : List ApiObject := [⟨[symFx], [], []⟩, ⟨[symG, symF], [], []⟩]
def kl1 : List ApiObject := [⟨[symF], [], []⟩, ⟨[symF], [], []⟩]
theorem small_kl0 : Small kl0 := by
  refine ⟨by decide, fun o h => ?_⟩
  simp only [kl0, List.mem_cons, List.not_mem_nil, or_false] at h
  rcases h with rfl | rfl <;> decide
theorem small_kl1 : Small kl1 := by
  refine ⟨by decide, fun o h => ?_⟩
  simp only [kl1, List.mem_cons, List.not_mem_nil, or_false] at h
  rcases h with rfl | rfl <;> decide
theorem small_nil : Small [] := ⟨by decide, fun o h => by cases h⟩
theorem first_kl0 : firstOf kl0 ⟨#[102]⟩ = some (1, 1) := by decide
theorem bound_kl0 : boundS kl0 0 0 = (1, 1, 0) := by decide
theorem twice_kl1 : twiceS kl1 = some (1, 0) := by decide
theorem check_kl0 : checkS kl0 = (0, 0, 0) := by decide
theorem obj_K {w : World} {s : List ApiSymbol} {A0 : Option Addr} {n c0 : Nat} (h : kApiSymbol.C w A0 s) (hn : s.length = n) (hc : n ≤ c0) : kApiObject.K w ⟨s, [], []⟩ [.slice A0 n c0, .slice none 0 0, .slice none 0 0] := by
  subst hn
  exact kApiObject_mk w ⟨s, [], []⟩ hc h (Nat.le_refl _) (Kd.C_nil _ _ _) (Nat.le_refl _) (Kd.C_nil _ _ _)
theorem sym_one {w : World} (x : ApiSymbol) : Cat kApiSymbol w [x] [.string x.fName, .bool x.fLocal, .int .i64 x.fSort, .int .i64 x.fKind, .int .i64 x.fDef] := Cat.one (kApiSymbol_mk w x)
theorem C_kl0 {w : World} {b13 b17 b19 : Nat} (h13 : (blk b13 42 [.string symFx.fName, .bool symFx.fLocal, .int .i64 symFx.fSort, .int .i64 symFx.fKind, .int .i64 symFx.fDef]).q w)
    (h17 : (blk b17 42 [.string symG.fName, .bool symG.fLocal, .int .i64 symG.fSort, .int .i64 symG.fKind, .int .i64 symG.fDef, .string symF.fName, .bool symF.fLocal, .int .i64 symF.fSort, .int .i64 symF.fKind, .int .i64 symF.fDef]).q w)
    (h19 : (blk b19 40 [.slice (some ⟨b13, 0, none⟩) 1 1, .slice none 0 0, .slice none 0 0, .slice (some ⟨b17, 0, none⟩) 2 2, .slice none 0 0, .slice none 0 0]).q w) : kApiObject.C w (some ⟨b19, 0, none⟩) kl0 := by
  have e1 := C_blk (kd := kApiSymbol) h13 (xs := [symFx]) (by decide) (sym_one _)
  have e2 := C_blk (kd := kApiSymbol) h17 (xs := [symG, symF]) (by decide) (Cat.app (sym_one _) (sym_one _))
  exact C_blk h19 (by decide) (Cat.app (Cat.one (obj_K e1 rfl (by decide))) (Cat.one (obj_K e2 rfl (by decide))))
theorem C_kl1 {w : World} {b13 b17 b19 : Nat} (h13 : (blk b13 42 [.string symF.fName, .bool symF.fLocal, .int .i64 symF.fSort, .int .i64 symF.fKind, .int .i64 symF.fDef]).q w)
    (h17 : (blk b17 42 [.string symF.fName, .bool symF.fLocal, .int .i64 symF.fSort, .int .i64 symF.fKind, .int .i64 symF.fDef]).q w)
    (h19 : (blk b19 40 [.slice (some ⟨b13, 0, none⟩) 1 1, .slice none 0 0, .slice none 0 0, .slice (some ⟨b17, 0, none⟩) 1 1, .slice none 0 0, .slice none 0 0]).q w) : kApiObject.C w (some ⟨b19, 0, none⟩) kl1 := by
  have e1 := C_blk (kd := kApiSymbol) h13 (xs := [symF]) (by decide) (sym_one _)
  have e2 := C_blk (kd := kApiSymbol) h17 (xs := [symF]) (by decide) (sym_one _)
  exact C_blk h19 (by decide) (Cat.app (Cat.one (obj_K e1 rfl (by decide))) (Cat.one (obj_K e2 rfl (by decide))))
set_option maxRecDepth 100000 in
set_option maxHeartbeats 1000000 in
theorem known23 {B : Base} {w : World} (hS : St B [] w) :
    CallsIn Fence.wide 0 Try.prog 14 #[] w (Ret B (fun _ : Unit => True) (fun _ => .bool true) (fun _ => [])) := by
  (refine enter Try.func14 rfl rfl hS ?_; simp only [List.zipIdx_cons, List.zipIdx_nil, List.map_cons, List.map_nil, Nat.reduceAdd, Nat.zero_add])
  refine wSeq ?_
  refine wRegion' ?_
  refine oAssign rfl ?_
  refine oNil ?_
  refine thn_n ?_
  refine wSeq ?_
  refine wRegion' ?_
  refine oBuild (Parts.cons rfl (Parts.cons rfl Parts.nil)) rfl rfl (Built.cons (off := 0) (s := 1) rfl (by first | exact CellsOf.agg | exact CellsOf.one rfl) rfl (by repeat (first | exact PutL.done | apply PutL.put | apply PutL.skip)) (Built.cons (off := 2) (s := 1) rfl (by first | exact CellsOf.agg | exact CellsOf.one rfl) rfl (by repeat (first | exact PutL.done | apply PutL.put | apply PutL.skip)) Built.nil)) ?_
  refine oAlloc rfl (by first | exact CellsOf.agg | exact CellsOf.one rfl) (fun b1 => ?_)
  refine oStA rfl rfl rfl rfl (by repeat (first | exact Pick.here | apply Pick.there)) (by rfl) ?_
  refine oNil ?_
  refine thn_n ?_
  refine wSeq ?_
  refine wRegion' ?_
  refine oBuild (Parts.cons rfl (Parts.cons rfl (Parts.cons rfl Parts.nil))) rfl rfl (Built.cons (off := 0) (s := 1) rfl (by first | exact CellsOf.agg | exact CellsOf.one rfl) rfl (by repeat (first | exact PutL.done | apply PutL.put | apply PutL.skip)) (Built.cons (off := 2) (s := 1) rfl (by first | exact CellsOf.agg | exact CellsOf.one rfl) rfl (by repeat (first | exact PutL.done | apply PutL.put | apply PutL.skip)) (Built.cons (off := 4) (s := 1) rfl (by first | exact CellsOf.agg | exact CellsOf.one rfl) rfl (by repeat (first | exact PutL.done | apply PutL.put | apply PutL.skip)) Built.nil))) ?_
  refine oBuildSlice1 rfl rfl rfl rfl rfl (by first | exact CellsOf.agg | exact CellsOf.one rfl) rfl (fun b13 => ?_)
  refine oBuild (Parts.cons rfl Parts.nil) rfl rfl (Built.cons (off := 0) (s := 1) rfl (by first | exact CellsOf.agg | exact CellsOf.one rfl) rfl (by repeat (first | exact PutL.done | apply PutL.put | apply PutL.skip)) Built.nil) ?_
  refine oBuild (Parts.cons rfl (Parts.cons rfl Parts.nil)) rfl rfl (Built.cons (off := 0) (s := 1) rfl (by first | exact CellsOf.agg | exact CellsOf.one rfl) rfl (by repeat (first | exact PutL.done | apply PutL.put | apply PutL.skip)) (Built.cons (off := 2) (s := 1) rfl (by first | exact CellsOf.agg | exact CellsOf.one rfl) rfl (by repeat (first | exact PutL.done | apply PutL.put | apply PutL.skip)) Built.nil)) ?_
  refine oLdA rfl (by repeat (first | exact Pick.here | apply Pick.there)) rfl (by repeat (first | exact SubL.done | apply SubL.take | apply SubL.drop)) ?_
  refine oBuildSliceF (Parts.cons rfl (Parts.cons rfl Parts.nil)) rfl rfl rfl rfl rfl (Fulls.cons (by first | exact CellsOf.agg | exact CellsOf.one rfl) rfl (Fulls.cons (by first | exact CellsOf.agg | exact CellsOf.one rfl) rfl Fulls.nil (by repeat (first | exact AppL.nil | apply AppL.cons))) (by repeat (first | exact AppL.nil | apply AppL.cons))) (fun b17 => ?_)
  refine oBuild (Parts.cons rfl Parts.nil) rfl rfl (Built.cons (off := 0) (s := 1) rfl (by first | exact CellsOf.agg | exact CellsOf.one rfl) rfl (by repeat (first | exact PutL.done | apply PutL.put | apply PutL.skip)) Built.nil) ?_
  refine oBuildSliceF (Parts.cons rfl (Parts.cons rfl Parts.nil)) rfl rfl rfl rfl rfl (Fulls.cons (by first | exact CellsOf.agg | exact CellsOf.one rfl) rfl (Fulls.cons (by first | exact CellsOf.agg | exact CellsOf.one rfl) rfl Fulls.nil (by repeat (first | exact AppL.nil | apply AppL.cons))) (by repeat (first | exact AppL.nil | apply AppL.cons))) (fun b19 => ?_)
  refine oSeal (W := B.e) (kd := kApiObject) (A := some ⟨b19, 0, none⟩) (xs := kl0) [blk b13 42 _, blk b17 42 _, blk b19 40 _] (by repeat' (first | exact Split.nil | exact Pick.here | apply Split.cons | apply Pick.there)) (fun w hq _ => C_kl0 (b13 := b13) (b17 := b17) (b19 := b19) (hq _ _ (by repeat (first | exact Pick.here | apply Pick.there))) (hq _ _ (by repeat (first | exact Pick.here | apply Pick.there))) (hq _ _ (by repeat (first | exact Pick.here | apply Pick.there)))) (fun S0 => ?_)
  refine oAssign rfl ?_
  refine oNil ?_
  refine thn_n ?_
  refine wSeq ?_
  refine wRegion' ?_
  refine oMove rfl ?_
  (refine oCall rfl (by kernel_rfl) (fun w hS => frame' hS .nil (fun B' hB hR hS' => find_any hS' (some ⟨b19, 0, none⟩) 2 kl0 ⟨#[102]⟩ (rdr_C (hR _ _ (by repeat (first | exact Pick.here | apply Pick.there))) hB) small_kl0)) ?_; rintro ⟨⟩ -)
  rw [first_kl0]; try dsimp only [Option.getD, Option.isSome]
  refine oMove rfl ?_
  refine oExt rfl (by repeat (first | exact GetAt.here | apply GetAt.there)) ?_
  refine oExt rfl (by repeat (first | exact GetAt.here | apply GetAt.there)) ?_
  refine oExt rfl (by repeat (first | exact GetAt.here | apply GetAt.there)) ?_
  refine oAssign rfl ?_
  refine oAssign rfl ?_
  refine oAssign rfl ?_
  refine oNil ?_
  refine thn_n ?_
  refine wSeq ?_
  refine wRegion' ?_
  refine oMove rfl ?_
  (refine oCall rfl (by kernel_rfl) (fun w hS => frame' hS .nil (fun B' hB hR hS' => boundx_any hS' (some ⟨b19, 0, none⟩) 2 kl0 0 0 (rdr_C (hR _ _ (by repeat (first | exact Pick.here | apply Pick.there))) hB) small_kl0)) ?_; rintro ⟨⟩ -)
  rw [bound_kl0]; try dsimp only
  refine oMove rfl ?_
  refine oExt rfl (by repeat (first | exact GetAt.here | apply GetAt.there)) ?_
  refine oExt rfl (by repeat (first | exact GetAt.here | apply GetAt.there)) ?_
  refine oExt rfl (by repeat (first | exact GetAt.here | apply GetAt.there)) ?_
  refine oAssign rfl ?_
  refine oAssign rfl ?_
  refine oAssign rfl ?_
  refine oNil ?_
  refine thn_n ?_
  refine wSeq ?_
  refine wRegion' ?_
  refine oLdA rfl (by repeat (first | exact Pick.here | apply Pick.there)) rfl (by repeat (first | exact SubL.done | apply SubL.take | apply SubL.drop)) ?_
  refine oBuildSlice1 rfl rfl rfl rfl rfl (by first | exact CellsOf.agg | exact CellsOf.one rfl) rfl (fun b34 => ?_)
  refine oBuild (Parts.cons rfl Parts.nil) rfl rfl (Built.cons (off := 0) (s := 1) rfl (by first | exact CellsOf.agg | exact CellsOf.one rfl) rfl (by repeat (first | exact PutL.done | apply PutL.put | apply PutL.skip)) Built.nil) ?_
  refine oLdA rfl (by repeat (first | exact Pick.here | apply Pick.there)) rfl (by repeat (first | exact SubL.done | apply SubL.take | apply SubL.drop)) ?_
  refine oBuildSlice1 rfl rfl rfl rfl rfl (by first | exact CellsOf.agg | exact CellsOf.one rfl) rfl (fun b37 => ?_)
  refine oBuild (Parts.cons rfl Parts.nil) rfl rfl (Built.cons (off := 0) (s := 1) rfl (by first | exact CellsOf.agg | exact CellsOf.one rfl) rfl (by repeat (first | exact PutL.done | apply PutL.put | apply PutL.skip)) Built.nil) ?_
  refine oBuildSliceF (Parts.cons rfl (Parts.cons rfl Parts.nil)) rfl rfl rfl rfl rfl (Fulls.cons (by first | exact CellsOf.agg | exact CellsOf.one rfl) rfl (Fulls.cons (by first | exact CellsOf.agg | exact CellsOf.one rfl) rfl Fulls.nil (by repeat (first | exact AppL.nil | apply AppL.cons))) (by repeat (first | exact AppL.nil | apply AppL.cons))) (fun b39 => ?_)
  refine oSeal (W := B.e) (kd := kApiObject) (A := some ⟨b39, 0, none⟩) (xs := kl1) [blk b34 42 _, blk b37 42 _, blk b39 40 _] (by repeat' (first | exact Split.nil | exact Pick.here | apply Split.cons | apply Pick.there)) (fun w hq _ => C_kl1 (b13 := b34) (b17 := b37) (b19 := b39) (hq _ _ (by repeat (first | exact Pick.here | apply Pick.there))) (hq _ _ (by repeat (first | exact Pick.here | apply Pick.there))) (hq _ _ (by repeat (first | exact Pick.here | apply Pick.there)))) (fun S1 => ?_)
  (refine oCall rfl (by kernel_rfl) (fun w hS => frame' hS .nil (fun B' hB hR hS' => twice_any hS' (some ⟨b39, 0, none⟩) 2 kl1 (rdr_C (hR _ _ (by repeat (first | exact Pick.here | apply Pick.there))) hB) small_kl1)) ?_; rintro ⟨⟩ -)
  rw [twice_kl1]; try dsimp only [Option.getD, Option.isSome, if_true]
  refine oMove rfl ?_
  refine oExt rfl (by repeat (first | exact GetAt.here | apply GetAt.there)) ?_
  refine oExt rfl (by repeat (first | exact GetAt.here | apply GetAt.there)) ?_
  refine oAlloc rfl (by first | exact CellsOf.agg | exact CellsOf.one rfl) (fun b9 => ?_)
  refine oStA rfl rfl rfl rfl (by repeat (first | exact Pick.here | apply Pick.there)) (by rfl) ?_
  refine oAssign rfl ?_
  refine oNil ?_
  refine thn_n ?_
  refine wSeq ?_
  refine wRegion' ?_
  refine oMove rfl ?_
  refine oEql rfl rfl ?_
  refine oMove rfl ?_
  first | refine oSplit (t := 45) rfl (fun h45 => ?_) (fun h45 => ?_) | refine oSplitB (t := 45) rfl (fun h45 => ?_) (fun h45 => ?_)
  ·
    refine oWant rfl rfl ?_
    refine oMove rfl ?_
    refine oWant rfl rfl ?_
    refine oEql rfl rfl ?_
    refine oPickT rfl rfl ?_
    refine oMove rfl ?_
    first | refine oSplit (t := 49) rfl (fun h49 => ?_) (fun h49 => ?_) | refine oSplitB (t := 49) rfl (fun h49 => ?_) (fun h49 => ?_)
    ·
      refine oWant rfl rfl ?_
      refine oMove rfl ?_
      refine oPickT rfl rfl ?_
      refine oMove rfl ?_
      first | refine oSplit (t := 52) rfl (fun h52 => ?_) (fun h52 => ?_) | refine oSplitB (t := 52) rfl (fun h52 => ?_) (fun h52 => ?_)
      ·
        refine oWant rfl rfl ?_
        refine oMove rfl ?_
        refine oWant rfl rfl ?_
        refine oEql rfl rfl ?_
        refine oPickT rfl rfl ?_
        refine oMove rfl ?_
        first | refine oSplit (t := 56) rfl (fun h56 => ?_) (fun h56 => ?_) | refine oSplitB (t := 56) rfl (fun h56 => ?_) (fun h56 => ?_)
        ·
          refine oWant rfl rfl ?_
          refine oMove rfl ?_
          refine oWant rfl rfl ?_
          refine oEql rfl rfl ?_
          refine oPickT rfl rfl ?_
          refine oMove rfl ?_
          first | refine oSplit (t := 60) rfl (fun h60 => ?_) (fun h60 => ?_) | refine oSplitB (t := 60) rfl (fun h60 => ?_) (fun h60 => ?_)
          ·
            refine oWant rfl rfl ?_
            refine oMove rfl ?_
            refine oWant rfl rfl ?_
            refine oEql rfl rfl ?_
            refine oPickT rfl rfl ?_
            refine oMove rfl ?_
            first | refine oSplit (t := 64) rfl (fun h64 => ?_) (fun h64 => ?_) | refine oSplitB (t := 64) rfl (fun h64 => ?_) (fun h64 => ?_)
            ·
              refine oWant rfl rfl ?_
              refine oMove rfl ?_
              refine oPickT rfl rfl ?_
              refine oMove rfl ?_
              first | refine oSplit (t := 67) rfl (fun h67 => ?_) (fun h67 => ?_) | refine oSplitB (t := 67) rfl (fun h67 => ?_) (fun h67 => ?_)
              ·
                refine oWant rfl rfl ?_
                refine oLdA rfl (by repeat (first | exact Pick.here | apply Pick.there)) rfl (by repeat (first | exact SubL.done | apply SubL.take | apply SubL.drop)) ?_
                refine oWant rfl rfl ?_
                refine oBuild (Parts.cons rfl (Parts.cons rfl Parts.nil)) rfl rfl (Built.cons (off := 0) (s := 1) rfl (by first | exact CellsOf.agg | exact CellsOf.one rfl) rfl (by repeat (first | exact PutL.done | apply PutL.put | apply PutL.skip)) (Built.cons (off := 1) (s := 1) rfl (by first | exact CellsOf.agg | exact CellsOf.one rfl) rfl (by repeat (first | exact PutL.done | apply PutL.put | apply PutL.skip)) Built.nil)) ?_
                refine oWant rfl rfl ?_
                refine oBinV (r := .bool true) rfl rfl (fun w => run_eqGuard_agg w .eql _ _ _ _ _ Try.eqGuardType31) (fun w => rej_eql (12, 1, 0) (12, 1, 0) w) ?_
                refine oPickT rfl rfl ?_
                refine oMove rfl ?_
                first | refine oSplit (t := 72) rfl (fun h72 => ?_) (fun h72 => ?_) | refine oSplitB (t := 72) rfl (fun h72 => ?_) (fun h72 => ?_)
                ·
                  refine oWant rfl rfl ?_
                  refine oMove rfl ?_
                  refine oWant rfl rfl ?_
                  (refine oCall rfl (by kernel_rfl) (fun w hS => frame' hS .nil (fun B' hB hR hS' => check_any hS' (some ⟨b19, 0, none⟩) 2 kl0 (rdr_C (hR _ _ (by repeat (first | exact Pick.here | apply Pick.there))) hB) small_kl0)) ?_; rintro ⟨⟩ -)
                  rw [check_kl0]; try dsimp only
                  refine oWant rfl rfl ?_
                  first | refine oField rfl rfl rfl (by repeat (first | exact GetAt.here | apply GetAt.there)) ?_ | refine oFieldA rfl rfl rfl (by repeat (first | exact SubL.done | apply SubL.take | apply SubL.drop)) ?_
                  refine oWant rfl rfl ?_
                  refine oEql rfl rfl ?_
                  refine oPickT rfl rfl ?_
                  refine oMove rfl ?_
                  first | refine oSplit (t := 78) rfl (fun h78 => ?_) (fun h78 => ?_) | refine oSplitB (t := 78) rfl (fun h78 => ?_) (fun h78 => ?_)
                  ·
                    refine oWant rfl rfl ?_
                    (refine oCall rfl (by kernel_rfl) (fun w hS => frame' hS .nil (fun B' hB hR hS' => check_any hS' none 0 [] (Kd.C_nil _ _ _) small_nil)) ?_; rintro ⟨⟩ -)
                    refine oWant rfl rfl ?_
                    refine oBuild (Parts.cons rfl (Parts.cons rfl (Parts.cons rfl Parts.nil))) rfl rfl (Built.cons (off := 0) (s := 1) rfl (by first | exact CellsOf.agg | exact CellsOf.one rfl) rfl (by repeat (first | exact PutL.done | apply PutL.put | apply PutL.skip)) (Built.cons (off := 1) (s := 1) rfl (by first | exact CellsOf.agg | exact CellsOf.one rfl) rfl (by repeat (first | exact PutL.done | apply PutL.put | apply PutL.skip)) (Built.cons (off := 2) (s := 1) rfl (by first | exact CellsOf.agg | exact CellsOf.one rfl) rfl (by repeat (first | exact PutL.done | apply PutL.put | apply PutL.skip)) Built.nil))) ?_
                    refine oWant rfl rfl ?_
                    refine oBinV (r := .bool true) rfl rfl (fun w => run_eqGuard_agg w .eql _ _ _ _ _ Try.eqGuardType31) (fun w => rej_eql (19, -1, -1) (19, -1, -1) w) ?_
                    refine oPickT rfl rfl ?_
                    refine oAssign rfl ?_
                    refine oNil ?_
                    refine thn_n ?_
                    refine wRet ?_
                    refine fin_r ?_
                    refine ⟨rfl, _, (ResL.cons (ResR.tmp rfl) ResL.nil), ?_⟩
                    exact ⟨(), trivial, rfl, (Leads.has (by repeat' (first | exact Has.nil | exact Pick.here | apply Has.cons | apply Pick.there)))⟩
                  ·
                    first | exact absurd rfl h78 | cases h78
                ·
                  first | exact absurd rfl h72 | cases h72
              ·
                first | exact absurd rfl h67 | cases h67
            ·
              first | exact absurd rfl h64 | cases h64
          ·
            first | exact absurd rfl h60 | cases h60
        ·
          first | exact absurd rfl h56 | cases h56
      ·
        first | exact absurd rfl h52 | cases h52
    ·
      first | exact absurd rfl h49 | cases h49
  ·
    first | exact absurd rfl h45 | cases h45
end Go.Proofs.YtnidmlngkpkmlaaS
