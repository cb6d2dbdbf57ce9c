import Derived.Test.YtcacohoanlljhaaGreatVe

/-
  Package verify: operands, references, Instr, Check, Class.
-/
namespace Go.Proofs.YtcacohoanlljhaaGreatV
set_option linter.unusedVariables false
set_option linter.unusedSimpArgs false
open Go.RowKit Go.Proofs.YtcacohoanlljhaaGreatK Go.Proofs.YtcacohoanlljhaaGreatT Go.Proofs.YtcacohoanlljhaaGreatL

set_option maxRecDepth 100000 in
theorem index_rune {B : Base} {w : World} (hS : St B [] w) (l : List Int) (A : Option Addr) (cp : Nat) (hC : (Kd.int .i32).C B.e A l) (v : Int) :
    CallsIn Fence.wide 0 Tryz.prog 150 #[.slice A l.length cp, .int .i32 v] w (Ret B (fun _ : Unit => True) (fun _ => .int .i64 (idxI (fun y => decide (v = y)) l)) (fun _ => [])) := by
  have hl := hC.1
  (refine enter Tryz.func150 rfl rfl hS ?_; simp only [List.zipIdx_cons, List.zipIdx_nil, List.map_cons, List.map_nil, Nat.reduceAdd, Nat.zero_add])
  refine wSeq ?_
  refine wRegion' ?_
  refine oAssign rfl ?_
  refine oNil ?_
  refine thn_n ?_
  refine wSeq ?_
  refine wSeq ?_
  refine wRegion' ?_
  refine oMove rfl ?_
  refine oLenS rfl rfl ?_
  refine oMove rfl ?_
  refine oNil ?_
  refine thn_n ?_
  refine wBlock ?_
  refine wLoop (ι := Nat) (fun i => [(0, .slice A l.length cp), (1, .int .i32 v), (7, .int .i64 (l.length : Int)), (8, .int .i64 (i : Int))]) (fun i => []) (fun i => i ≤ l.length ∧ ∀ y ∈ l.take i, decide (v = y) = false) (fun i => l.length - i) 0 ?_ (by repeat (first | exact trivial | refine And.intro rfl ?_)) (Leads.has (by repeat' (first | exact Has.nil | exact Pick.here | apply Has.cons | apply Pick.there))) ?_
  ·
    exact ⟨Nat.zero_le _, by simp⟩
  ·
    rintro i ⟨hi, hs⟩
    try dsimp only
    refine wSeq ?_
    refine wRegion' ?_
    refine oLss rfl rfl ?_
    refine oNil ?_
    refine thn_n ?_
    refine wSeq ?_
    first | refine wCond rfl (fun h9 => ?_) (fun h9 => ?_) | refine wCondB rfl (fun h9 => ?_) (fun h9 => ?_)
    ·
      refine wSkip ?_
      refine thn_n ?_
      refine wSeq ?_
      refine wBlock ?_
      refine wSeq ?_
      refine wRegion' ?_
      refine oMove rfl ?_
      refine oAssign rfl ?_
      refine oNil ?_
      refine thn_n ?_
      refine wSeq ?_
      refine wRegion' ?_
      refine oMove rfl ?_
      refine oMove rfl ?_
      refine oMove rfl ?_
      refine oIdx rfl rfl (hC) rfl (by omega) rfl rfl (fun e14 u14 cs14 hu14 hk14 hc14 => ?_)
      obtain rfl := hk14
      first | refine oLdX rfl hc14 rfl rfl ?_ | refine oLdXA rfl hc14 rfl (by repeat (first | exact SubL.done | apply SubL.take | apply SubL.drop)) ?_ | (refine oLdR1 rfl (by repeat (first | exact Pick.here | apply Pick.there)) (by omega) rfl (fun u15 hu15 => ?_))
      refine oEql rfl rfl ?_
      refine oNil ?_
      refine thn_n ?_
      first | refine wCond rfl (fun h16 => ?_) (fun h16 => ?_) | refine wCondB rfl (fun h16 => ?_) (fun h16 => ?_)
      ·
        refine wSeq ?_
        refine wRegion' ?_
        refine oMove rfl ?_
        refine oAssign rfl ?_
        refine oNil ?_
        refine thn_n ?_
        refine wRet ?_
        refine blk_r ?_
        refine thn_r ?_
        refine thn_r ?_
        refine blk_r ?_
        refine thn_r ?_
        refine fin_r ?_
        refine ⟨rfl, _, (ResL.cons (ResR.tmp rfl) ResL.nil), ?_⟩
        exact ⟨(), trivial, by rw [idxI_stop (p := fun y : Int => decide (v = y)) hs hu14 (decide_eq_true h16)]; rfl, (Leads.has (by repeat' (first | exact Has.nil | exact Pick.here | apply Has.cons | apply Pick.there)))⟩
      ·
        refine wSkip ?_
        refine blk_n ?_
        refine thn_n ?_
        refine wRegion' ?_
        refine oSucc rfl rfl (by omega) ?_
        refine oMove rfl ?_
        refine oNil ?_
        refine thn_n ?_
        exact ⟨rfl, i + 1, ⟨by omega, take_not (p := fun y : Int => decide (v = y)) hs hu14 (decide_eq_false h16)⟩, by omega, (by repeat (first | exact trivial | refine And.intro rfl ?_)), (Leads.has (by repeat' (first | exact Has.nil | exact Pick.here | apply Has.cons | apply Pick.there)))⟩
    ·
      refine wExit ?_
      refine thn_x ?_
      refine thn_x ?_
      refine blk_x ?_
      refine thn_n ?_
      refine wSeq ?_
      refine wRegion' ?_
      refine oAssign rfl ?_
      refine oNil ?_
      refine thn_n ?_
      refine wRet ?_
      refine fin_r ?_
      refine ⟨rfl, _, (ResL.cons (ResR.tmp rfl) ResL.nil), ?_⟩
      obtain rfl : i = l.length := by omega
      rw [List.take_length] at hs
      exact ⟨(), trivial, by rw [idxI_none (p := fun y : Int => decide (v = y)) hs]; rfl, (Leads.has (by repeat' (first | exact Has.nil | exact Pick.here | apply Has.cons | apply Pick.there)))⟩
set_option maxRecDepth 100000 in
theorem contains_rune {B : Base} {w : World} (hS : St B [] w) (l : List Int) (A : Option Addr) (cp : Nat) (hC : (Kd.int .i32).C B.e A l) (v : Int) :
    CallsIn Fence.wide 0 Tryz.prog 107 #[.slice A l.length cp, .int .i32 v] w (Ret B (fun _ : Unit => True) (fun _ => .bool (l.any fun y => decide (v = y))) (fun _ => [])) := by
  (refine enter Tryz.func107 rfl rfl hS ?_; simp only [List.zipIdx_cons, List.zipIdx_nil, List.map_cons, List.map_nil, Nat.reduceAdd, Nat.zero_add])
  refine wSeq ?_
  refine wRegion' ?_
  refine oAssign rfl ?_
  refine oNil ?_
  refine thn_n ?_
  refine wSeq ?_
  refine wRegion' ?_
  refine oMove rfl ?_
  refine oMove rfl ?_
  (refine oCall rfl (by kernel_rfl) (fun w hS => frame hS (by repeat' (first | exact Split.nil | exact Pick.here | apply Split.cons | apply Pick.there)) (fun B' hB hS' => index_rune hS' l A cp (Kd.C_grow hB hC) v)) ?_; rintro ⟨⟩ -)
  refine oGeq rfl rfl ?_
  refine oAssign rfl ?_
  refine oNil ?_
  refine thn_n ?_
  refine wRet ?_
  refine fin_r ?_
  refine ⟨rfl, _, (ResL.cons (ResR.tmp rfl) ResL.nil), ?_⟩
  exact ⟨(), trivial, by show Value.bool (decide (0 ≤ idxI (fun y : Int => decide (v = y)) l)) = _; congr 1; rw [Bool.eq_iff_iff, decide_eq_true_eq]; exact idxI_iff, (Leads.has (by repeat' (first | exact Has.nil | exact Pick.here | apply Has.cons | apply Pick.there)))⟩
/-! ### operands -/
def hasL (j : Nat) (letter : Int) : Bool := (runesL (looksL.getD j (ByteArray.empty, 0)).1).any fun y => decide (letter = y)
def lookE (f : ApiFunc) (k letter n : Int) (j : Nat) : Int := if hasL j letter then lookV f k n j else 0
def letE (f : ApiFunc) (k letter n : Int) : Int := fstE ((List.range 6).map (lookE f k letter n))
def opsE (f : ApiFunc) (x : ApiInstr) (k : Int) (i : Nat) : Int := letE f k (byteAt (shapeF x.fOp) i) (opdF x i)
def operF (f : ApiFunc) (x : ApiInstr) (k : Int) : Int := fstE ((List.range (shapeF x.fOp).size).map (opsE f x k))
theorem rmap_at {n i : Nat} {e : Nat → Int} (h : i < n) : ((List.range n).map e)[i]? = some (e i) := by rw [List.getElem?_map, List.getElem?_range h]; rfl
theorem rmap_all {n : Nat} {e : Nat → Int} : ((List.range n).map e).take n = (List.range n).map e := List.take_of_length_le (by simp)
theorem looks_ok : ∀ j, j < 6 → Asc (looksL.getD j (ByteArray.empty, 0)).1 ∧ (looksL.getD j (ByteArray.empty, 0)).1.size ≤ 4 := by
  intro j hj
  have h1 : ∀ j, j < 6 → (looksL.getD j (ByteArray.empty, 0)).1.size ≤ 4 := by decide
  have h2 : ∀ j, j < 6 → ∀ i, i < 4 → byteAt (looksL.getD j (ByteArray.empty, 0)).1 i < 128 := by decide
  exact ⟨fun i hi => h2 j hj i (by have := h1 j hj; omega), h1 j hj⟩
set_option maxRecDepth 100000 in
set_option maxHeartbeats 1000000 in
theorem ck_operands {B : Base} {w : World} {b : Nat} {f : ApiFunc} {a : FunA} {x : ApiInstr} {s : ApiSymbol} {k : Int} (hS : St B [ckR b f a x s k] w) (g0 : (Kd.int .i64).C B.e a.A0 f.fKinds) :
    CallsIn Fence.wide 0 Tryz.prog 55 #[.pointer (some ⟨b, 0, none⟩)] w (Ret B (fun _ : Unit => True) (fun _ => .int .i64 (operF f x k)) (fun _ => [ckR b f a x s k])) := by
  have hsz := shapeF_size x.fOp
  have hs4 : (shapeF x.fOp).size ≤ 4 := by rw [hsz]; split <;> omega
  have hasc := shapeF_asc x.fOp
  (refine enter Tryz.func55 rfl rfl hS ?_; simp only [List.zipIdx_cons, List.zipIdx_nil, List.map_cons, List.map_nil, Nat.reduceAdd, Nat.zero_add])
  refine wSeq ?_
  refine wRegion' ?_
  refine oAssign rfl ?_
  refine oNil ?_
  refine thn_n ?_
  refine wSeq ?_
  refine wRegion' ?_
  (refine oCall rfl (by kernel_rfl) (fun w hS => frame hS (by repeat' (first | exact Split.nil | exact Pick.here | apply Split.cons | apply Pick.there)) (fun B' hB hS' => verify_looks hS')) ?_; rintro b9 -)
  refine oAssign rfl ?_
  refine oNil ?_
  refine thn_n ?_
  refine wFreeze [blk b9 133 looksC] (by repeat' (first | exact Split.nil | exact Pick.here | apply Split.cons | apply Pick.there)) (fun B1 hB1 hq1 => ?_)
  have hCl : kLook.C B1.e (some ⟨b9, 0, none⟩) looksL := C_blk (hq1 _ _ (by repeat (first | exact Pick.here | apply Pick.there))) (by decide) (cat_looks _)
  have g0 := Kd.C_grow hB1 g0
  refine wSeq ?_
  refine wSeq ?_
  refine wRegion' ?_
  refine oMove rfl ?_
  refine oPtr rfl ?_
  refine oFld (n := 9) (m := 9) rfl rfl rfl ?_
  refine oFld (n := 0) (m := 9) rfl rfl rfl ?_
  refine oLd rfl (by repeat (first | exact Pick.here | apply Pick.there)) rfl rfl ?_
  (refine oCall rfl (by kernel_rfl) (fun w hS => frame hS (by repeat' (first | exact Split.nil | exact Pick.here | apply Split.cons | apply Pick.there)) (fun B' hB hS' => op_Shape hS' x.fOp)) ?_; rintro ⟨⟩ -)
  refine oRangeStr rfl rfl (fun b16 => ?_)
  refine oNil ?_
  refine thn_n ?_
  refine wBlock ?_
  refine wLoop (ι := Nat) (fun i => [(0, .pointer (some ⟨b, 0, none⟩)), (3, .slice (some ⟨b9, 0, none⟩) 6 6), (16, .pointer (some ⟨b16, 0, none⟩))]) (fun i => [ckR b f a x s k, ob b16 (.stringIter (shapeF x.fOp) i)]) (fun i => i ≤ (shapeF x.fOp).size ∧ fstE (((List.range (shapeF x.fOp).size).map (opsE f x k)).take i) = 0) (fun i => (shapeF x.fOp).size - i) 0 ?_ (by repeat (first | exact trivial | refine And.intro rfl ?_)) (Leads.has (by repeat' (first | exact Has.nil | exact Pick.here | apply Has.cons | apply Pick.there))) ?_
  ·
    exact ⟨Nat.zero_le _, rfl⟩
  ·
    rintro i ⟨hi, hs⟩
    try dsimp only
    refine wSeq ?_
    refine wRegion' ?_
    refine oNextStr rfl (by repeat (first | exact Pick.here | apply Pick.there)) ?_
    refine oExtN rfl ?_
    refine oNil ?_
    refine thn_n ?_
    refine wSeq ?_
    first | refine wCond rfl (fun h18 => ?_) (fun h18 => ?_) | refine wCondB rfl (fun h18 => ?_) (fun h18 => ?_)
    ·
      have hi4 : i < (shapeF x.fOp).size := h18
      have hl := hasc i hi4
      rw [nextV_T hi4 hl, nextP_T hi4 hl]
      generalize hlet : byteAt (shapeF x.fOp) i = letter at *
      refine wSkip ?_
      refine thn_n ?_
      refine wBlock ?_
      refine wSeq ?_
      refine wRegion' ?_
      refine oExt rfl (by repeat (first | exact GetAt.here | apply GetAt.there)) ?_
      refine oExt rfl (by repeat (first | exact GetAt.here | apply GetAt.there)) ?_
      refine oAssign rfl ?_
      refine oAssign rfl ?_
      refine oNil ?_
      refine thn_n ?_
      refine wSeq ?_
      refine wRegion' ?_
      refine oMove rfl ?_
      refine oLenS rfl rfl ?_
      refine oMove rfl ?_
      refine oNil ?_
      refine thn_n ?_
      refine wBlock ?_
      refine wLoop (ι := Nat) (fun j => [(0, .pointer (some ⟨b, 0, none⟩)), (3, .slice (some ⟨b9, 0, none⟩) 6 6), (4, .int .i64 (i : Int)), (5, .int .i32 letter), (16, .pointer (some ⟨b16, 0, none⟩)), (21, .slice (some ⟨b9, 0, none⟩) 6 6), (22, .int .i64 ((6 : Nat) : Int)), (23, .int .i64 (j : Int))]) (fun j => [ckR b f a x s k, ob b16 (.stringIter (shapeF x.fOp) (i + 1))]) (fun j => j ≤ 6 ∧ fstE (((List.range 6).map (lookE f k letter (opdF x i))).take j) = 0) (fun j => 6 - j) 0 ?_ (by repeat (first | exact trivial | refine And.intro rfl ?_)) (Leads.has (by repeat' (first | exact Has.nil | exact Pick.here | apply Has.cons | apply Pick.there))) ?_
      ·
        exact ⟨Nat.zero_le _, rfl⟩
      ·
        rintro j ⟨hj, hs2⟩
        try dsimp only
        refine wSeq ?_
        refine wRegion' ?_
        refine oLss rfl rfl ?_
        refine oNil ?_
        refine thn_n ?_
        refine wSeq ?_
        first | refine wCond rfl (fun h24 => ?_) (fun h24 => ?_) | refine wCondB rfl (fun h24 => ?_) (fun h24 => ?_)
        ·
          have hj6 : j < 6 := by omega
          obtain ⟨lk, hlk⟩ : ∃ lk, looksL[j]? = some lk := ⟨_, List.getElem?_eq_getElem hj6⟩
          obtain ⟨e1, cs1, hE⟩ := hCl.elm hlk
          obtain rfl := hE.K
          have hok := looks_ok j hj6
          have hhas : hasL j letter = (runesL lk.1).any (fun y => decide (letter = y)) := by unfold hasL; rw [List.getD_eq_getElem?_getD, hlk]; rfl
          rw [List.getD_eq_getElem?_getD, hlk] at hok
          refine wSkip ?_
          refine thn_n ?_
          refine wSeq ?_
          refine wBlock ?_
          refine wSeq ?_
          refine wRegion' ?_
          refine oIdxE rfl rfl (hE) (by omega) rfl rfl ?_
          have hc25 := (hE).cell
          first | refine oLdX rfl hc25 rfl rfl ?_ | refine oLdXA rfl hc25 rfl (by repeat (first | exact SubL.done | apply SubL.take | apply SubL.drop)) ?_ | (refine oLdR1 rfl (by repeat (first | exact Pick.here | apply Pick.there)) (by omega) rfl (fun u26 hu26 => ?_))
          refine oAlloc rfl (by first | exact CellsOf.agg | exact CellsOf.one rfl) (fun b7 => ?_)
          refine oStA rfl rfl rfl rfl (by repeat (first | exact Pick.here | apply Pick.there)) (by rfl) ?_
          refine oNil ?_
          refine thn_n ?_
          refine wSeq ?_
          refine wSeq ?_
          refine wRegion' ?_
          refine oFld (n := 0) (m := 0) rfl rfl rfl ?_
          refine oLd rfl (by repeat (first | exact Pick.here | apply Pick.there)) rfl rfl ?_
          refine oConvRunes (W := B1.e) (e := 21) rfl rfl rfl rfl hok.1 (Nat.le_trans hok.2 (by decide)) (fun b29 c29 => ?_)
          have hrl : (runesL lk.1).length = lk.1.size := by simp [runesL]
          refine oSet (t := 29) (v' := .slice (some ⟨b29, 0, none⟩) (runesL lk.1).length c29) rfl (by rw [hrl]) ?_
          refine oMove rfl ?_
          (refine oCall rfl (by kernel_rfl) (fun w hS => frame' hS .nil (fun B' hB hR hS' => contains_rune hS' (runesL lk.1) (some ⟨b29, 0, none⟩) c29 (row_Cs (W := B1.e) (e := 21) (n := lk.1.size) (cp := c29) (hR _ _ (by repeat (first | exact Pick.here | apply Pick.there)))) letter)) ?_; rintro ⟨⟩ -)
          first | refine oNot rfl ?_ | refine oNotB rfl ?_
          refine oNil ?_
          refine thn_n ?_
          first | refine wCond rfl (fun h32 => ?_) (fun h32 => ?_) | refine wCondB rfl (fun h32 => ?_) (fun h32 => ?_)
          ·
            refine wExit ?_
            refine thn_x ?_
            refine blk_x ?_
            refine thn_n ?_
            refine wRegion' ?_
            refine oSucc rfl rfl (by omega) ?_
            refine oMove rfl ?_
            refine oNil ?_
            refine thn_n ?_
            exact ⟨rfl, j + 1, ⟨by omega, fstE_next hs2 (rmap_at hj6) (by unfold lookE; rw [hhas, if_neg (by simpa only [Bool.not_eq_true', Bool.not_eq_true] using h32)])⟩, by omega, (by repeat (first | exact trivial | refine And.intro rfl ?_)), (Leads.has (by repeat' (first | exact Has.nil | exact Pick.here | apply Has.cons | apply Pick.there)))⟩
          ·
            refine wSkip ?_
            refine thn_n ?_
            refine wSeq ?_
            refine wDrawG rfl [0, 1, 2, 3, 7] [(4, [0, 1, 2, 7], [5, 6]), (8, [0, 1, 2], []), (9, [], [])] [10] 24 (by kernel_rfl) rfl rfl (fun w0 => ?_)
            refine oFld (n := 1) (m := 1) rfl rfl rfl ?_
            refine oLd rfl (by repeat (first | exact Pick.here | apply Pick.there)) rfl rfl ?_
            refine oMove rfl ?_
            refine oMove rfl ?_
            refine oMove rfl ?_
            refine oLkSegG ?_
            refine oSegG rfl ?_
            refine oPtr rfl ?_
            refine oAgainG ?_ rfl (fun w0 => ?_)
            ·
              refine AgainG.cons rfl rfl rfl rfl (fun w0 => ?_) ?_
              ·
                refine oFld (n := 1) (m := 1) rfl rfl rfl ?_
                exact oLkHas rfl
              ·
                refine AgainG.cons rfl rfl rfl rfl (fun w0 => ?_) ?_
                ·
                  refine oLd rfl (by repeat (first | exact Pick.here | apply Pick.there)) rfl rfl ?_
                  exact oLkHas rfl
                ·
                  refine AgainG.cons rfl rfl rfl rfl (fun w0 => ?_) ?_
                  ·
                    refine oMove rfl ?_
                    exact oLkHas rfl
                  ·
                    refine AgainG.cons rfl rfl rfl rfl (fun w0 => ?_) ?_
                    ·
                      refine oMove rfl ?_
                      exact oLkHas rfl
                    ·
                      exact AgainG.nil
            ·
              refine oFld (n := 9) (m := 9) rfl rfl rfl ?_
              refine oLdA rfl (by repeat (first | exact Pick.here | apply Pick.there)) rfl (by repeat (first | exact SubL.done | apply SubL.take | apply SubL.drop)) ?_
              refine oLkSegG ?_
              refine oSegG rfl ?_
              (refine oCall rfl (by kernel_rfl) (fun w hS => frame hS (by repeat' (first | exact Split.nil | exact Pick.here | apply Split.cons | apply Pick.there)) (fun B' hB hS' => instr_Operand hS' x _ (kApiInstr_mk _ x) (i : Int))) ?_; rintro ⟨⟩ -)
              refine oAgainG ?_ rfl (fun w0 => ?_)
              ·
                refine AgainG.cons rfl rfl rfl rfl (fun w0 => ?_) ?_
                ·
                  refine oFld (n := 1) (m := 1) rfl rfl rfl ?_
                  exact oLkHas rfl
                ·
                  refine AgainG.cons rfl rfl rfl rfl (fun w0 => ?_) ?_
                  ·
                    refine oLd rfl (by repeat (first | exact Pick.here | apply Pick.there)) rfl rfl ?_
                    exact oLkHas rfl
                  ·
                    refine AgainG.cons rfl rfl rfl rfl (fun w0 => ?_) ?_
                    ·
                      refine oMove rfl ?_
                      exact oLkHas rfl
                    ·
                      exact AgainG.nil
              ·
                refine oLkSegG ?_
                refine oSegG rfl ?_
                (refine oCallV rfl rfl rfl (look_good j lk hlk) (fun w hS => frame hS (by repeat' (first | exact Split.nil | exact Pick.here | apply Split.cons | apply Pick.there)) (fun B' hB hS' => look_any (a := a) hS' (Kd.C_grow hB g0) (opdF x i) j lk hlk)) ?_; rintro ⟨⟩ -)
                refine oAgainG ?_ rfl (fun w0 => ?_)
                ·
                  exact AgainG.nil
                ·
                  refine oTailG ?_
                  refine oAssign rfl ?_
                  refine oNil ?_
                  refine thn_n ?_
                  refine wSeq ?_
                  refine wRegion' ?_
                  refine oMove rfl ?_
                  refine oNeq rfl rfl ?_
                  refine oNil ?_
                  refine thn_n ?_
                  first | refine wCond rfl (fun h44 => ?_) (fun h44 => ?_) | refine wCondB rfl (fun h44 => ?_) (fun h44 => ?_)
                  ·
                    refine wSeq ?_
                    refine wRegion' ?_
                    refine oMove rfl ?_
                    refine oAssign rfl ?_
                    refine oNil ?_
                    refine thn_n ?_
                    refine wRet ?_
                    refine blk_r ?_
                    refine thn_r ?_
                    refine thn_r ?_
                    refine blk_r ?_
                    refine blk_r ?_
                    refine thn_r ?_
                    refine blk_r ?_
                    refine thn_r ?_
                    refine fin_r ?_
                    refine ⟨rfl, _, (ResL.cons (ResR.tmp rfl) ResL.nil), ?_⟩
                    exact ⟨(), trivial, by
                    have hle : letE f k (byteAt (shapeF x.fOp) i) (opdF x i) = lookV f k (opdF x i) j := by rw [hlet]; unfold letE; rw [fstE_stop hs2 (rmap_at hj6) (by unfold lookE; rw [hhas, if_pos (by simpa only [Bool.not_eq_false'] using h32)]; exact h44)]; unfold lookE; rw [hhas, if_pos (by simpa only [Bool.not_eq_false'] using h32)]
                    unfold operF
                    rw [fstE_stop hs (rmap_at hi4) (by unfold opsE; rw [hle]; exact h44)]
                    unfold opsE
                    rw [hle]; rfl, (Leads.has (by repeat' (first | exact Has.nil | exact Pick.here | apply Has.cons | apply Pick.there)))⟩
                  ·
                    refine wSkip ?_
                    refine blk_n ?_
                    refine thn_n ?_
                    refine wRegion' ?_
                    refine oSucc rfl rfl (by omega) ?_
                    refine oMove rfl ?_
                    refine oNil ?_
                    refine thn_n ?_
                    exact ⟨rfl, j + 1, ⟨by omega, fstE_next hs2 (rmap_at hj6) (by unfold lookE; rw [hhas, if_pos (by simpa only [Bool.not_eq_false'] using h32)]; exact Classical.not_not.1 h44)⟩, by omega, (by repeat (first | exact trivial | refine And.intro rfl ?_)), (Leads.has (by repeat' (first | exact Has.nil | exact Pick.here | apply Has.cons | apply Pick.there)))⟩
        ·
          obtain rfl : j = 6 := by omega
          rw [rmap_all] at hs2
          have hs2 : opsE f x k i = 0 := by unfold opsE letE; rw [hlet]; exact hs2
          refine wExit ?_
          refine thn_x ?_
          refine thn_x ?_
          refine blk_x ?_
          refine blk_n ?_
          refine thn_n ?_
          exact ⟨rfl, i + 1, ⟨by omega, fstE_next hs (rmap_at hi4) hs2⟩, by omega, (by repeat (first | exact trivial | refine And.intro rfl ?_)), (Leads.has (by repeat' (first | exact Has.nil | exact Pick.here | apply Has.cons | apply Pick.there)))⟩
    ·
      refine wExit ?_
      refine thn_x ?_
      refine thn_x ?_
      refine blk_x ?_
      refine thn_n ?_
      refine wSeq ?_
      refine wRegion' ?_
      refine oAssign rfl ?_
      refine oNil ?_
      refine thn_n ?_
      refine wRet ?_
      refine fin_r ?_
      refine ⟨rfl, _, (ResL.cons (ResR.tmp rfl) ResL.nil), ?_⟩
      obtain rfl : i = (shapeF x.fOp).size := by omega
      rw [rmap_all] at hs
      exact ⟨(), trivial, by unfold operF; rw [hs]; rfl, (Leads.has (by repeat' (first | exact Has.nil | exact Pick.here | apply Has.cons | apply Pick.there)))⟩
end Go.Proofs.YtcacohoanlljhaaGreatV
