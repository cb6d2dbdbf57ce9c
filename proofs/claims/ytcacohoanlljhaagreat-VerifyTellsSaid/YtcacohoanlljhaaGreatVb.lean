import Derived.Test.YtcacohoanlljhaaGreatVa

/-
  Package instr: numbers, Operand, Check; package fun: rising, slots, lines, relocs.
-/
namespace Go.Proofs.YtcacohoanlljhaaGreatV
set_option linter.unusedVariables false
set_option linter.unusedSimpArgs false
open Go.RowKit Go.Proofs.YtcacohoanlljhaaGreatK Go.Proofs.YtcacohoanlljhaaGreatT Go.Proofs.YtcacohoanlljhaaGreatL

/-! ### looks through lists -/
theorem any_T {n j : Nat} {p : Nat → Bool} (hj : j < n) (h : p j = true) : (List.range n).any p = true := List.any_eq_true.2 ⟨j, List.mem_range.2 hj, h⟩
theorem any_F {n : Nat} {p : Nat → Bool} (h : ∀ j, j < n → p j = false) : (List.range n).any p = false := List.any_eq_false.2 (fun j hj => by rw [h j (List.mem_range.1 hj)]; simp)
/-- The first that is not 0. -/
def fstE : List Int → Int
  | [] => 0
  | e :: l => if e ≠ 0 then e else fstE l
theorem fstE_app {l l' : List Int} (h : fstE l = 0) : fstE (l ++ l') = fstE l' := by
  induction l with
  | nil => rfl
  | cons e l ih =>
    unfold fstE at h
    split at h
    · next k => exact absurd h k
    · next k => show (if e ≠ 0 then e else fstE (l ++ l')) = _; rw [if_neg k]; exact ih h
theorem fstE_stop {l : List Int} {i : Nat} {e : Int} (h : fstE (l.take i) = 0) (hi : l[i]? = some e) (he : e ≠ 0) : fstE l = e := by
  obtain ⟨hl, he0⟩ := List.getElem?_eq_some_iff.1 hi
  have h1 : l = l.take i ++ (e :: l.drop (i + 1)) := by rw [← he0, ← List.drop_eq_getElem_cons hl, List.take_append_drop]
  have h2 : fstE (l.take i ++ (e :: l.drop (i + 1))) = e := by
    rw [fstE_app h]
    show (if e ≠ 0 then e else _) = _
    rw [if_pos he]
  rw [← h1] at h2
  exact h2
theorem fstE_next {l : List Int} {i : Nat} {e : Int} (h : fstE (l.take i) = 0) (hi : l[i]? = some e) (he : e = 0) : fstE (l.take (i + 1)) = 0 := by
  rw [List.take_add_one, hi, fstE_app h]
  subst he; rfl
theorem fstE_zero {l : List Int} : fstE l = 0 ↔ ∀ e ∈ l, e = 0 := by
  induction l with
  | nil => simp [fstE]
  | cons e l ih =>
    unfold fstE
    split
    · next k => constructor
                · intro h; exact absurd h k
                · intro h; exact absurd (h e List.mem_cons_self) k
    · next k => rw [ih]; constructor
                · intro h x hx
                  rcases List.mem_cons.1 hx with rfl | hx
                  · omega
                  · exact h x hx
                · intro h x hx; exact h x (List.mem_cons_of_mem _ hx)
/-! ### instructions -/
def numsL (x : ApiInstr) : List Int := [x.fOp, x.fA, x.fB, x.fC, x.fN]
theorem nums_at (x : ApiInstr) {k : Nat} (h : k < 5) : ((numsL x).map (Value.int .i64))[k]? = some (.int .i64 ((numsL x).getD k 0)) := by
  rw [List.getElem?_map, List.getD_eq_getElem?_getD, List.getElem?_eq_getElem (show k < (numsL x).length from h)]; rfl
def opdF (x : ApiInstr) (i : Int) : Int := if i < 0 ∨ 3 < i then 0 else (numsL x).getD (1 + i.toNat) 0
def badA (x : ApiInstr) (j : Nat) : Bool := decide ((numsL x).getD (1 + j) 0 < 0 ∨ 255 < (numsL x).getD (1 + j) 0)
def badS (x : ApiInstr) (j : Nat) : Bool := decide (byteAt (shapeF x.fOp) j = 45) && decide ((numsL x).getD (1 + j) 0 ≠ 0)
def icF (x : ApiInstr) : Int := if nameF x.fOp = ByteArray.empty then 8 else if (List.range 3).any (badA x) then 9 else if x.fN < -2147483648 ∨ 2147483647 < x.fN then 9 else if (List.range (shapeF x.fOp).size).any (badS x) then 2 else 0
set_option maxRecDepth 100000 in
theorem instr_numbers {B : Base} {w : World} (hS : St B [] w) (x : ApiInstr) (xc : List Value) (hx : kApiInstr.K B.e x xc) :
    CallsIn Fence.wide 0 Tryz.prog 151 #[.agg xc.toArray] w (Ret B (fun _ : Unit => True) (fun _ => .agg ((numsL x).map (Value.int .i64)).toArray) (fun _ => [])) := by
  obtain rfl := kApiInstr_open hx
  (refine enter Tryz.func151 rfl rfl hS ?_; simp only [List.zipIdx_cons, List.zipIdx_nil, List.map_cons, List.map_nil, Nat.reduceAdd, Nat.zero_add])
  refine wSeq ?_
  refine wRegion' ?_
  refine oBox rfl (by first | exact CellsOf.agg | exact CellsOf.one rfl) (fun b1 => ?_)
  refine oAlloc rfl (by first | exact CellsOf.agg | exact CellsOf.one rfl) (fun b2 => ?_)
  refine oNil ?_
  refine thn_n ?_
  refine wSeq ?_
  refine wRegion' ?_
  refine oFld (n := 0) (m := 0) rfl rfl rfl ?_
  refine oLd rfl (by repeat (first | exact Pick.here | apply Pick.there)) rfl rfl ?_
  refine oFld (n := 1) (m := 1) rfl rfl rfl ?_
  refine oLd rfl (by repeat (first | exact Pick.here | apply Pick.there)) rfl rfl ?_
  refine oFld (n := 2) (m := 2) rfl rfl rfl ?_
  refine oLd rfl (by repeat (first | exact Pick.here | apply Pick.there)) rfl rfl ?_
  refine oFld (n := 3) (m := 3) rfl rfl rfl ?_
  refine oLd rfl (by repeat (first | exact Pick.here | apply Pick.there)) rfl rfl ?_
  refine oFld (n := 4) (m := 4) rfl rfl rfl ?_
  refine oLd rfl (by repeat (first | exact Pick.here | apply Pick.there)) rfl rfl ?_
  refine oBuildArr (Parts.cons rfl (Parts.cons rfl (Parts.cons rfl (Parts.cons rfl (Parts.cons rfl Parts.nil))))) rfl rfl (Built.cons (off := 0) (s := 1) rfl (by first | exact CellsOf.agg | exact CellsOf.one rfl) rfl (by repeat (first | exact PutL.done | apply PutL.put | apply PutL.skip)) (Built.cons (off := 1) (s := 1) rfl (by first | exact CellsOf.agg | exact CellsOf.one rfl) rfl (by repeat (first | exact PutL.done | apply PutL.put | apply PutL.skip)) (Built.cons (off := 2) (s := 1) rfl (by first | exact CellsOf.agg | exact CellsOf.one rfl) rfl (by repeat (first | exact PutL.done | apply PutL.put | apply PutL.skip)) (Built.cons (off := 3) (s := 1) rfl (by first | exact CellsOf.agg | exact CellsOf.one rfl) rfl (by repeat (first | exact PutL.done | apply PutL.put | apply PutL.skip)) (Built.cons (off := 4) (s := 1) rfl (by first | exact CellsOf.agg | exact CellsOf.one rfl) rfl (by repeat (first | exact PutL.done | apply PutL.put | apply PutL.skip)) Built.nil))))) ?_
  refine oStA rfl rfl rfl rfl (by repeat (first | exact Pick.here | apply Pick.there)) (by rfl) ?_
  refine oNil ?_
  refine thn_n ?_
  refine wRet ?_
  refine fin_r ?_
  refine ⟨rfl, _, (ResL.cons (by first | exact ResR.cell rfl (by repeat (first | exact Pick.here | apply Pick.there)) rfl | exact ResR.agg rfl (by repeat (first | exact Pick.here | apply Pick.there)) rfl rfl) ResL.nil), ?_⟩
  exact ⟨(), trivial, rfl, (Leads.has (by repeat' (first | exact Has.nil | exact Pick.here | apply Has.cons | apply Pick.there)))⟩
set_option maxRecDepth 100000 in
theorem instr_Operand {B : Base} {w : World} (hS : St B [] w) (x : ApiInstr) (xc : List Value) (hx : kApiInstr.K B.e x xc) (i : Int) :
    CallsIn Fence.wide 0 Tryz.prog 108 #[.agg xc.toArray, .int .i64 i] w (Ret B (fun _ : Unit => True) (fun _ => .int .i64 (opdF x i)) (fun _ => [])) := by
  obtain rfl := kApiInstr_open hx
  (refine enter Tryz.func108 rfl rfl hS ?_; simp only [List.zipIdx_cons, List.zipIdx_nil, List.map_cons, List.map_nil, Nat.reduceAdd, Nat.zero_add])
  refine wSeq ?_
  refine wRegion' ?_
  refine oBox rfl (by first | exact CellsOf.agg | exact CellsOf.one rfl) (fun b2 => ?_)
  refine oAssign rfl ?_
  refine oNil ?_
  refine thn_n ?_
  refine wSeq ?_
  refine wSeq ?_
  refine wRegion' ?_
  refine oMove rfl ?_
  refine oLss rfl rfl ?_
  refine oMove rfl ?_
  first | refine oSplit (t := 7) rfl (fun h7 => ?_) (fun h7 => ?_) | refine oSplitB (t := 7) rfl (fun h7 => ?_) (fun h7 => ?_)
  ·
    refine oSkip rfl rfl rfl rfl ?_
    refine oSkip rfl rfl rfl rfl ?_
    refine oPickT rfl rfl ?_
    refine oNil ?_
    refine thn_n ?_
    first | refine wCondT rfl ?_ | refine wCondTd h10 rfl ?_ | refine wCondTb h10 rfl ?_
    refine wSeq ?_
    refine wRegion' ?_
    refine oAssign rfl ?_
    refine oNil ?_
    refine thn_n ?_
    refine wRet ?_
    refine thn_r ?_
    refine fin_r ?_
    refine ⟨rfl, _, (ResL.cons (ResR.tmp rfl) ResL.nil), ?_⟩
    exact ⟨(), trivial, by unfold opdF; rw [if_pos (by omega)]; rfl, (Leads.has (by repeat' (first | exact Has.nil | exact Pick.here | apply Has.cons | apply Pick.there)))⟩
  ·
    refine oWant rfl rfl ?_
    refine oMove rfl ?_
    refine oWant rfl rfl ?_
    refine oGtr rfl rfl ?_
    refine oPickF rfl rfl ?_
    refine oNil ?_
    refine thn_n ?_
    first | refine wCond rfl (fun h10 => ?_) (fun h10 => ?_) | refine wCondB rfl (fun h10 => ?_) (fun h10 => ?_)
    ·
      refine wSeq ?_
      refine wRegion' ?_
      refine oAssign rfl ?_
      refine oNil ?_
      refine thn_n ?_
      refine wRet ?_
      refine thn_r ?_
      refine fin_r ?_
      refine ⟨rfl, _, (ResL.cons (ResR.tmp rfl) ResL.nil), ?_⟩
      exact ⟨(), trivial, by unfold opdF; rw [if_pos (by omega)]; rfl, (Leads.has (by repeat' (first | exact Has.nil | exact Pick.here | apply Has.cons | apply Pick.there)))⟩
    ·
      refine wSkip ?_
      refine thn_n ?_
      refine wSeq ?_
      refine wRegion' ?_
      refine oLdA rfl (by repeat (first | exact Pick.here | apply Pick.there)) rfl (by repeat (first | exact SubL.done | apply SubL.take | apply SubL.drop)) ?_
      (refine oCall rfl (by kernel_rfl) (fun w hS => frame hS (by repeat' (first | exact Split.nil | exact Pick.here | apply Split.cons | apply Pick.there)) (fun B' hB hS' => instr_numbers hS' x _ (kApiInstr_mk _ x))) ?_; rintro ⟨⟩ -)
      refine oMove rfl ?_
      refine oAdd rfl rfl (by omega) ?_
      refine oIndexArr (i := 1 + i.toNat) rfl rfl (by omega) rfl rfl (by omega) (nums_at x (by omega)) ?_
      refine oAssign rfl ?_
      refine oNil ?_
      refine thn_n ?_
      refine wRet ?_
      refine fin_r ?_
      refine ⟨rfl, _, (ResL.cons (ResR.tmp rfl) ResL.nil), ?_⟩
      exact ⟨(), trivial, by unfold opdF; rw [if_neg (by omega)]; rfl, (Leads.has (by repeat' (first | exact Has.nil | exact Pick.here | apply Has.cons | apply Pick.there)))⟩
set_option maxRecDepth 100000 in
set_option maxHeartbeats 600000 in
theorem instr_Check {B : Base} {w : World} (hS : St B [] w) (x : ApiInstr) (xc : List Value) (hx : kApiInstr.K B.e x xc) :
    CallsIn Fence.wide 0 Tryz.prog 136 #[.agg xc.toArray] w (Ret B (fun _ : Unit => True) (fun _ => .int .i64 (icF x)) (fun _ => [])) := by
  obtain rfl := kApiInstr_open hx
  have hsz := shapeF_size x.fOp
  (refine enter Tryz.func136 rfl rfl hS ?_; simp only [List.zipIdx_cons, List.zipIdx_nil, List.map_cons, List.map_nil, Nat.reduceAdd, Nat.zero_add])
  refine wSeq ?_
  refine wRegion' ?_
  refine oBox rfl (by first | exact CellsOf.agg | exact CellsOf.one rfl) (fun b1 => ?_)
  refine oAssign rfl ?_
  refine oNil ?_
  refine thn_n ?_
  refine wSeq ?_
  refine wSeq ?_
  refine wRegion' ?_
  refine oFld (n := 0) (m := 0) rfl rfl rfl ?_
  refine oLd rfl (by repeat (first | exact Pick.here | apply Pick.there)) rfl rfl ?_
  (refine oCall rfl (by kernel_rfl) (fun w hS => frame hS (by repeat' (first | exact Split.nil | exact Pick.here | apply Split.cons | apply Pick.there)) (fun B' hB hS' => op_Name hS' x.fOp)) ?_; rintro ⟨⟩ -)
  refine oSEq rfl rfl ?_
  refine oNil ?_
  refine thn_n ?_
  first | refine wCond rfl (fun h11 => ?_) (fun h11 => ?_) | refine wCondB rfl (fun h11 => ?_) (fun h11 => ?_)
  ·
    refine wSeq ?_
    refine wRegion' ?_
    refine oAssign rfl ?_
    refine oNil ?_
    refine thn_n ?_
    refine wRet ?_
    refine thn_r ?_
    refine fin_r ?_
    refine ⟨rfl, _, (ResL.cons (ResR.tmp rfl) ResL.nil), ?_⟩
    exact ⟨(), trivial, by unfold icF; rw [if_pos (show nameF x.fOp = ByteArray.empty from h11)]; rfl, (Leads.has (by repeat' (first | exact Has.nil | exact Pick.here | apply Has.cons | apply Pick.there)))⟩
  ·
    refine wSkip ?_
    refine thn_n ?_
    refine wSeq ?_
    refine wRegion' ?_
    refine oLdA rfl (by repeat (first | exact Pick.here | apply Pick.there)) rfl (by repeat (first | exact SubL.done | apply SubL.take | apply SubL.drop)) ?_
    (refine oCall rfl (by kernel_rfl) (fun w hS => frame hS (by repeat' (first | exact Split.nil | exact Pick.here | apply Split.cons | apply Pick.there)) (fun B' hB hS' => instr_numbers hS' x _ (kApiInstr_mk _ x))) ?_; rintro ⟨⟩ -)
    refine oAlloc rfl (by first | exact CellsOf.agg | exact CellsOf.one rfl) (fun b3 => ?_)
    refine oStA rfl rfl rfl rfl (by repeat (first | exact Pick.here | apply Pick.there)) (by rfl) ?_
    refine oNil ?_
    refine thn_n ?_
    refine wSeq ?_
    refine wSeq ?_
    refine wRegion' ?_
    refine oSliceArr (l := 1) (m := 4) rfl rfl rfl rfl (by decide) (by decide) ?_
    refine oSet (t := 14) (v' := .slice (some ⟨b3, 1, none⟩) 3 4) rfl rfl ?_
    refine oLenS rfl rfl ?_
    refine oMove rfl ?_
    refine oNil ?_
    refine thn_n ?_
    refine wBlock ?_
    refine wLoop (ι := Nat) (fun i => [(1, .pointer (some ⟨b1, 0, none⟩)), (3, .pointer (some ⟨b3, 0, none⟩)), (14, .slice (some ⟨b3, 1, none⟩) 3 4), (15, .int .i64 ((3 : Nat) : Int)), (16, .int .i64 (i : Int))]) (fun i => [blk b1 53 [.int .i64 x.fOp, .int .i64 x.fA, .int .i64 x.fB, .int .i64 x.fC, .int .i64 x.fN], blk b3 159 ((numsL x).map (Value.int .i64))]) (fun i => i ≤ 3 ∧ ∀ j, j < i → badA x j = false) (fun i => 3 - i) 0 ?_ (by repeat (first | exact trivial | refine And.intro rfl ?_)) (Leads.has (by repeat' (first | exact Has.nil | exact Pick.here | apply Has.cons | apply Pick.there))) ?_
    ·
      exact ⟨Nat.zero_le _, fun j hj => by omega⟩
    ·
      rintro i ⟨hi, hs⟩
      try dsimp only
      refine wSeq ?_
      refine wRegion' ?_
      refine oLss rfl rfl ?_
      refine oNil ?_
      refine thn_n ?_
      refine wSeq ?_
      first | refine wCond rfl (fun h17 => ?_) (fun h17 => ?_) | refine wCondB rfl (fun h17 => ?_) (fun h17 => ?_)
      ·
        have hi3 : i < 3 := by omega
        refine wSkip ?_
        refine thn_n ?_
        refine wSeq ?_
        refine wBlock ?_
        refine wSeq ?_
        refine wRegion' ?_
        refine oIdxB (s := 1) (m := 1 + i) rfl rfl rfl hi3 (by omega) ?_
        refine oLd rfl (by repeat (first | exact Pick.here | apply Pick.there)) (nums_at x (by omega)) rfl ?_
        refine oAssign rfl ?_
        refine oNil ?_
        refine thn_n ?_
        refine wSeq ?_
        refine wRegion' ?_
        refine oMove rfl ?_
        refine oLss rfl rfl ?_
        refine oMove rfl ?_
        first | refine oSplit (t := 22) rfl (fun h22 => ?_) (fun h22 => ?_) | refine oSplitB (t := 22) rfl (fun h22 => ?_) (fun h22 => ?_)
        ·
          refine oSkip rfl rfl rfl rfl ?_
          refine oSkip rfl rfl rfl rfl ?_
          refine oPickT rfl rfl ?_
          refine oNil ?_
          refine thn_n ?_
          first | refine wCondT rfl ?_ | refine wCondTd h25 rfl ?_ | refine wCondTb h25 rfl ?_
          refine wSeq ?_
          refine wRegion' ?_
          refine oAssign rfl ?_
          refine oNil ?_
          refine thn_n ?_
          refine wRet ?_
          refine blk_r ?_
          refine thn_r ?_
          refine thn_r ?_
          refine blk_r ?_
          refine thn_r ?_
          refine fin_r ?_
          refine ⟨rfl, _, (ResL.cons (ResR.tmp rfl) ResL.nil), ?_⟩
          exact ⟨(), trivial, by unfold icF; rw [if_neg (show ¬ nameF x.fOp = ByteArray.empty from h11), if_pos (any_T hi3 (by unfold badA; exact decide_eq_true (.inl h22)))]; rfl, (Leads.has (by repeat' (first | exact Has.nil | exact Pick.here | apply Has.cons | apply Pick.there)))⟩
        ·
          refine oWant rfl rfl ?_
          refine oMove rfl ?_
          refine oWant rfl rfl ?_
          refine oGtr rfl rfl ?_
          refine oPickF rfl rfl ?_
          refine oNil ?_
          refine thn_n ?_
          first | refine wCond rfl (fun h25 => ?_) (fun h25 => ?_) | refine wCondB rfl (fun h25 => ?_) (fun h25 => ?_)
          ·
            refine wSeq ?_
            refine wRegion' ?_
            refine oAssign rfl ?_
            refine oNil ?_
            refine thn_n ?_
            refine wRet ?_
            refine blk_r ?_
            refine thn_r ?_
            refine thn_r ?_
            refine blk_r ?_
            refine thn_r ?_
            refine fin_r ?_
            refine ⟨rfl, _, (ResL.cons (ResR.tmp rfl) ResL.nil), ?_⟩
            exact ⟨(), trivial, by unfold icF; rw [if_neg (show ¬ nameF x.fOp = ByteArray.empty from h11), if_pos (any_T hi3 (by unfold badA; exact decide_eq_true (.inr h25)))]; rfl, (Leads.has (by repeat' (first | exact Has.nil | exact Pick.here | apply Has.cons | apply Pick.there)))⟩
          ·
            refine wSkip ?_
            refine blk_n ?_
            refine thn_n ?_
            refine wRegion' ?_
            refine oSucc rfl rfl (by omega) ?_
            refine oMove rfl ?_
            refine oNil ?_
            refine thn_n ?_
            exact ⟨rfl, i + 1, ⟨by omega, fun j hj => by
            by_cases e : j = i
            · subst e; unfold badA; exact decide_eq_false (by omega)
            · exact hs j (by omega)⟩, by omega, (by repeat (first | exact trivial | refine And.intro rfl ?_)), (Leads.has (by repeat' (first | exact Has.nil | exact Pick.here | apply Has.cons | apply Pick.there)))⟩
      ·
        obtain rfl : i = 3 := by omega
        have hA := any_F hs
        refine wExit ?_
        refine thn_x ?_
        refine thn_x ?_
        refine blk_x ?_
        refine thn_n ?_
        refine wSeq ?_
        refine wSeq ?_
        refine wRegion' ?_
        refine oFld (n := 4) (m := 4) rfl rfl rfl ?_
        refine oLd rfl (by repeat (first | exact Pick.here | apply Pick.there)) rfl rfl ?_
        refine oLss rfl rfl ?_
        refine oMove rfl ?_
        first | refine oSplit (t := 30) rfl (fun h30 => ?_) (fun h30 => ?_) | refine oSplitB (t := 30) rfl (fun h30 => ?_) (fun h30 => ?_)
        ·
          refine oSkip rfl rfl rfl rfl ?_
          refine oSkip rfl rfl rfl rfl ?_
          refine oSkip rfl rfl rfl rfl ?_
          refine oPickT rfl rfl ?_
          refine oNil ?_
          refine thn_n ?_
          first | refine wCondT rfl ?_ | refine wCondTd h34 rfl ?_ | refine wCondTb h34 rfl ?_
          refine wSeq ?_
          refine wRegion' ?_
          refine oAssign rfl ?_
          refine oNil ?_
          refine thn_n ?_
          refine wRet ?_
          refine thn_r ?_
          refine fin_r ?_
          refine ⟨rfl, _, (ResL.cons (ResR.tmp rfl) ResL.nil), ?_⟩
          exact ⟨(), trivial, by unfold icF; rw [if_neg (show ¬ nameF x.fOp = ByteArray.empty from h11), if_neg (by rw [hA]; simp), if_pos (.inl h30)]; rfl, (Leads.has (by repeat' (first | exact Has.nil | exact Pick.here | apply Has.cons | apply Pick.there)))⟩
        ·
          refine oWant rfl rfl ?_
          refine oFld (n := 4) (m := 4) rfl rfl rfl ?_
          refine oWant rfl rfl ?_
          refine oLd rfl (by repeat (first | exact Pick.here | apply Pick.there)) rfl rfl ?_
          refine oWant rfl rfl ?_
          refine oGtr rfl rfl ?_
          refine oPickF rfl rfl ?_
          refine oNil ?_
          refine thn_n ?_
          first | refine wCond rfl (fun h34 => ?_) (fun h34 => ?_) | refine wCondB rfl (fun h34 => ?_) (fun h34 => ?_)
          ·
            refine wSeq ?_
            refine wRegion' ?_
            refine oAssign rfl ?_
            refine oNil ?_
            refine thn_n ?_
            refine wRet ?_
            refine thn_r ?_
            refine fin_r ?_
            refine ⟨rfl, _, (ResL.cons (ResR.tmp rfl) ResL.nil), ?_⟩
            exact ⟨(), trivial, by unfold icF; rw [if_neg (show ¬ nameF x.fOp = ByteArray.empty from h11), if_neg (by rw [hA]; simp), if_pos (.inr h34)]; rfl, (Leads.has (by repeat' (first | exact Has.nil | exact Pick.here | apply Has.cons | apply Pick.there)))⟩
          ·
            refine wSkip ?_
            refine thn_n ?_
            refine wSeq ?_
            refine wRegion' ?_
            refine oFld (n := 0) (m := 0) rfl rfl rfl ?_
            refine oLd rfl (by repeat (first | exact Pick.here | apply Pick.there)) rfl rfl ?_
            (refine oCall rfl (by kernel_rfl) (fun w hS => frame hS (by repeat' (first | exact Split.nil | exact Pick.here | apply Split.cons | apply Pick.there)) (fun B' hB hS' => op_Shape hS' x.fOp)) ?_; rintro ⟨⟩ -)
            refine oAssign rfl ?_
            refine oNil ?_
            refine thn_n ?_
            refine wSeq ?_
            refine wSeq ?_
            refine wRegion' ?_
            refine oMove rfl ?_
            refine oLenStr rfl rfl ?_
            refine oMove rfl ?_
            refine oNil ?_
            refine thn_n ?_
            refine wBlock ?_
            refine wLoop (ι := Nat) (fun i => [(3, .pointer (some ⟨b3, 0, none⟩)), (6, .string (shapeF x.fOp)), (39, .int .i64 ((shapeF x.fOp).size : Int)), (40, .int .i64 (i : Int))]) (fun i => [blk b3 159 ((numsL x).map (Value.int .i64))]) (fun i => i ≤ (shapeF x.fOp).size ∧ ∀ j, j < i → badS x j = false) (fun i => (shapeF x.fOp).size - i) 0 ?_ (by repeat (first | exact trivial | refine And.intro rfl ?_)) (Leads.has (by repeat' (first | exact Has.nil | exact Pick.here | apply Has.cons | apply Pick.there))) ?_
            ·
              exact ⟨Nat.zero_le _, fun j hj => by omega⟩
            ·
              rintro i ⟨hi, hs⟩
              try dsimp only
              refine wSeq ?_
              refine wRegion' ?_
              refine oLss rfl rfl ?_
              refine oNil ?_
              refine thn_n ?_
              refine wSeq ?_
              first | refine wCond rfl (fun h41 => ?_) (fun h41 => ?_) | refine wCondB rfl (fun h41 => ?_) (fun h41 => ?_)
              ·
                have hi4 : i < (shapeF x.fOp).size := by omega
                have hi5 : i < 4 := by rw [hsz] at hi4; split at hi4 <;> omega
                refine wSkip ?_
                refine thn_n ?_
                refine wSeq ?_
                refine wBlock ?_
                refine wSeq ?_
                refine wRegion' ?_
                refine oMove rfl ?_
                refine oAssign rfl ?_
                refine oNil ?_
                refine thn_n ?_
                refine wSeq ?_
                refine wRegion' ?_
                refine oMove rfl ?_
                refine oMove rfl ?_
                refine oIndexStr rfl rfl rfl hi4 ?_
                refine oEql rfl rfl ?_
                refine oMove rfl ?_
                first | refine oSplit (t := 47) rfl (fun h47 => ?_) (fun h47 => ?_) | refine oSplitB (t := 47) rfl (fun h47 => ?_) (fun h47 => ?_)
                ·
                  refine oWant rfl rfl ?_
                  refine oMove rfl ?_
                  refine oWant rfl rfl ?_
                  refine oAdd rfl rfl (by omega) ?_
                  refine oWant rfl rfl ?_
                  refine oIdxA (s := 1) (i := 1 + i) (m := 1 + i) rfl rfl (by omega) rfl (by omega) (by omega) ?_
                  refine oWant rfl rfl ?_
                  refine oLd rfl (by repeat (first | exact Pick.here | apply Pick.there)) (nums_at x (by omega)) rfl ?_
                  refine oWant rfl rfl ?_
                  refine oNeq rfl rfl ?_
                  refine oPickT rfl rfl ?_
                  refine oNil ?_
                  refine thn_n ?_
                  first | refine wCond rfl (fun h53 => ?_) (fun h53 => ?_) | refine wCondB rfl (fun h53 => ?_) (fun h53 => ?_)
                  ·
                    refine wSeq ?_
                    refine wRegion' ?_
                    refine oAssign rfl ?_
                    refine oNil ?_
                    refine thn_n ?_
                    refine wRet ?_
                    refine blk_r ?_
                    refine thn_r ?_
                    refine thn_r ?_
                    refine blk_r ?_
                    refine thn_r ?_
                    refine fin_r ?_
                    refine ⟨rfl, _, (ResL.cons (ResR.tmp rfl) ResL.nil), ?_⟩
                    exact ⟨(), trivial, by unfold icF; rw [if_neg (show ¬ nameF x.fOp = ByteArray.empty from h11), if_neg (by rw [hA]; simp), if_neg (by omega), if_pos (any_T hi4 (by unfold badS; simp_all))]; rfl, (Leads.has (by repeat' (first | exact Has.nil | exact Pick.here | apply Has.cons | apply Pick.there)))⟩
                  ·
                    refine wSkip ?_
                    refine blk_n ?_
                    refine thn_n ?_
                    refine wRegion' ?_
                    refine oSucc rfl rfl (by omega) ?_
                    refine oMove rfl ?_
                    refine oNil ?_
                    refine thn_n ?_
                    exact ⟨rfl, i + 1, ⟨by omega, fun j hj => by
                    by_cases e : j = i
                    · subst e; unfold badS; simp_all
                    · exact hs j (by omega)⟩, by omega, (by repeat (first | exact trivial | refine And.intro rfl ?_)), (Leads.has (by repeat' (first | exact Has.nil | exact Pick.here | apply Has.cons | apply Pick.there)))⟩
                ·
                  refine oSkip rfl rfl rfl rfl ?_
                  refine oSkip rfl rfl rfl rfl ?_
                  refine oSkip rfl rfl rfl rfl ?_
                  refine oSkip rfl rfl rfl rfl ?_
                  refine oSkip rfl rfl rfl rfl ?_
                  refine oPickF rfl rfl ?_
                  refine oNil ?_
                  refine thn_n ?_
                  first | refine wCondF rfl ?_ | refine wCondFd h53 rfl ?_ | refine wCondFb h53 rfl ?_
                  refine wSkip ?_
                  refine blk_n ?_
                  refine thn_n ?_
                  refine wRegion' ?_
                  refine oSucc rfl rfl (by omega) ?_
                  refine oMove rfl ?_
                  refine oNil ?_
                  refine thn_n ?_
                  exact ⟨rfl, i + 1, ⟨by omega, fun j hj => by
                  by_cases e : j = i
                  · subst e; unfold badS; simp_all
                  · exact hs j (by omega)⟩, by omega, (by repeat (first | exact trivial | refine And.intro rfl ?_)), (Leads.has (by repeat' (first | exact Has.nil | exact Pick.here | apply Has.cons | apply Pick.there)))⟩
              ·
                refine wExit ?_
                refine thn_x ?_
                refine thn_x ?_
                refine blk_x ?_
                refine thn_n ?_
                refine wSeq ?_
                refine wRegion' ?_
                refine oAssign rfl ?_
                refine oNil ?_
                refine thn_n ?_
                refine wRet ?_
                refine fin_r ?_
                refine ⟨rfl, _, (ResL.cons (ResR.tmp rfl) ResL.nil), ?_⟩
                obtain rfl : i = (shapeF x.fOp).size := by omega
                exact ⟨(), trivial, by unfold icF; rw [if_neg (show ¬ nameF x.fOp = ByteArray.empty from h11), if_neg (by rw [hA]; simp), if_neg (by omega), if_neg (by rw [any_F hs]; simp)]; rfl, (Leads.has (by repeat' (first | exact Has.nil | exact Pick.here | apply Has.cons | apply Pick.there)))⟩
/-! ### functions' forms -/
def risF (n last : Int) : List Int → Bool
  | [] => true
  | a :: l => if a ≤ last ∨ n ≤ a then false else risF n a l
set_option maxRecDepth 100000 in
theorem fun_rising {B : Base} {w : World} (hS : St B [] w) (n : Int) (A : Option Addr) (cp : Nat) (l : List Int) (hC : (Kd.int .i64).C B.e A l) :
    CallsIn Fence.wide 0 Tryz.prog 138 #[.int .i64 n, .slice A l.length cp] w (Ret B (fun _ : Unit => True) (fun _ => .bool (risF n (-1) l)) (fun _ => [])) := by
  have hl := hC.1
  (refine enter Tryz.func138 rfl rfl hS ?_; simp only [List.zipIdx_cons, List.zipIdx_nil, List.map_cons, List.map_nil, Nat.reduceAdd, Nat.zero_add])
  refine wSeq ?_
  refine wRegion' ?_
  refine oAssign rfl ?_
  refine oNil ?_
  refine thn_n ?_
  refine wSeq ?_
  refine wRegion' ?_
  refine oAssign rfl ?_
  refine oNil ?_
  refine thn_n ?_
  refine wSeq ?_
  refine wSeq ?_
  refine wRegion' ?_
  refine oMove rfl ?_
  refine oLenS rfl rfl ?_
  refine oMove rfl ?_
  refine oNil ?_
  refine thn_n ?_
  refine wBlock ?_
  refine wLoop (ι := Nat × Int) (fun z => [(0, .int .i64 n), (5, .int .i64 z.2), (8, .slice A l.length cp), (9, .int .i64 (l.length : Int)), (10, .int .i64 (z.1 : Int))]) (fun z => []) (fun z => z.1 ≤ l.length ∧ risF n (-1) l = risF n z.2 (l.drop z.1)) (fun z => l.length - z.1) (0, -1) ?_ (by repeat (first | exact trivial | refine And.intro rfl ?_)) (Leads.has (by repeat' (first | exact Has.nil | exact Pick.here | apply Has.cons | apply Pick.there))) ?_
  ·
    exact ⟨Nat.zero_le _, rfl⟩
  ·
    rintro ⟨i, last⟩ ⟨hi, hr⟩
    dsimp only at hi hr
    try dsimp only
    refine wSeq ?_
    refine wRegion' ?_
    refine oLss rfl rfl ?_
    refine oNil ?_
    refine thn_n ?_
    refine wSeq ?_
    first | refine wCond rfl (fun h11 => ?_) (fun h11 => ?_) | refine wCondB rfl (fun h11 => ?_) (fun h11 => ?_)
    ·
      refine wSkip ?_
      refine thn_n ?_
      refine wSeq ?_
      refine wBlock ?_
      refine wSeq ?_
      refine wRegion' ?_
      refine oIdx rfl rfl (hC) rfl (by omega) rfl rfl (fun e12 u12 cs12 hu12 hk12 hc12 => ?_)
      obtain rfl := hk12
      first | refine oLdX rfl hc12 rfl rfl ?_ | refine oLdXA rfl hc12 rfl (by repeat (first | exact SubL.done | apply SubL.take | apply SubL.drop)) ?_ | (refine oLdR1 rfl (by repeat (first | exact Pick.here | apply Pick.there)) (by omega) rfl (fun u13 hu13 => ?_))
      have hd : l.drop i = u12 :: l.drop (i + 1) := by obtain ⟨hl2, rfl⟩ := List.getElem?_eq_some_iff.1 hu12; exact List.drop_eq_getElem_cons hl2
      refine oAssign rfl ?_
      refine oNil ?_
      refine thn_n ?_
      refine wSeq ?_
      refine wSeq ?_
      refine wRegion' ?_
      refine oMove rfl ?_
      refine oMove rfl ?_
      refine oLeq rfl rfl ?_
      refine oMove rfl ?_
      first | refine oSplit (t := 17) rfl (fun h17 => ?_) (fun h17 => ?_) | refine oSplitB (t := 17) rfl (fun h17 => ?_) (fun h17 => ?_)
      ·
        refine oSkip rfl rfl rfl rfl ?_
        refine oSkip rfl rfl rfl rfl ?_
        refine oSkip rfl rfl rfl rfl ?_
        refine oPickT rfl rfl ?_
        refine oNil ?_
        refine thn_n ?_
        first | refine wCondT rfl ?_ | refine wCondTd h21 rfl ?_ | refine wCondTb h21 rfl ?_
        refine wSeq ?_
        refine wRegion' ?_
        refine oAssign rfl ?_
        refine oNil ?_
        refine thn_n ?_
        refine wRet ?_
        refine thn_r ?_
        refine blk_r ?_
        refine thn_r ?_
        refine thn_r ?_
        refine blk_r ?_
        refine thn_r ?_
        refine fin_r ?_
        refine ⟨rfl, _, (ResL.cons (ResR.tmp rfl) ResL.nil), ?_⟩
        exact ⟨(), trivial, by rw [hr, hd]; show _ = Value.bool (if u12 ≤ last ∨ n ≤ u12 then _ else _); rw [if_pos (by omega)]; rfl, (Leads.has (by repeat' (first | exact Has.nil | exact Pick.here | apply Has.cons | apply Pick.there)))⟩
      ·
        refine oWant rfl rfl ?_
        refine oMove rfl ?_
        refine oWant rfl rfl ?_
        refine oMove rfl ?_
        refine oWant rfl rfl ?_
        refine oGeq rfl rfl ?_
        refine oPickF rfl rfl ?_
        refine oNil ?_
        refine thn_n ?_
        first | refine wCond rfl (fun h21 => ?_) (fun h21 => ?_) | refine wCondB rfl (fun h21 => ?_) (fun h21 => ?_)
        ·
          refine wSeq ?_
          refine wRegion' ?_
          refine oAssign rfl ?_
          refine oNil ?_
          refine thn_n ?_
          refine wRet ?_
          refine thn_r ?_
          refine blk_r ?_
          refine thn_r ?_
          refine thn_r ?_
          refine blk_r ?_
          refine thn_r ?_
          refine fin_r ?_
          refine ⟨rfl, _, (ResL.cons (ResR.tmp rfl) ResL.nil), ?_⟩
          exact ⟨(), trivial, by rw [hr, hd]; show _ = Value.bool (if u12 ≤ last ∨ n ≤ u12 then _ else _); rw [if_pos (by omega)]; rfl, (Leads.has (by repeat' (first | exact Has.nil | exact Pick.here | apply Has.cons | apply Pick.there)))⟩
        ·
          refine wSkip ?_
          refine thn_n ?_
          refine wRegion' ?_
          refine oMove rfl ?_
          refine oAssign rfl ?_
          refine oNil ?_
          refine blk_n ?_
          refine thn_n ?_
          refine wRegion' ?_
          refine oSucc rfl rfl (by omega) ?_
          refine oMove rfl ?_
          refine oNil ?_
          refine thn_n ?_
          exact ⟨rfl, (i + 1, u12), ⟨by show i + 1 ≤ _; omega, by rw [hr, hd]; show (if u12 ≤ last ∨ n ≤ u12 then _ else _) = _; rw [if_neg (by omega)]⟩, by show l.length - (i + 1) < l.length - i; omega, (by repeat (first | exact trivial | refine And.intro rfl ?_)), (Leads.has (by repeat' (first | exact Has.nil | exact Pick.here | apply Has.cons | apply Pick.there)))⟩
    ·
      refine wExit ?_
      refine thn_x ?_
      refine thn_x ?_
      refine blk_x ?_
      refine thn_n ?_
      refine wSeq ?_
      refine wRegion' ?_
      refine oAssign rfl ?_
      refine oNil ?_
      refine thn_n ?_
      refine wRet ?_
      refine fin_r ?_
      refine ⟨rfl, _, (ResL.cons (ResR.tmp rfl) ResL.nil), ?_⟩
      obtain rfl : i = l.length := by omega
      exact ⟨(), trivial, by rw [hr, List.drop_length]; rfl, (Leads.has (by repeat' (first | exact Has.nil | exact Pick.here | apply Has.cons | apply Pick.there)))⟩
end Go.Proofs.YtcacohoanlljhaaGreatV
