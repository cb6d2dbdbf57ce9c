import Derived.Test.YtcacohoanlljhaaGreatVb
import Derived.Test.YtcacohoanlljhaaGreatLay

/-
  Package flow: Next, Check; package fun: Check.
-/
namespace Go.Proofs.YtcacohoanlljhaaGreatV
set_option linter.unusedVariables false
set_option linter.unusedSimpArgs false
open Go.RowKit Go.Proofs.YtcacohoanlljhaaGreatK Go.Proofs.YtcacohoanlljhaaGreatT Go.Proofs.YtcacohoanlljhaaGreatL

abbrev kII : Kd (List Int) := Kd.slice (Kd.int .i64)
/-! ### the first of which something holds -/
def idxI {α : Type} (p : α → Bool) (l : List α) : Int := if l.any p then (l.findIdx p : Int) else -1
theorem idxI_stop {α : Type} {p : α → Bool} {l : List α} {i : Nat} {x : α} (h : ∀ y ∈ l.take i, p y = false) (hi : l[i]? = some x) (hp : p x = true) : idxI p l = (i : Int) := by
  obtain ⟨hl, rfl⟩ := List.getElem?_eq_some_iff.1 hi
  unfold idxI
  rw [if_pos (List.any_eq_true.2 ⟨_, List.getElem_mem hl, hp⟩)]
  rw [(List.findIdx_eq hl).2 ⟨hp, fun j hj => h _ (List.mem_take_iff_getElem.2 ⟨j, by omega, rfl⟩)⟩]
theorem idxI_none {α : Type} {p : α → Bool} {l : List α} (h : ∀ y ∈ l, p y = false) : idxI p l = -1 := by
  unfold idxI
  rw [if_neg]
  intro k
  obtain ⟨x, hx, hp⟩ := List.any_eq_true.1 k
  rw [h x hx] at hp; cases hp
theorem take_not {α : Type} {p : α → Bool} {l : List α} {i : Nat} {x : α} (h : ∀ y ∈ l.take i, p y = false) (hi : l[i]? = some x) (hp : p x = false) : ∀ y ∈ l.take (i + 1), p y = false := by
  intro y hy
  rw [List.take_add_one, hi] at hy
  rcases List.mem_append.1 hy with k | k
  · exact h y k
  · obtain rfl : y = x := by simpa using k
    exact hp
theorem idxI_iff {α : Type} {p : α → Bool} {l : List α} : 0 ≤ idxI p l ↔ l.any p = true := by
  unfold idxI
  split
  · next h => simp [h] <;> omega
  · next h => simp [h] <;> omega
theorem idxI_at {α : Type} {p : α → Bool} {l : List α} (h : 0 ≤ idxI p l) : ∃ (k : Nat) (x : α), idxI p l = (k : Int) ∧ l[k]? = some x ∧ p x = true := by
  have ha := idxI_iff.1 h
  unfold idxI
  rw [if_pos ha]
  have hl : l.findIdx p < l.length := List.findIdx_lt_length_of_exists (by simpa using ha)
  exact ⟨_, _, rfl, List.getElem?_eq_getElem hl, List.findIdx_getElem⟩
set_option maxRecDepth 100000 in
theorem indexFunc_int {B : Base} {w : World} {R : Res} (hS : St B [R] w) (l : List Int) (A : Option Addr) (cp : Nat) (hC : (Kd.int .i64).C B.e A l) (gf : Nat) (lb : Array Value) (p : Int → Bool) (hg : goodF Tryz.prog gf = true)
    (hh : ∀ B' w (x : Int), Grow B.e B'.e → x ∈ l → St B' [R] w → CallsIn Fence.wide 0 Tryz.prog gf (#[] ++ [Value.int .i64 x].toArray ++ lb) w (Ret B' (fun _ : Unit => True) (fun _ => .bool (p x)) (fun _ => [R]))) :
    CallsIn Fence.wide 0 Tryz.prog 160 #[.slice A l.length cp, .func (.func gf) #[] lb] w (Ret B (fun _ : Unit => True) (fun _ => .int .i64 (idxI p l)) (fun _ => [R])) := by
  have hl := hC.1
  (refine enter Tryz.func160 rfl rfl hS ?_; simp only [List.zipIdx_cons, List.zipIdx_nil, List.map_cons, List.map_nil, Nat.reduceAdd, Nat.zero_add])
  refine wSeq ?_
  refine wRegion' ?_
  refine oAssign rfl ?_
  refine oNil ?_
  refine thn_n ?_
  refine wSeq ?_
  refine wSeq ?_
  refine wRegion' ?_
  refine oMove rfl ?_
  refine oLenS rfl rfl ?_
  refine oMove rfl ?_
  refine oNil ?_
  refine thn_n ?_
  refine wBlock ?_
  refine wLoop (ι := Nat) (fun i => [(0, .slice A l.length cp), (1, .func (.func gf) #[] lb), (7, .int .i64 (l.length : Int)), (8, .int .i64 (i : Int))]) (fun i => [R]) (fun i => i ≤ l.length ∧ ∀ y ∈ l.take i, p y = false) (fun i => l.length - i) 0 ?_ (by repeat (first | exact trivial | refine And.intro rfl ?_)) (Leads.has (by repeat' (first | exact Has.nil | exact Pick.here | apply Has.cons | apply Pick.there))) ?_
  ·
    exact ⟨Nat.zero_le _, by simp⟩
  ·
    rintro i ⟨hi, hs⟩
    try dsimp only
    refine wSeq ?_
    refine wRegion' ?_
    refine oLss rfl rfl ?_
    refine oNil ?_
    refine thn_n ?_
    refine wSeq ?_
    first | refine wCond rfl (fun h9 => ?_) (fun h9 => ?_) | refine wCondB rfl (fun h9 => ?_) (fun h9 => ?_)
    ·
      refine wSkip ?_
      refine thn_n ?_
      refine wSeq ?_
      refine wBlock ?_
      refine wSeq ?_
      refine wRegion' ?_
      refine oMove rfl ?_
      refine oAssign rfl ?_
      refine oNil ?_
      refine thn_n ?_
      refine wSeq ?_
      refine wRegion' ?_
      refine oMove rfl ?_
      refine oMove rfl ?_
      refine oMove rfl ?_
      refine oIdx rfl rfl (hC) rfl (by omega) rfl rfl (fun e14 u14 cs14 hu14 hk14 hc14 => ?_)
      obtain rfl := hk14
      first | refine oLdX rfl hc14 rfl rfl ?_ | refine oLdXA rfl hc14 rfl (by repeat (first | exact SubL.done | apply SubL.take | apply SubL.drop)) ?_ | (refine oLdR1 rfl (by repeat (first | exact Pick.here | apply Pick.there)) (by omega) rfl (fun u15 hu15 => ?_))
      (refine oCallV rfl rfl rfl hg (fun w hS => frame hS (by repeat' (first | exact Split.nil | exact Pick.here | apply Split.cons | apply Pick.there)) (fun B' hB hS' => hh B' w u14 hB (List.mem_of_getElem? hu14) hS')) ?_; rintro ⟨⟩ -)
      refine oNil ?_
      refine thn_n ?_
      first | refine wCond rfl (fun h16 => ?_) (fun h16 => ?_) | refine wCondB rfl (fun h16 => ?_) (fun h16 => ?_)
      ·
        refine wSeq ?_
        refine wRegion' ?_
        refine oMove rfl ?_
        refine oAssign rfl ?_
        refine oNil ?_
        refine thn_n ?_
        refine wRet ?_
        refine blk_r ?_
        refine thn_r ?_
        refine thn_r ?_
        refine blk_r ?_
        refine thn_r ?_
        refine fin_r ?_
        refine ⟨rfl, _, (ResL.cons (ResR.tmp rfl) ResL.nil), ?_⟩
        exact ⟨(), trivial, by rw [idxI_stop hs hu14 (by simpa using h16)]; rfl, (Leads.has (by repeat' (first | exact Has.nil | exact Pick.here | apply Has.cons | apply Pick.there)))⟩
      ·
        refine wSkip ?_
        refine blk_n ?_
        refine thn_n ?_
        refine wRegion' ?_
        refine oSucc rfl rfl (by omega) ?_
        refine oMove rfl ?_
        refine oNil ?_
        refine thn_n ?_
        exact ⟨rfl, i + 1, ⟨by omega, take_not hs hu14 (by simpa using h16)⟩, by omega, (by repeat (first | exact trivial | refine And.intro rfl ?_)), (Leads.has (by repeat' (first | exact Has.nil | exact Pick.here | apply Has.cons | apply Pick.there)))⟩
    ·
      refine wExit ?_
      refine thn_x ?_
      refine thn_x ?_
      refine blk_x ?_
      refine thn_n ?_
      refine wSeq ?_
      refine wRegion' ?_
      refine oAssign rfl ?_
      refine oNil ?_
      refine thn_n ?_
      refine wRet ?_
      refine fin_r ?_
      refine ⟨rfl, _, (ResL.cons (ResR.tmp rfl) ResL.nil), ?_⟩
      obtain rfl : i = l.length := by omega
      rw [List.take_length] at hs
      exact ⟨(), trivial, by rw [idxI_none hs]; rfl, (Leads.has (by repeat' (first | exact Has.nil | exact Pick.here | apply Has.cons | apply Pick.there)))⟩
set_option maxRecDepth 100000 in
theorem containsFunc_int {B : Base} {w : World} {R : Res} (hS : St B [R] w) (l : List Int) (A : Option Addr) (cp : Nat) (hC : (Kd.int .i64).C B.e A l) (gf : Nat) (lb : Array Value) (p : Int → Bool) (hg : goodF Tryz.prog gf = true)
    (hh : ∀ B' w (x : Int), Grow B.e B'.e → x ∈ l → St B' [R] w → CallsIn Fence.wide 0 Tryz.prog gf (#[] ++ [Value.int .i64 x].toArray ++ lb) w (Ret B' (fun _ : Unit => True) (fun _ => .bool (p x)) (fun _ => [R]))) :
    CallsIn Fence.wide 0 Tryz.prog 167 #[.slice A l.length cp, .func (.func gf) #[] lb] w (Ret B (fun _ : Unit => True) (fun _ => .bool (l.any p)) (fun _ => [R])) := by
  (refine enter Tryz.func167 rfl rfl hS ?_; simp only [List.zipIdx_cons, List.zipIdx_nil, List.map_cons, List.map_nil, Nat.reduceAdd, Nat.zero_add])
  refine wSeq ?_
  refine wRegion' ?_
  refine oAssign rfl ?_
  refine oNil ?_
  refine thn_n ?_
  refine wSeq ?_
  refine wRegion' ?_
  refine oMove rfl ?_
  refine oMove rfl ?_
  (refine oCall rfl (by kernel_rfl) (fun w hS => frame hS (by repeat' (first | exact Split.nil | exact Pick.here | apply Split.cons | apply Pick.there)) (fun B' hB hS' => indexFunc_int hS' l A cp (Kd.C_grow hB hC) gf lb p hg (fun B2 w2 x hB2 hx hS2 => hh B2 w2 x (hB.trans hB2) hx hS2))) ?_; rintro ⟨⟩ -)
  refine oGeq rfl rfl ?_
  refine oAssign rfl ?_
  refine oNil ?_
  refine thn_n ?_
  refine wRet ?_
  refine fin_r ?_
  refine ⟨rfl, _, (ResL.cons (ResR.tmp rfl) ResL.nil), ?_⟩
  exact ⟨(), trivial, by show Value.bool (decide (0 ≤ idxI p l)) = _; congr 1; rw [Bool.eq_iff_iff, decide_eq_true_eq]; exact idxI_iff, (Leads.has (by repeat' (first | exact Has.nil | exact Pick.here | apply Has.cons | apply Pick.there)))⟩
/-! ### where control goes -/
def nextR (x : ApiInstr) (i : Int) : List Int := if x.fOp = 12 then [i + 1, x.fN] else if x.fOp = 11 then [x.fN] else if endsF x.fOp then [] else [i + 1]
def nextL (x : ApiInstr) (i : Int) : List Int := Lib.compact ((nextR x i).mergeSort leI)
def nextF (code : List ApiInstr) (i : Int) : List Int := if i < 0 ∨ (code.length : Int) ≤ i then [] else nextL (code.getD i.toNat default) i
theorem nextR_len (x : ApiInstr) (i : Int) : (nextR x i).length ≤ 2 := by
  unfold nextR
  split <;> (try split) <;> (try split) <;> simp
set_option maxRecDepth 100000 in
set_option maxHeartbeats 600000 in
theorem flow_Next {B : Base} {w : World} (hS : St B [] w) (A : Option Addr) (cp : Nat) (code : List ApiInstr) (hC : kApiInstr.C B.e A code) (i : Int) (W0 : World) :
    CallsIn Fence.wide 0 Tryz.prog 186 #[.slice A code.length cp, .int .i64 i] w (Ret B (fun _ : Option Addr × Nat => True) (fun z => .slice z.1 (nextF code i).length z.2) (fun z => [row (Kd.int .i64) W0 3 (.slice z.1 (nextF code i).length z.2) (nextF code i)])) := by
  have hl := hC.1
  (refine enter Tryz.func186 rfl rfl hS ?_; simp only [List.zipIdx_cons, List.zipIdx_nil, List.map_cons, List.map_nil, Nat.reduceAdd, Nat.zero_add])
  refine wSeq ?_
  refine wRegion' ?_
  refine oAssign rfl ?_
  refine oNil ?_
  refine thn_n ?_
  refine wSeq ?_
  refine wSeq ?_
  refine wRegion' ?_
  refine oMove rfl ?_
  refine oLss rfl rfl ?_
  refine oMove rfl ?_
  first | refine oSplit (t := 9) rfl (fun h9 => ?_) (fun h9 => ?_) | refine oSplitB (t := 9) rfl (fun h9 => ?_) (fun h9 => ?_)
  ·
    refine oSkip rfl rfl rfl rfl ?_
    refine oSkip rfl rfl rfl rfl ?_
    refine oSkip rfl rfl rfl rfl ?_
    refine oSkip rfl rfl rfl rfl ?_
    refine oPickT rfl rfl ?_
    refine oNil ?_
    refine thn_n ?_
    first | refine wCondT rfl ?_ | refine wCondTd h14 rfl ?_ | refine wCondTb h14 rfl ?_
    refine wSeq ?_
    refine wRegion' ?_
    refine oAssign rfl ?_
    refine oNil ?_
    refine thn_n ?_
    refine wRet ?_
    refine thn_r ?_
    refine fin_r ?_
    refine ⟨rfl, _, (ResL.cons (ResR.tmp rfl) ResL.nil), ?_⟩
    rw [show nextF code i = [] from if_pos (.inl h9)]
    exact ⟨(none, 0), trivial, rfl, Leads.nilrow.trans (Leads.has (by repeat' (first | exact Has.nil | exact Pick.here | apply Has.cons | apply Pick.there)))⟩
  ·
    refine oWant rfl rfl ?_
    refine oMove rfl ?_
    refine oWant rfl rfl ?_
    refine oMove rfl ?_
    refine oWant rfl rfl ?_
    refine oLenS rfl rfl ?_
    refine oWant rfl rfl ?_
    refine oGeq rfl rfl ?_
    refine oPickF rfl rfl ?_
    refine oNil ?_
    refine thn_n ?_
    first | refine wCond rfl (fun h14 => ?_) (fun h14 => ?_) | refine wCondB rfl (fun h14 => ?_) (fun h14 => ?_)
    ·
      refine wSeq ?_
      refine wRegion' ?_
      refine oAssign rfl ?_
      refine oNil ?_
      refine thn_n ?_
      refine wRet ?_
      refine thn_r ?_
      refine fin_r ?_
      refine ⟨rfl, _, (ResL.cons (ResR.tmp rfl) ResL.nil), ?_⟩
      rw [show nextF code i = [] from if_pos (.inr h14)]
      exact ⟨(none, 0), trivial, rfl, Leads.nilrow.trans (Leads.has (by repeat' (first | exact Has.nil | exact Pick.here | apply Has.cons | apply Pick.there)))⟩
    ·
      obtain ⟨k, rfl⟩ := Int.eq_ofNat_of_zero_le (show 0 ≤ i by omega)
      obtain ⟨x, hx⟩ : ∃ x, code[k]? = some x := ⟨_, List.getElem?_eq_getElem (by omega)⟩
      have hkl : k < code.length := by omega
      have hnx : nextF code (k : Int) = nextL x (k : Int) := by unfold nextF; rw [if_neg (by omega), Int.toNat_natCast, List.getD_eq_getElem?_getD, hx]; rfl
      obtain ⟨e1, cs1, hE⟩ := hC.elm hx
      obtain rfl := kApiInstr_open hE.K
      refine wSkip ?_
      refine thn_n ?_
      refine wSeq ?_
      refine wRegion' ?_
      refine oAssign rfl ?_
      refine oNil ?_
      refine thn_n ?_
      refine wSeq ?_
      refine wSeq ?_
      refine wRegion' ?_
      refine oMove rfl ?_
      refine oMove rfl ?_
      refine oIdxE rfl rfl (hE) (by omega) rfl rfl ?_
      have hc17 := (hE).cell
      first | refine oLdX rfl hc17 rfl rfl ?_ | refine oLdXA rfl hc17 rfl (by repeat (first | exact SubL.done | apply SubL.take | apply SubL.drop)) ?_ | (refine oLdR1 rfl (by repeat (first | exact Pick.here | apply Pick.there)) (by omega) rfl (fun u18 hu18 => ?_))
      refine oAlloc rfl (by first | exact CellsOf.agg | exact CellsOf.one rfl) (fun b6 => ?_)
      refine oStA rfl rfl rfl rfl (by repeat (first | exact Pick.here | apply Pick.there)) (by rfl) ?_
      refine oNil ?_
      refine thn_n ?_
      refine wBlock ?_
      refine wSeq ?_
      refine wBlock ?_
      refine wSeq ?_
      refine wBlock ?_
      refine wSeq ?_
      refine wBlock ?_
      refine wSeq ?_
      refine wSeq ?_
      refine wSeq ?_
      refine wRegion' ?_
      refine oFld (n := 0) (m := 0) rfl rfl rfl ?_
      refine oLd rfl (by repeat (first | exact Pick.here | apply Pick.there)) rfl rfl ?_
      refine oEql rfl rfl ?_
      refine oAssign rfl ?_
      refine oNil ?_
      refine thn_n ?_
      first | refine wCond rfl (fun h19 => ?_) (fun h19 => ?_) | refine wCondB rfl (fun h19 => ?_) (fun h19 => ?_)
      ·
        refine wExit ?_
        refine thn_x ?_
        refine thn_x ?_
        refine blk_x ?_
        refine thn_n ?_
        refine wRegion' ?_
        refine oMove rfl ?_
        refine oMove rfl ?_
        refine oAdd rfl rfl (by omega) ?_
        refine oBuildSlice1 rfl rfl rfl rfl rfl (by first | exact CellsOf.agg | exact CellsOf.one rfl) rfl (fun b35 => ?_)
        refine oConv (Leads.nilrow (kd := Kd.int .i64) (W := W0) (e := 3)) ?_
        refine oApp1 ((k : Int) + 1) rfl rfl rfl rfl (by repeat (first | exact Pick.here | apply Pick.there)) (by repeat (first | exact Pick.here | apply Pick.there)) rfl (by simp) rfl (fun g36 cp36 => ?_)
        refine oAssign rfl ?_
        refine oNil ?_
        refine blk_n ?_
        refine thn_n ?_
        refine wSeq ?_
        refine wRegion' ?_
        refine oMove rfl ?_
        refine oFld (n := 4) (m := 4) rfl rfl rfl ?_
        refine oLd rfl (by repeat (first | exact Pick.here | apply Pick.there)) rfl rfl ?_
        refine oBuildSlice1 rfl rfl rfl rfl rfl (by first | exact CellsOf.agg | exact CellsOf.one rfl) rfl (fun b40 => ?_)
        refine oApp1 x.fN rfl rfl rfl rfl (by repeat (first | exact Pick.here | apply Pick.there)) (by repeat (first | exact Pick.here | apply Pick.there)) rfl (by simp) rfl (fun g41 cp41 => ?_)
        refine oAssign rfl ?_
        refine oNil ?_
        refine thn_n ?_
        refine wExit ?_
        refine blk_y rfl ?_
        refine thn_x ?_
        refine blk_x ?_
        refine thn_n ?_
        refine wSeq ?_
        refine wRegion' ?_
        refine oMove rfl ?_
        (refine oCall rfl (by kernel_rfl) (fun w hS => frame hS (by repeat' (first | exact Split.nil | exact Pick.here | apply Split.cons | apply Pick.there)) (fun B' hB hS' => sort_int laysn189_at hS' (by simp))) ?_; rintro ⟨⟩ -)
        refine oNil ?_
        refine thn_n ?_
        refine wSeq ?_
        refine wRegion' ?_
        refine oMove rfl ?_
        (refine oCall rfl (by kernel_rfl) (fun w hS => frame hS (by repeat' (first | exact Split.nil | exact Pick.here | apply Split.cons | apply Pick.there)) (fun B' hB hS' => compact_int lays2n20_at hS' (by rw [List.length_mergeSort]; simp))) ?_; rintro ⟨⟩ -)
        refine oAssign rfl ?_
        refine oNil ?_
        refine thn_n ?_
        refine wRet ?_
        refine fin_r ?_
        refine ⟨rfl, _, (ResL.cons (ResR.tmp rfl) ResL.nil), ?_⟩
        have hnr : nextF code (k : Int) = Lib.compact ((([] ++ [(k : Int) + 1]) ++ [x.fN]).mergeSort leI) := by rw [hnx]; unfold nextL nextR; rw [if_pos h19]; rfl
        rw [hnr]
        exact ⟨(_, _), trivial, rfl, (Leads.has (by repeat' (first | exact Has.nil | exact Pick.here | apply Has.cons | apply Pick.there)))⟩
      ·
        refine wSkip ?_
        refine thn_n ?_
        refine wSeq ?_
        refine wSeq ?_
        refine wRegion' ?_
        refine oFld (n := 0) (m := 0) rfl rfl rfl ?_
        refine oLd rfl (by repeat (first | exact Pick.here | apply Pick.there)) rfl rfl ?_
        refine oEql rfl rfl ?_
        refine oAssign rfl ?_
        refine oNil ?_
        refine thn_n ?_
        first | refine wCond rfl (fun h23 => ?_) (fun h23 => ?_) | refine wCondB rfl (fun h23 => ?_) (fun h23 => ?_)
        ·
          refine wExit ?_
          refine thn_x ?_
          refine thn_x ?_
          refine blk_y rfl ?_
          refine thn_x ?_
          refine blk_x ?_
          refine thn_n ?_
          refine wSeq ?_
          refine wRegion' ?_
          refine oMove rfl ?_
          refine oFld (n := 4) (m := 4) rfl rfl rfl ?_
          refine oLd rfl (by repeat (first | exact Pick.here | apply Pick.there)) rfl rfl ?_
          refine oBuildSlice1 rfl rfl rfl rfl rfl (by first | exact CellsOf.agg | exact CellsOf.one rfl) rfl (fun b40 => ?_)
          refine oConv (Leads.nilrow (kd := Kd.int .i64) (W := W0) (e := 3)) ?_
          refine oApp1 x.fN rfl rfl rfl rfl (by repeat (first | exact Pick.here | apply Pick.there)) (by repeat (first | exact Pick.here | apply Pick.there)) rfl (by simp) rfl (fun g41 cp41 => ?_)
          refine oAssign rfl ?_
          refine oNil ?_
          refine thn_n ?_
          refine wExit ?_
          refine blk_y rfl ?_
          refine thn_x ?_
          refine blk_x ?_
          refine thn_n ?_
          refine wSeq ?_
          refine wRegion' ?_
          refine oMove rfl ?_
          (refine oCall rfl (by kernel_rfl) (fun w hS => frame hS (by repeat' (first | exact Split.nil | exact Pick.here | apply Split.cons | apply Pick.there)) (fun B' hB hS' => sort_int laysn189_at hS' (by simp))) ?_; rintro ⟨⟩ -)
          refine oNil ?_
          refine thn_n ?_
          refine wSeq ?_
          refine wRegion' ?_
          refine oMove rfl ?_
          (refine oCall rfl (by kernel_rfl) (fun w hS => frame hS (by repeat' (first | exact Split.nil | exact Pick.here | apply Split.cons | apply Pick.there)) (fun B' hB hS' => compact_int lays2n20_at hS' (by rw [List.length_mergeSort]; simp))) ?_; rintro ⟨⟩ -)
          refine oAssign rfl ?_
          refine oNil ?_
          refine thn_n ?_
          refine wRet ?_
          refine fin_r ?_
          refine ⟨rfl, _, (ResL.cons (ResR.tmp rfl) ResL.nil), ?_⟩
          have hnr : nextF code (k : Int) = Lib.compact (([] ++ [x.fN]).mergeSort leI) := by rw [hnx]; unfold nextL nextR; rw [if_neg h19, if_pos h23]; rfl
          rw [hnr]
          exact ⟨(_, _), trivial, rfl, (Leads.has (by repeat' (first | exact Has.nil | exact Pick.here | apply Has.cons | apply Pick.there)))⟩
        ·
          refine wSkip ?_
          refine thn_n ?_
          refine wSeq ?_
          refine wRegion' ?_
          refine oFld (n := 0) (m := 0) rfl rfl rfl ?_
          refine oLd rfl (by repeat (first | exact Pick.here | apply Pick.there)) rfl rfl ?_
          (refine oCall rfl (by kernel_rfl) (fun w hS => frame hS (by repeat' (first | exact Split.nil | exact Pick.here | apply Split.cons | apply Pick.there)) (fun B' hB hS' => op_Ends hS' x.fOp)) ?_; rintro ⟨⟩ -)
          first | refine oNot rfl ?_ | refine oNotB rfl ?_
          refine oAssign rfl ?_
          refine oNil ?_
          refine thn_n ?_
          first | refine wCond rfl (fun h27 => ?_) (fun h27 => ?_) | refine wCondB rfl (fun h27 => ?_) (fun h27 => ?_)
          ·
            refine wExit ?_
            refine thn_x ?_
            refine blk_y rfl ?_
            refine thn_x ?_
            refine blk_y rfl ?_
            refine thn_x ?_
            refine blk_x ?_
            refine thn_n ?_
            refine wSeq ?_
            refine wRegion' ?_
            refine oMove rfl ?_
            refine oMove rfl ?_
            refine oAdd rfl rfl (by omega) ?_
            refine oBuildSlice1 rfl rfl rfl rfl rfl (by first | exact CellsOf.agg | exact CellsOf.one rfl) rfl (fun b45 => ?_)
            refine oConv (Leads.nilrow (kd := Kd.int .i64) (W := W0) (e := 3)) ?_
            refine oApp1 ((k : Int) + 1) rfl rfl rfl rfl (by repeat (first | exact Pick.here | apply Pick.there)) (by repeat (first | exact Pick.here | apply Pick.there)) rfl (by simp) rfl (fun g46 cp46 => ?_)
            refine oAssign rfl ?_
            refine oNil ?_
            refine thn_n ?_
            refine wExit ?_
            refine blk_x ?_
            refine thn_n ?_
            refine wSeq ?_
            refine wRegion' ?_
            refine oMove rfl ?_
            (refine oCall rfl (by kernel_rfl) (fun w hS => frame hS (by repeat' (first | exact Split.nil | exact Pick.here | apply Split.cons | apply Pick.there)) (fun B' hB hS' => sort_int laysn189_at hS' (by simp))) ?_; rintro ⟨⟩ -)
            refine oNil ?_
            refine thn_n ?_
            refine wSeq ?_
            refine wRegion' ?_
            refine oMove rfl ?_
            (refine oCall rfl (by kernel_rfl) (fun w hS => frame hS (by repeat' (first | exact Split.nil | exact Pick.here | apply Split.cons | apply Pick.there)) (fun B' hB hS' => compact_int lays2n20_at hS' (by rw [List.length_mergeSort]; simp))) ?_; rintro ⟨⟩ -)
            refine oAssign rfl ?_
            refine oNil ?_
            refine thn_n ?_
            refine wRet ?_
            refine fin_r ?_
            refine ⟨rfl, _, (ResL.cons (ResR.tmp rfl) ResL.nil), ?_⟩
            have hnr : nextF code (k : Int) = Lib.compact (([] ++ [(k : Int) + 1]).mergeSort leI) := by rw [hnx]; unfold nextL nextR; rw [if_neg h19, if_neg h23, if_neg (by have := h27; simp [endsF] at this ⊢; omega)]; rfl
            rw [hnr]
            exact ⟨(_, _), trivial, rfl, (Leads.has (by repeat' (first | exact Has.nil | exact Pick.here | apply Has.cons | apply Pick.there)))⟩
          ·
            refine wSkip ?_
            refine thn_n ?_
            refine wExit ?_
            refine blk_y rfl ?_
            refine thn_x ?_
            refine blk_y rfl ?_
            refine thn_x ?_
            refine blk_y rfl ?_
            refine thn_x ?_
            refine blk_x ?_
            refine thn_n ?_
            refine wSeq ?_
            refine wRegion' ?_
            refine oMove rfl ?_
            refine oConv (Leads.nilrow (kd := Kd.int .i64) (W := W0) (e := 3)) ?_
            (refine oCall rfl (by kernel_rfl) (fun w hS => frame hS (by repeat' (first | exact Split.nil | exact Pick.here | apply Split.cons | apply Pick.there)) (fun B' hB hS' => sort_int laysn189_at hS' (by simp))) ?_; rintro ⟨⟩ -)
            refine oNil ?_
            refine thn_n ?_
            refine wSeq ?_
            refine wRegion' ?_
            refine oMove rfl ?_
            (refine oCall rfl (by kernel_rfl) (fun w hS => frame hS (by repeat' (first | exact Split.nil | exact Pick.here | apply Split.cons | apply Pick.there)) (fun B' hB hS' => compact_int lays2n20_at hS' (by rw [List.length_mergeSort]; simp))) ?_; rintro ⟨⟩ -)
            refine oAssign rfl ?_
            refine oNil ?_
            refine thn_n ?_
            refine wRet ?_
            refine fin_r ?_
            refine ⟨rfl, _, (ResL.cons (ResR.tmp rfl) ResL.nil), ?_⟩
            have hnr : nextF code (k : Int) = Lib.compact (([] : List Int).mergeSort leI) := by rw [hnx]; unfold nextL nextR; rw [if_neg h19, if_neg h23, if_pos (by have := h27; simp [endsF] at this ⊢; omega)]
            rw [hnr]
            exact ⟨(_, _), trivial, rfl, (Leads.has (by repeat' (first | exact Has.nil | exact Pick.here | apply Has.cons | apply Pick.there)))⟩
def graphF (code : List ApiInstr) : List (List Int) := (List.range code.length).map fun i : Nat => nextF code (i : Int)
theorem graphF_len (code : List ApiInstr) : (graphF code).length = code.length := by simp [graphF]
theorem graphF_at {code : List ApiInstr} {i : Nat} (h : i < code.length) : (graphF code)[i]? = some (nextF code (i : Int)) := by simp [graphF, h]
theorem take_at' {α : Type} {l : List α} {a : Nat} {u : α} (hu : l[a]? = some u) : l.take a ++ [u] = l.take (a + 1) := by
  rw [List.take_add_one, hu]; rfl
set_option maxRecDepth 100000 in
set_option maxHeartbeats 600000 in
theorem flow_graph {B : Base} {w : World} (hS : St B [] w) (A : Option Addr) (cp : Nat) (code : List ApiInstr) (hC : kApiInstr.C B.e A code) (hl : code.length ≤ 1000) (W0 : World) :
    CallsIn Fence.wide 0 Tryz.prog 166 #[.slice A code.length cp] w
      (Ret B (fun z : Option Addr × Nat × List Hdr => z.2.2.length = code.length) (fun z => .slice z.1 code.length z.2.1) (fun z => [row kHdr W0 44 (.slice z.1 code.length z.2.1) z.2.2, bun (rws (Kd.int .i64) W0 3 z.2.2 (graphF code))])) := by
  have hgl := graphF_len code
  (refine enter Tryz.func166 rfl rfl hS ?_; simp only [List.zipIdx_cons, List.zipIdx_nil, List.map_cons, List.map_nil, Nat.reduceAdd, Nat.zero_add])
  refine wSeq ?_
  refine wRegion' ?_
  refine oAssign rfl ?_
  refine oNil ?_
  refine thn_n ?_
  refine wSeq ?_
  refine wRegion' ?_
  refine oAssign rfl ?_
  refine oNil ?_
  refine thn_n ?_
  refine wSeq ?_
  refine wSeq ?_
  refine wRegion' ?_
  refine oMove rfl ?_
  refine oLenS rfl rfl ?_
  refine oMove rfl ?_
  refine oNil ?_
  refine thn_n ?_
  refine wBlock ?_
  refine wLoop (ι := Nat × List Hdr × Option Addr × Nat) (fun z => [(0, .slice A code.length cp), (3, .slice z.2.2.1 z.1 z.2.2.2), (6, .int .i64 (code.length : Int)), (7, .int .i64 (z.1 : Int))]) (fun z => [row kHdr W0 44 (.slice z.2.2.1 z.1 z.2.2.2) z.2.1, bun (rws (Kd.int .i64) W0 3 z.2.1 ((graphF code).take z.1))]) (fun z => z.1 ≤ code.length ∧ z.2.1.length = z.1) (fun z => code.length - z.1) (0, [], none, 0) ?_ (by repeat (first | exact trivial | refine And.intro rfl ?_)) (Leads.nilrow.trans (bun_nil.trans (Leads.has (by repeat' (first | exact Has.nil | exact Pick.here | apply Has.cons | apply Pick.there))))) ?_
  ·
    exact ⟨Nat.zero_le _, rfl⟩
  ·
    rintro ⟨a, hs, A5, c5⟩ ⟨ha, hhl⟩
    dsimp only at ha hhl
    have hxl : ((graphF code).take a).length = a := by rw [List.length_take]; omega
    try dsimp only
    refine wSeq ?_
    refine wRegion' ?_
    refine oLss rfl rfl ?_
    refine oNil ?_
    refine thn_n ?_
    refine wSeq ?_
    first | refine wCond rfl (fun h8 => ?_) (fun h8 => ?_) | refine wCondB rfl (fun h8 => ?_) (fun h8 => ?_)
    ·
      refine wSkip ?_
      refine thn_n ?_
      refine wSeq ?_
      refine wBlock ?_
      refine wSeq ?_
      refine wRegion' ?_
      refine oMove rfl ?_
      refine oAssign rfl ?_
      refine oNil ?_
      refine thn_n ?_
      refine wRegion' ?_
      refine oMove rfl ?_
      refine oMove rfl ?_
      refine oMove rfl ?_
      (refine oCall rfl (by kernel_rfl) (fun w hS => frame hS (by repeat' (first | exact Split.nil | exact Pick.here | apply Split.cons | apply Pick.there)) (fun B' hB hS' => flow_Next hS' A cp code (Kd.C_grow hB hC) (a : Int) W0)) ?_; rintro ⟨A13, c13⟩ -)
      refine oBuildSlice1 rfl rfl rfl rfl rfl (by first | exact CellsOf.agg | exact CellsOf.one rfl) rfl (fun b14 => ?_)
      refine oApp1 (kd := kHdr) ((A13, (nextF code (a : Int)).length, c13) : Hdr) rfl rfl rfl rfl (by repeat (first | exact Pick.here | apply Pick.there)) (by repeat (first | exact Pick.here | apply Pick.there)) rfl (by omega) rfl (fun g15 cp15 => ?_)
      refine oSnoc (kd := Kd.int .i64) (W := W0) (ei := 3) (u := (A13, (nextF code (a : Int)).length, c13)) (l := nextF code (a : Int)) (hs := hs) (xss := (graphF code).take a) (by repeat (first | exact Pick.here | apply Pick.there)) (by repeat (first | exact Pick.here | apply Pick.there)) (by omega) ?_
      rw [take_at' (graphF_at (by omega)), hhl]
      refine oAssign rfl ?_
      refine oNil ?_
      refine blk_n ?_
      refine thn_n ?_
      refine wRegion' ?_
      refine oSucc rfl rfl (by omega) ?_
      refine oMove rfl ?_
      refine oNil ?_
      refine thn_n ?_
      exact ⟨rfl, (a + 1, hs ++ [(A13, (nextF code (a : Int)).length, c13)], some ⟨g15, 0, none⟩, cp15), ⟨by show a + 1 ≤ _; omega, by show (hs ++ _).length = a + 1; rw [List.length_append, hhl]; rfl⟩, by show code.length - (a + 1) < code.length - a; omega, (by repeat (first | exact trivial | refine And.intro rfl ?_)), (Leads.has (by repeat' (first | exact Has.nil | exact Pick.here | apply Has.cons | apply Pick.there)))⟩
    ·
      obtain rfl : a = code.length := by omega
      rw [show (graphF code).take code.length = graphF code by rw [← hgl, List.take_length]]
      refine wExit ?_
      refine thn_x ?_
      refine thn_x ?_
      refine blk_x ?_
      refine thn_n ?_
      refine wSeq ?_
      refine wRegion' ?_
      refine oMove rfl ?_
      refine oAssign rfl ?_
      refine oNil ?_
      refine thn_n ?_
      refine wRet ?_
      refine fin_r ?_
      refine ⟨rfl, _, (ResL.cons (ResR.tmp rfl) ResL.nil), ?_⟩
      exact ⟨(A5, c5, hs), hhl, rfl, (Leads.has (by repeat' (first | exact Has.nil | exact Pick.here | apply Has.cons | apply Pick.there)))⟩
def outF (n : Nat) (to : Int) : Bool := decide (to < 0 ∨ (n : Int) ≤ to)
def flowF (code : List ApiInstr) : Int := if code.length = 0 then 3 else if 64 < code.length then 6 else if (graphF code).any (fun l => l.any (outF code.length)) then 10 else 0
set_option maxRecDepth 100000 in
theorem flow_Check1 {B : Base} {w : World} (A : Option Addr) (n cp b1 : Nat) (hS : St B [blk b1 46 [.slice A n cp]] w) (to : Int) :
    CallsIn Fence.wide 0 Tryz.prog 168 #[.int .i64 to, .pointer (some ⟨b1, 0, none⟩)] w (Ret B (fun _ : Unit => True) (fun _ => .bool (outF n to)) (fun _ => [blk b1 46 [.slice A n cp]])) := by
  (refine enter Tryz.func168 rfl rfl hS ?_; simp only [List.zipIdx_cons, List.zipIdx_nil, List.map_cons, List.map_nil, Nat.reduceAdd, Nat.zero_add])
  refine wSeq ?_
  refine wRegion' ?_
  refine oAssign rfl ?_
  refine oNil ?_
  refine thn_n ?_
  refine wSeq ?_
  refine wRegion' ?_
  refine oMove rfl ?_
  refine oLss rfl rfl ?_
  refine oMove rfl ?_
  first | refine oSplit (t := 6) rfl (fun h6 => ?_) (fun h6 => ?_) | refine oSplitB (t := 6) rfl (fun h6 => ?_) (fun h6 => ?_)
  ·
    refine oSkip rfl rfl rfl rfl ?_
    refine oSkip rfl rfl rfl rfl ?_
    refine oSkip rfl rfl rfl rfl ?_
    refine oSkip rfl rfl rfl rfl ?_
    refine oPickT rfl rfl ?_
    refine oAssign rfl ?_
    refine oNil ?_
    refine thn_n ?_
    refine wRet ?_
    refine fin_r ?_
    refine ⟨rfl, _, (ResL.cons (ResR.tmp rfl) ResL.nil), ?_⟩
    exact ⟨(), trivial, by simp_all [resVal, outF] <;> omega, (Leads.has (by repeat' (first | exact Has.nil | exact Pick.here | apply Has.cons | apply Pick.there)))⟩
  ·
    refine oWant rfl rfl ?_
    refine oMove rfl ?_
    refine oWant rfl rfl ?_
    refine oLd rfl (by repeat (first | exact Pick.here | apply Pick.there)) rfl rfl ?_
    refine oWant rfl rfl ?_
    refine oLenS rfl rfl ?_
    refine oWant rfl rfl ?_
    refine oGeq rfl rfl ?_
    refine oPickF rfl rfl ?_
    refine oAssign rfl ?_
    refine oNil ?_
    refine thn_n ?_
    refine wRet ?_
    refine fin_r ?_
    refine ⟨rfl, _, (ResL.cons (ResR.tmp rfl) ResL.nil), ?_⟩
    exact ⟨(), trivial, by simp_all [resVal, outF] <;> omega, (Leads.has (by repeat' (first | exact Has.nil | exact Pick.here | apply Has.cons | apply Pick.there)))⟩
set_option maxRecDepth 100000 in
set_option maxHeartbeats 600000 in
theorem flow_Check {B : Base} {w : World} (hS : St B [] w) (A : Option Addr) (cp : Nat) (code : List ApiInstr) (hC : kApiInstr.C B.e A code) :
    CallsIn Fence.wide 0 Tryz.prog 135 #[.slice A code.length cp] w (Ret B (fun _ : Unit => True) (fun _ => .int .i64 (flowF code)) (fun _ => [])) := by
  have hgl := graphF_len code
  (refine enter Tryz.func135 rfl rfl hS ?_; simp only [List.zipIdx_cons, List.zipIdx_nil, List.map_cons, List.map_nil, Nat.reduceAdd, Nat.zero_add])
  refine wSeq ?_
  refine wRegion' ?_
  refine oBox rfl (by first | exact CellsOf.agg | exact CellsOf.one rfl) (fun b1 => ?_)
  refine oAssign rfl ?_
  refine oNil ?_
  refine thn_n ?_
  refine wSeq ?_
  refine wBlock ?_
  refine wSeq ?_
  refine wRegion' ?_
  refine oLd rfl (by repeat (first | exact Pick.here | apply Pick.there)) rfl rfl ?_
  refine oLenS rfl rfl ?_
  refine oEql rfl rfl ?_
  refine oAssign rfl ?_
  refine oNil ?_
  refine thn_n ?_
  first | refine wCond rfl (fun h5 => ?_) (fun h5 => ?_) | refine wCondB rfl (fun h5 => ?_) (fun h5 => ?_)
  ·
    refine wSeq ?_
    refine wRegion' ?_
    refine oAssign rfl ?_
    refine oNil ?_
    refine thn_n ?_
    refine wRet ?_
    refine blk_r ?_
    refine thn_r ?_
    refine fin_r ?_
    refine ⟨rfl, _, (ResL.cons (ResR.tmp rfl) ResL.nil), ?_⟩
    exact ⟨(), trivial, by unfold flowF; rw [if_pos (by omega)]; rfl, (Leads.has (by repeat' (first | exact Has.nil | exact Pick.here | apply Has.cons | apply Pick.there)))⟩
  ·
    refine wSeq ?_
    refine wRegion' ?_
    refine oLd rfl (by repeat (first | exact Pick.here | apply Pick.there)) rfl rfl ?_
    refine oLenS rfl rfl ?_
    refine oGtr rfl rfl ?_
    refine oAssign rfl ?_
    refine oNil ?_
    refine thn_n ?_
    first | refine wCond rfl (fun h9 => ?_) (fun h9 => ?_) | refine wCondB rfl (fun h9 => ?_) (fun h9 => ?_)
    ·
      refine wSeq ?_
      refine wRegion' ?_
      refine oAssign rfl ?_
      refine oNil ?_
      refine thn_n ?_
      refine wRet ?_
      refine blk_r ?_
      refine thn_r ?_
      refine fin_r ?_
      refine ⟨rfl, _, (ResL.cons (ResR.tmp rfl) ResL.nil), ?_⟩
      exact ⟨(), trivial, by unfold flowF; rw [if_neg (by omega), if_pos (by omega)]; rfl, (Leads.has (by repeat' (first | exact Has.nil | exact Pick.here | apply Has.cons | apply Pick.there)))⟩
    ·
      have hc0 : ¬ code.length = 0 := by omega
      have hc1 : ¬ 64 < code.length := by omega
      refine wSkip ?_
      refine blk_n ?_
      refine thn_n ?_
      refine wSeq ?_
      refine wSeq ?_
      refine wRegion' ?_
      refine oLd rfl (by repeat (first | exact Pick.here | apply Pick.there)) rfl rfl ?_
      (refine oCall rfl (by kernel_rfl) (fun w hS => frame hS (by repeat' (first | exact Split.nil | exact Pick.here | apply Split.cons | apply Pick.there)) (fun B' hB hS' => flow_graph hS' A cp code (Kd.C_grow hB hC) (by omega) B.e)) ?_; rintro ⟨A14, c14, hs14⟩ hl14)
      dsimp only at hl14 ⊢
      refine oSet (t := 14) (v' := .slice A14 (graphF code).length c14) rfl (by rw [hgl]) ?_
      refine oLenS rfl rfl ?_
      refine oMove rfl ?_
      refine oNil ?_
      refine thn_n ?_
      refine wFreeze [row kHdr B.e 44 (.slice A14 code.length c14) hs14, bun (rws (Kd.int .i64) B.e 3 hs14 (graphF code))] (by repeat' (first | exact Split.nil | exact Pick.here | apply Split.cons | apply Pick.there)) (fun B1 hB1 hq1 => ?_)
      have hCg := grid_C (hq1 _ _ (by repeat (first | exact Pick.here | apply Pick.there))) (hq1 _ _ (by repeat (first | exact Pick.here | apply Pick.there))) (by rw [hgl]; exact hl14) hB1
      refine wBlock ?_
      refine wLoop (ι := Nat) (fun i => [(1, .pointer (some ⟨b1, 0, none⟩)), (14, .slice A14 (graphF code).length c14), (15, .int .i64 ((graphF code).length : Int)), (16, .int .i64 (i : Int))]) (fun i => [blk b1 46 [.slice A code.length cp]]) (fun i => i ≤ code.length ∧ ∀ y ∈ (graphF code).take i, y.any (outF code.length) = false) (fun i => code.length - i) 0 ?_ (by repeat (first | exact trivial | refine And.intro rfl ?_)) (Leads.has (by repeat' (first | exact Has.nil | exact Pick.here | apply Has.cons | apply Pick.there))) ?_
      ·
        exact ⟨Nat.zero_le _, by simp⟩
      ·
        rintro i ⟨hi, hs⟩
        try dsimp only
        refine wSeq ?_
        refine wRegion' ?_
        refine oLss rfl rfl ?_
        refine oNil ?_
        refine thn_n ?_
        refine wSeq ?_
        first | refine wCond rfl (fun h17 => ?_) (fun h17 => ?_) | refine wCondB rfl (fun h17 => ?_) (fun h17 => ?_)
        ·
          refine wSkip ?_
          refine thn_n ?_
          refine wSeq ?_
          refine wBlock ?_
          refine wSeq ?_
          refine wRegion' ?_
          refine oIdx rfl rfl (hCg) rfl (by omega) rfl rfl (fun e18 u18 cs18 hu18 hk18 hc18 => ?_)
          obtain ⟨A0, c0, rfl, hle18, g0⟩ := hk18
          first | refine oLdX rfl hc18 rfl rfl ?_ | refine oLdXA rfl hc18 rfl (by repeat (first | exact SubL.done | apply SubL.take | apply SubL.drop)) ?_ | (refine oLdR1 rfl (by repeat (first | exact Pick.here | apply Pick.there)) (by omega) rfl (fun u19 hu19 => ?_))
          refine oAssign rfl ?_
          refine oNil ?_
          refine thn_n ?_
          refine wSeq ?_
          refine wRegion' ?_
          refine oMove rfl ?_
          refine oMakeFunc rfl ?_
          (refine oCall rfl (by kernel_rfl) (fun w hS => frame hS (by repeat' (first | exact Split.nil | exact Pick.here | apply Split.cons | apply Pick.there)) (fun B' hB hS' => containsFunc_int hS' u18 A0 c0 (Kd.C_grow hB g0) _ _ (outF code.length) (by kernel_rfl) (fun B2 w2 x hB2 hx hS2 => flow_Check1 A code.length cp b1 hS2 x))) ?_; rintro ⟨⟩ -)
          refine oNil ?_
          refine thn_n ?_
          first | refine wCond rfl (fun h22 => ?_) (fun h22 => ?_) | refine wCondB rfl (fun h22 => ?_) (fun h22 => ?_)
          ·
            refine wSeq ?_
            refine wRegion' ?_
            refine oAssign rfl ?_
            refine oNil ?_
            refine thn_n ?_
            refine wRet ?_
            refine blk_r ?_
            refine thn_r ?_
            refine thn_r ?_
            refine blk_r ?_
            refine thn_r ?_
            refine fin_r ?_
            refine ⟨rfl, _, (ResL.cons (ResR.tmp rfl) ResL.nil), ?_⟩
            exact ⟨(), trivial, by unfold flowF; rw [if_neg hc0, if_neg hc1, if_pos (List.any_eq_true.2 ⟨u18, List.mem_of_getElem? hu18, by simpa using h22⟩)]; rfl, (Leads.has (by repeat' (first | exact Has.nil | exact Pick.here | apply Has.cons | apply Pick.there)))⟩
          ·
            refine wSkip ?_
            refine blk_n ?_
            refine thn_n ?_
            refine wRegion' ?_
            refine oSucc rfl rfl (by omega) ?_
            refine oMove rfl ?_
            refine oNil ?_
            refine thn_n ?_
            exact ⟨rfl, i + 1, ⟨by omega, take_not (p := fun l : List Int => l.any (outF code.length)) hs hu18 (by simpa using h22)⟩, by omega, (by repeat (first | exact trivial | refine And.intro rfl ?_)), (Leads.has (by repeat' (first | exact Has.nil | exact Pick.here | apply Has.cons | apply Pick.there)))⟩
        ·
          refine wExit ?_
          refine thn_x ?_
          refine thn_x ?_
          refine blk_x ?_
          refine thn_n ?_
          refine wSeq ?_
          refine wRegion' ?_
          refine oAssign rfl ?_
          refine oNil ?_
          refine thn_n ?_
          refine wRet ?_
          refine fin_r ?_
          refine ⟨rfl, _, (ResL.cons (ResR.tmp rfl) ResL.nil), ?_⟩
          obtain rfl : i = code.length := by omega
          rw [← hgl, List.take_length] at hs
          exact ⟨(), trivial, by unfold flowF; rw [if_neg hc0, if_neg hc1, if_neg (by intro k; obtain ⟨y, hy, hp⟩ := List.any_eq_true.1 k; have := hs y hy; rw [hgl, hp] at this; cases this)]; rfl, (Leads.has (by repeat' (first | exact Has.nil | exact Pick.here | apply Has.cons | apply Pick.there)))⟩
end Go.Proofs.YtcacohoanlljhaaGreatV
