import Derived.Test.YtogaiijhicfoaaaGreatKib
import Derived.Test.YtogaiijhicfoaaaGreatVc

/-
  Of slices: Index, Contains, Clone, DeleteFunc, Grow, Concat, at []int.
-/
namespace Go.Proofs.YtogaiijhicfoaaaGreatU
set_option linter.unusedVariables false
set_option linter.unusedSimpArgs false
open Go.RowKit Go.Proofs.YtogaiijhicfoaaaGreatK Go.Proofs.YtogaiijhicfoaaaGreatT Go.Proofs.YtogaiijhicfoaaaGreatL Go.Proofs.YtogaiijhicfoaaaGreatV

theorem idxI_mem {l : List Int} {v : Int} : 0 ≤ idxI (fun y => decide (v = y)) l ↔ v ∈ l := by
  rw [idxI_iff, List.any_eq_true]
  constructor
  · rintro ⟨x, hx, h⟩; rw [of_decide_eq_true h]; exact hx
  · intro h; exact ⟨v, h, decide_eq_true rfl⟩
theorem src_Cs {α : Type} {enc : α → Value} {h1 : ∀ x, (enc x).oneCell' = true} {W W' w : World} {A : Option Addr} {xs : List α} (hC : (Kd.scalar enc h1).C W' A xs) (g : Grow W' w) : Src (Kd.scalar enc h1) W w A xs := by
  obtain ⟨s1, s2⟩ := src_C hC g
  refine ⟨s1, fun ad e => ?_⟩
  obtain ⟨news, hc, hn⟩ := s2 ad e
  exact ⟨news, cat_scalar.2 (cat_scalar.1 hc), hn⟩
theorem idxI_two {α : Type} (p : α → Bool) (l : List α) : 0 ≤ idxI p l ∨ idxI p l = -1 := by
  by_cases h : l.any p = true
  · exact .inl (idxI_iff.2 h)
  · right; unfold idxI; rw [if_neg h]
theorem idxI_pre {α : Type} {p : α → Bool} {l : List α} {i : Nat} (h : idxI p l = (i : Int)) : ∀ y ∈ l.take i, p y = false := by
  have ha : l.any p = true := idxI_iff.1 (by omega)
  unfold idxI at h
  rw [if_pos ha] at h
  intro y hy
  obtain ⟨j, hj, rfl⟩ := List.mem_take_iff_getElem.1 hy
  have := List.not_of_lt_findIdx (p := p) (xs := l) (i := j) (by omega)
  simpa using this
set_option maxRecDepth 100000 in
theorem index_int {B : Base} {w : World} (hS : St B [] w) (l : List Int) (A : Option Addr) (cp : Nat) (hC : (Kd.int .i64).C B.e A l) (v : Int) :
    CallsIn Fence.wide 0 Tryz.prog 194 #[.slice A l.length cp, .int .i64 v] w (Ret B (fun _ : Unit => True) (fun _ => .int .i64 (idxI (fun y => decide (v = y)) l)) (fun _ => [])) := by
  have hl := hC.1
  (refine enter Tryz.func194 rfl rfl hS ?_; simp only [List.zipIdx_cons, List.zipIdx_nil, List.map_cons, List.map_nil, Nat.reduceAdd, Nat.zero_add])
  refine wSeq (wRegion' (oAssign rfl (oNil (thn_n (wSeq (wSeq (wRegion' (oMove rfl (oLenS rfl rfl (oMove rfl (oNil ?_)))))))))))
  refine thn_n (wBlock (wLoop (ι := Nat) (fun i => [(0, .slice A l.length cp), (1, .int .i64 v), (7, .int .i64 (l.length : Int)), (8, .int .i64 (i : Int))]) (fun i => []) (fun i => i ≤ l.length ∧ ∀ y ∈ l.take i, decide (v = y) = false) (fun i => l.length - i) 0 ?_ cv Lh ?_))
  ·
   exact ⟨Nat.zero_le _, by simp⟩
  rintro i ⟨hi, hs⟩
  try dsimp only
  refine wSeq (wRegion' (oLss rfl rfl (oNil (thn_n (wSeq (wC (fun h9 => ?_) (fun h9 => ?_)))))))
  ·
   obtain ⟨x, hx⟩ : ∃ x, l[i]? = some x := ⟨_, List.getElem?_eq_getElem (by omega)⟩
   obtain ⟨e1, cs1, hE⟩ := hC.elm hx
   obtain rfl := (show cs1 = [Value.int .i64 x] from hE.K)
   refine wSkip (thn_n (wSeq (wBlock (wSeq (wRegion' (oMove rfl (oAssign rfl (oNil (thn_n (wSeq (wRegion' ?_)))))))))))
   refine oMove rfl (oMove rfl (oMove rfl (oIdxE rfl rfl (hE) (by omega) rfl rfl ?_)))
   have hc14 := (hE).cell
   first | refine oLdX rfl hc14 rfl rfl ?_ | refine oLdXA rfl hc14 rfl (by repeat constructor) ?_ | (refine oLdR1 rfl (by repeat constructor) (by omega) rfl (fun u15 hu15 => ?_))
   refine oEql rfl rfl (oNil (thn_n (wC (fun h16 => ?_) (fun h16 => ?_))))
   ·
    refine wSeq (wRegion' (oMove rfl (oAssign rfl (oNil (thn_n (wRet (blk_r (thn_r (thn_r (blk_r (thn_r ?_)))))))))))
    refine fin_r (fi1 rfl ?_)
    exact ⟨(), trivial, by rw [idxI_stop (p := fun y => decide (v = y)) hs hx (decide_eq_true h16)]; rfl, Lh⟩
   refine wSkip (blk_n (thn_n (wRegion' (oSucc rfl rfl (by omega) ?_))))
   refine oMove rfl (oNil (thn_n ?_))
   exact ⟨rfl, i + 1, ⟨by omega, take_not (p := fun y => decide (v = y)) hs hx (decide_eq_false h16)⟩, by omega, cv, Lh⟩
  refine wExit (thn_x (thn_x (blk_x (thn_n (wSeq (wRegion' (oAssign rfl (oNil (thn_n (wRet (fin_r ?_)))))))))))
  refine fi1 rfl ?_
  obtain rfl : i = l.length := by omega
  rw [List.take_length] at hs
  exact ⟨(), trivial, by rw [idxI_none hs]; rfl, Lh⟩
set_option maxRecDepth 100000 in
theorem contains_int {B : Base} {w : World} (hS : St B [] w) (l : List Int) (A : Option Addr) (cp : Nat) (hC : (Kd.int .i64).C B.e A l) (v : Int) :
    CallsIn Fence.wide 0 Tryz.prog 147 #[.slice A l.length cp, .int .i64 v] w (Ret B (fun _ : Unit => True) (fun _ => .bool (decide (v ∈ l))) (fun _ => [])) := by
  (refine enter Tryz.func147 rfl rfl hS ?_; simp only [List.zipIdx_cons, List.zipIdx_nil, List.map_cons, List.map_nil, Nat.reduceAdd, Nat.zero_add])
  refine wSeq (wRegion' (oAssign rfl (oNil (thn_n (wSeq (wRegion' (oMove rfl (oMove rfl ?_))))))))
  (refine oCall rfl (by kernel_rfl) (fun w hS => frame hS (by repeat' constructor) (fun B' hB hS' => index_int hS' l A cp (Kd.C_grow hB hC) v)) ?_; rintro ⟨⟩ -)
  refine oGeq rfl rfl (oAssign rfl (oNil (thn_n (wRet (fin_r (fi1 rfl ?_))))))
  exact ⟨(), trivial, by rw [show decide (v ∈ l) = decide (0 ≤ idxI (fun y => decide (v = y)) l) from decide_eq_decide.2 idxI_mem.symm]; rfl, Lh⟩
set_option maxRecDepth 100000 in
theorem clone_int {B : Base} {w : World} (hS : St B [] w) (l : List Int) (A : Option Addr) (cp : Nat) (hC : (Kd.int .i64).C B.e A l) (hl : l.length ≤ 1000000) (W0 : World) :
    CallsIn Fence.wide 0 Tryz.prog 142 #[.slice A l.length cp] w (Ret B (fun _ : Option Addr × Nat => True) (fun z => .slice z.1 l.length z.2) (fun z => [row (Kd.int .i64) W0 3 (.slice z.1 l.length z.2) l])) := by
  (refine enter Tryz.func142 rfl rfl hS ?_; simp only [List.zipIdx_cons, List.zipIdx_nil, List.map_cons, List.map_nil, Nat.reduceAdd, Nat.zero_add])
  refine wSeq (wRegion' (oAssign rfl (oNil (thn_n (wSeq (wSeq (wRegion' (oMove rfl (oEqlS rfl rfl rfl (oNil (thn_n ?_)))))))))))
  refine wC (fun h4 => ?_) (fun h4 => ?_)
  ·
   refine wSeq (wRegion' (oAssign rfl (oNil (thn_n (wRet (thn_r (fin_r (fi1 rfl ?_))))))))
   have hl0 : l = [] := by
     cases l with
     | nil => rfl
     | cons x t => obtain ⟨ad, e, _⟩ := hC.2 (by simp); rw [h4] at e; cases e
   subst hl0
   exact ⟨(none, 0), trivial, rfl, (Leads.nilrow.trans Lh)⟩
  refine wSkip (thn_n (wSeq (wRegion' (oBuildSlice0 (Kd.int .i64) W0 rfl (fun b5 => ?_)))))
  refine oMove rfl ?_
  refine oAppA (kd := Kd.int .i64) (W := W0) (xs := []) (ys := l) rfl rfl rfl rfl (by repeat constructor) rfl (fun w hw => src_Cs hC (Base.grow hw.ok)) (by simp; omega) rfl (fun A7 c7 hc7 => ?_)
  refine oSet (t := 7) (v' := .slice A7 l.length c7) rfl (by simp) ?_
  rw [List.length_nil, Nat.zero_add, List.nil_append]
  refine oAssign rfl (oNil (thn_n (wRet (fin_r (fi1 rfl ?_)))))
  exact ⟨(A7, c7), trivial, rfl, Lh⟩
def leftL (p : Int → Bool) (l : List Int) : List Int := l.filter fun x => !p x
theorem left_none {p : Int → Bool} {l : List Int} (h : ∀ y ∈ l, p y = false) : leftL p l = l := by
  unfold leftL
  rw [List.filter_eq_self]
  intro a ha; rw [h a ha]; rfl
theorem left_succ {p : Int → Bool} {l : List Int} {j : Nat} {x : Int} (h : l[j]? = some x) : leftL p (l.take (j + 1)) = leftL p (l.take j) ++ (if p x = true then [] else [x]) := by
  unfold leftL
  rw [List.take_add_one, h, List.filter_append]
  congr 1
  show List.filter _ [x] = _
  cases hp : p x <;> simp [hp]
theorem left_le (p : Int → Bool) (l : List Int) : (leftL p l).length ≤ l.length := List.length_filter_le _ _
structure Part (p : Int → Bool) (l xs : List Int) (j : Nat) : Prop where
  len : xs.length = l.length
  fst : xs.take (leftL p (l.take j)).length = leftL p (l.take j)
  rest : ∀ k, j ≤ k → xs[k]? = l[k]?
theorem Part.start {p : Int → Bool} {l : List Int} {i : Nat} {x : Int} (h : ∀ y ∈ l.take i, p y = false) (hi : l[i]? = some x) (hp : p x = true) : (leftL p (l.take (i + 1))).length = i ∧ Part p l l (i + 1) := by
  have hl := (List.getElem?_eq_some_iff.1 hi).1
  have e : leftL p (l.take (i + 1)) = l.take i := by rw [left_succ hi, if_pos hp, List.append_nil, left_none h]
  have en : (leftL p (l.take (i + 1))).length = i := by rw [e, List.length_take]; omega
  refine ⟨en, rfl, by rw [en, e], fun k hk => rfl⟩
theorem Part.out {p : Int → Bool} {l xs : List Int} {j : Nat} {x : Int} (h : Part p l xs j) (hx : l[j]? = some x) (hp : p x = true) : leftL p (l.take (j + 1)) = leftL p (l.take j) ∧ Part p l xs (j + 1) := by
  have e : leftL p (l.take (j + 1)) = leftL p (l.take j) := by rw [left_succ hx, if_pos hp, List.append_nil]
  exact ⟨e, h.len, by rw [e]; exact h.fst, fun k hk => h.rest k (by omega)⟩
theorem Part.put {p : Int → Bool} {l xs : List Int} {j : Nat} {x : Int} (h : Part p l xs j) (hx : l[j]? = some x) (hp : p x = false) : (leftL p (l.take (j + 1))).length = (leftL p (l.take j)).length + 1 ∧ Part p l (xs.set (leftL p (l.take j)).length x) (j + 1) := by
  have hjl := (List.getElem?_eq_some_iff.1 hx).1
  have e : leftL p (l.take (j + 1)) = leftL p (l.take j) ++ [x] := by rw [left_succ hx, if_neg (by rw [hp]; simp)]
  have hn : (leftL p (l.take j)).length ≤ j := Nat.le_trans (left_le _ _) (by rw [List.length_take]; omega)
  have en : (leftL p (l.take (j + 1))).length = (leftL p (l.take j)).length + 1 := by rw [e, List.length_append]; rfl
  refine ⟨en, by rw [List.length_set, h.len], ?_, fun k hk => ?_⟩
  · rw [en, List.take_add_one, List.take_set_of_le (Nat.le_refl _), h.fst, List.getElem?_set_self (by rw [h.len]; omega), e]; rfl
  · rw [List.getElem?_set_ne (by omega), h.rest k (by omega)]
set_option maxRecDepth 100000 in
set_option maxHeartbeats 1000000 in
theorem deleteFunc_int {B : Base} {w : World} {R : Res} {W0 : World} (l : List Int) (A : Option Addr) (cp : Nat) (hS : St B [row (Kd.int .i64) W0 3 (.slice A l.length cp) l, R] w) (hl : l.length ≤ 1000000) (gf : Nat) (lb : Array Value) (p : Int → Bool) (hg : goodF Tryz.prog gf = true)
    (hh : ∀ B' w (x : Int), Grow B.e B'.e → x ∈ l → St B' [R] w → CallsIn Fence.wide 0 Tryz.prog gf (#[] ++ [Value.int .i64 x].toArray ++ lb) w (Ret B' (fun _ : Unit => True) (fun _ => .bool (p x)) (fun _ => [R]))) :
    CallsIn Fence.wide 0 Tryz.prog 141 #[.slice A l.length cp, .func (.func gf) #[] lb] w (Ret B (fun _ : Unit => True) (fun _ => .slice A (leftL p l).length cp) (fun _ => [row (Kd.int .i64) W0 3 (.slice A (leftL p l).length cp) (leftL p l), R])) := by
  (refine enter Tryz.func141 rfl rfl hS ?_; simp only [List.zipIdx_cons, List.zipIdx_nil, List.map_cons, List.map_nil, Nat.reduceAdd, Nat.zero_add])
  refine wSeq (wRegion' (oAssign rfl (oNil (thn_n (wSeq (wRegion' (oMove rfl (oMove rfl ?_))))))))
  (refine oCall rfl (by kernel_rfl) (fun w hS => frame' hS (Ψ := [R]) (by repeat' constructor) (fun B' hB hR hS' => indexFunc_int hS' l A cp (row_Cs (W := W0) (e := 3) (n := l.length) (cp := cp) (hR _ _ (by repeat constructor))) gf lb p hg (fun B2 w2 x hg2 hx hS2 => hh B2 w2 x (hB.trans hg2) hx hS2))) ?_; rintro ⟨⟩ -)
  refine oAssign rfl (oNil (thn_n (wSeq (wSeq (wRegion' (oMove rfl (oEql rfl rfl (oNil (thn_n (wC (fun h12 => ?_) (fun h12 => ?_)))))))))))
  ·
   refine wSeq (wRegion' (oMove rfl (oAssign rfl (oNil (thn_n (wRet (thn_r (fin_r (fi1 rfl ?_)))))))))
   have hno : ∀ y ∈ l, p y = false := by
     intro y hy
     cases hp : p y with
     | false => rfl
     | true => have := idxI_iff.2 (List.any_eq_true.2 ⟨y, hy, hp⟩); omega
   exact ⟨(), trivial, by rw [left_none hno]; rfl, by rw [left_none hno]; exact Lh⟩
  obtain ⟨i, x, hi, hx, hp⟩ := idxI_at (show 0 ≤ idxI p l by have := idxI_two p l; omega)
  have hpre := idxI_pre hi
  have hil := (List.getElem?_eq_some_iff.1 hx).1
  rw [hi]
  obtain ⟨hn0, hP0⟩ := Part.start hpre hx hp
  refine wSkip (thn_n (wSeq (wSeq (wRegion' (oMove rfl (oSucc rfl rfl (by omega) ?_))))))
  refine oSet (t := 5) (v' := .int .i64 ((leftL p (l.take (i + 1))).length : Int)) rfl (by rw [hn0]) ?_
  refine oAssign rfl (oNil (thn_n (wBlock (wLoop (ι := Nat × List Int) (fun z => [(0, .slice A l.length cp), (1, .func (.func gf) #[] lb), (5, .int .i64 ((leftL p (l.take z.1)).length : Int)), (6, .int .i64 (z.1 : Int))]) (fun z => [row (Kd.int .i64) W0 3 (.slice A l.length cp) z.2, R]) (fun z => z.1 ≤ l.length ∧ Part p l z.2 z.1) (fun z => l.length - z.1) (i + 1, l) ?_ cv Lh ?_))))
  ·
   exact ⟨by omega, hP0⟩
  rintro ⟨j, xs⟩ ⟨hj, hP⟩
  dsimp only at hj hP
  have hxl := hP.len
  have hle := left_le p (l.take j)
  rw [List.length_take] at hle
  try dsimp only
  refine wSeq (wSeq (wRegion' (oMove rfl (oMove rfl (oLenS rfl rfl (oLss rfl rfl (oNil (thn_n (wC (fun h19 => ?_) (fun h19 => ?_))))))))))
  ·
   obtain ⟨y, hy⟩ : ∃ y, l[j]? = some y := ⟨_, List.getElem?_eq_getElem (by omega)⟩
   refine wSkip (thn_n (wSeq (wBlock (wSeq (wRegion' (oMove rfl (oMove rfl (oIdxR rfl rfl (by repeat constructor) (by omega) rfl rfl (fun g24 hg24 => ?_)))))))))
   first | subst hg24 | (injection hg24 with hg24; injection hg24 with hg24; subst hg24)
   first | refine oLdX rfl hc24 rfl rfl ?_ | refine oLdXA rfl hc24 rfl (by repeat constructor) ?_ | (refine oLdR1 rfl (by repeat constructor) (by omega) rfl (fun u25 hu25 => ?_))
   obtain rfl : y = u25 := by rw [hP.rest j (Nat.le_refl _), hy] at hu25; exact Option.some.inj hu25
   refine oAssign rfl (oNil (thn_n (wSeq (wRegion' (oMove rfl (oMove rfl ?_))))))
   (refine oCallV rfl rfl rfl hg (fun w hS => frame hS (by repeat' constructor) (fun B' hB hS' => hh B' w y hB (List.mem_of_getElem? hy) hS')) ?_; rintro ⟨⟩ -)
   first | refine oNot rfl ?_ | refine oNotB rfl ?_
   refine oNil (thn_n (wC (fun h29 => ?_) (fun h29 => ?_)))
   ·
    obtain ⟨hn2, hP2⟩ := hP.put hy (by simpa using h29)
    refine wSeq (wRegion' (oMove rfl (oMove rfl (oMove rfl (oIdxR rfl rfl (by repeat constructor) (by omega) rfl rfl (fun g33 hg33 => ?_))))))
    first | subst hg33 | (injection hg33 with hg33; injection hg33 with hg33; subst hg33)
    refine oStR _ rfl rfl rfl rfl (by repeat constructor) (by first | omega | (simp only [List.length_set]; omega)) ?_
    refine oNil (thn_n (wRegion' (oMove rfl (oSucc rfl rfl (by omega) ?_))))
    rw [← hn2]
    refine oAssign rfl (oNil (blk_n (thn_n (wRegion' (oMove rfl (oSucc rfl rfl (by omega) ?_))))))
    refine oAssign rfl (oNil (thn_n ?_))
    exact ⟨rfl, (j + 1, xs.set (leftL p (l.take j)).length y), ⟨by show j + 1 ≤ _; omega, hP2⟩, by show l.length - (j + 1) < l.length - j; omega, cv, Lh⟩
   obtain ⟨hn2, hP2⟩ := hP.out hy (by simpa using h29)
   refine wSkip (blk_n (thn_n (wRegion' (oMove rfl (oSucc rfl rfl (by omega) ?_)))))
   refine oAssign rfl (oNil (thn_n ?_))
   exact ⟨rfl, (j + 1, xs), ⟨by show j + 1 ≤ _; omega, hP2⟩, by show l.length - (j + 1) < l.length - j; omega, by dsimp only; rw [hn2]; exact cv, Lh⟩
  obtain rfl : j = l.length := by omega
  have hfst := hP.fst
  have hle2 := left_le p l
  rw [List.take_length] at hfst
  rw [show l.take l.length = l from List.take_length]
  refine wExit (thn_x (thn_x (blk_x (thn_n (wSeq (wRegion' (oMove rfl (oMove rfl (oRoom (by repeat constructor) (fun _ hcp => ?_))))))))))
  refine oSliceV rfl rfl hle2 hcp rfl (oClear (u := (0 : Int)) rfl hle2 rfl rfl (by repeat constructor) ?_)
  refine oNil (thn_n (wSeq (wRegion' (oMove rfl (oMove rfl (oSliceTo (kd := Kd.int .i64) rfl rfl hle2 rfl (by repeat constructor) ?_))))))
  rw [List.take_append_of_le_length (by rw [List.length_take]; omega), List.take_take, Nat.min_self, hfst]
  refine oAssign rfl (oNil (thn_n (wRet (fin_r (fi1 rfl ?_)))))
  exact ⟨(), trivial, rfl, Lh⟩
set_option maxRecDepth 100000 in
set_option maxHeartbeats 600000 in
theorem grow_nil {B : Base} {w : World} (hS : St B [] w) (n : Nat) (hn : n ≤ 1000000) (W0 : World) :
    CallsIn Fence.wide 0 Tryz.prog 146 #[.slice none 0 0, .int .i64 (n : Int)] w (Ret B (fun _ : Option Addr × Nat => True) (fun z => .slice z.1 0 z.2) (fun z => [row (Kd.int .i64) W0 3 (.slice z.1 0 z.2) []])) := by
  (refine enter Tryz.func146 rfl rfl hS ?_; simp only [List.zipIdx_cons, List.zipIdx_nil, List.map_cons, List.map_nil, Nat.reduceAdd, Nat.zero_add])
  refine wSeq (wRegion' (oAssign rfl (oNil (thn_n (wSeq (wSeq (wRegion' (oMove rfl (oLss rfl rfl (oNil (thn_n ?_)))))))))))
  refine wC (fun h6 => ?_) (fun h6 => ?_)
  ·
   omega
  refine wSkip (thn_n (wSeq (wSeq (wRegion' (oMove rfl (oMove rfl (oCapS rfl rfl (oMove rfl (oLenS rfl rfl ?_)))))))))
  first | refine oSub rfl rfl (by omega) ?_ | refine oSubW rfl rfl ?_
  refine oSub rfl rfl (by omega) ?_
  refine oSet (t := 14) (v' := .int .i64 (n : Int)) rfl (by congr 1 <;> omega) ?_
  refine oAssign rfl (oNil (thn_n (wSeq (wRegion' (oMove rfl (oGtr rfl rfl (oNil (thn_n (wC (fun h16 => ?_) (fun h16 => ?_))))))))))
  ·
   refine wRegion' (oMove rfl (oMove rfl (oCapS rfl rfl (oConv (Leads.nilrow (kd := Kd.int .i64) (W := W0) (e := 3)) (oSliceTo (kd := Kd.int .i64) (W := W0) (e := 3) (A := none) (n := 0) (cp := 0) (m := 0) (xs := []) rfl rfl (Nat.le_refl _) rfl (by repeat constructor) ?_)))))
   refine oMove rfl (oAppZ (kd := Kd.int .i64) (W := W0) (0 : Int) rfl rfl (by omega) rfl rfl rfl rfl rfl (by omega) rfl (fun g22 c22 => ?_))
   refine oMove rfl (oLenS rfl rfl (oSliceTo (kd := Kd.int .i64) (W := W0) (e := 3) (A := some ⟨g22, 0, none⟩) (n := n) (cp := c22) (m := 0) (xs := List.replicate n 0) rfl rfl (Nat.zero_le _) rfl (by repeat constructor) ?_))
   rw [List.take_zero]
   refine oAssign rfl (oNil (thn_n (wSeq (wRegion' (oMove rfl (oAssign rfl (oNil (thn_n (wRet (fin_r (fi1 rfl ?_)))))))))))
   exact ⟨(some ⟨g22, 0, none⟩, c22), trivial, rfl, Lh⟩
  refine wSkip (thn_n (wSeq (wRegion' (oMove rfl (oAssign rfl (oNil (thn_n (wRet (fin_r (fi1 rfl ?_))))))))))
  exact ⟨(none, 0), trivial, rfl, (Leads.nilrow.trans Lh)⟩
theorem flat_succ {α : Type} {ll : List (List α)} {i : Nat} {x : List α} (h : ll[i]? = some x) : (ll.take (i + 1)).flatten = (ll.take i).flatten ++ x := by
  rw [List.take_add_one, h]; simp
theorem flat_le {α : Type} (ll : List (List α)) : ∀ i, (ll.take i).flatten.length ≤ ll.flatten.length := fun i => by
  conv => rhs; rw [← List.take_append_drop i ll, List.flatten_append, List.length_append]
  omega
set_option maxRecDepth 100000 in
set_option maxHeartbeats 1000000 in
theorem concat_int {B : Base} {w : World} (hS : St B [] w) (ll : List (List Int)) (A : Option Addr) (cp : Nat) (hC : (Kd.slice (Kd.int .i64)).C B.e A ll) (hl : ll.flatten.length ≤ 1000000) (W0 : World) :
    CallsIn Fence.wide 0 Tryz.prog 86 #[.slice A ll.length cp] w (Ret B (fun _ : Option Addr × Nat => True) (fun z => .slice z.1 ll.flatten.length z.2) (fun z => [row (Kd.int .i64) W0 3 (.slice z.1 ll.flatten.length z.2) ll.flatten])) := by
  have hll := hC.1
  (refine enter Tryz.func86 rfl rfl hS ?_; simp only [List.zipIdx_cons, List.zipIdx_nil, List.map_cons, List.map_nil, Nat.reduceAdd, Nat.zero_add])
  refine wSeq (wRegion' (oAssign rfl (oNil (thn_n (wSeq (wRegion' (oAssign rfl (oNil (thn_n (wSeq (wSeq ?_)))))))))))
  refine wRegion' (oMove rfl (oLenS rfl rfl (oMove rfl (oNil (thn_n (wBlock (wLoop (ι := Nat) (fun i => [(0, .slice A ll.length cp), (3, .int .i64 ((ll.take i).flatten.length : Int)), (9, .slice A ll.length cp), (10, .int .i64 (ll.length : Int)), (11, .int .i64 (i : Int))]) (fun i => []) (fun i => i ≤ ll.length) (fun i => ll.length - i) 0 ?_ cv Lh ?_)))))))
  ·
   exact Nat.zero_le _
  rintro i hi
  have hfl := flat_le ll i
  have hfl2 := flat_le ll (i + 1)
  try dsimp only
  refine wSeq (wRegion' (oLss rfl rfl (oNil (thn_n (wSeq (wC (fun h12 => ?_) (fun h12 => ?_)))))))
  ·
   obtain ⟨x, hx⟩ : ∃ x, ll[i]? = some x := ⟨_, List.getElem?_eq_getElem (by omega)⟩
   obtain ⟨e1, cs1, hE⟩ := hC.elm hx
   obtain ⟨A1, c1, rfl, hc1, hC1⟩ := hE.K
   have hfs := flat_succ hx
   rw [hfs, List.length_append] at hfl2
   refine wSkip (thn_n (wSeq (wBlock (wSeq (wRegion' (oIdxE rfl rfl (hE) (by omega) rfl rfl ?_))))))
   have hc13 := (hE).cell
   first | refine oLdX rfl hc13 rfl rfl ?_ | refine oLdXA rfl hc13 rfl (by repeat constructor) ?_ | (refine oLdR1 rfl (by repeat constructor) (by omega) rfl (fun u14 hu14 => ?_))
   refine oAssign rfl (oNil (thn_n (wSeq (wRegion' (oMove rfl (oMove rfl (oLenS rfl rfl (oAdd rfl rfl (by omega) ?_))))))))
   refine oSet (t := 18) (v' := .int .i64 ((ll.take (i + 1)).flatten.length : Int)) rfl (by rw [hfs, List.length_append]; rfl) ?_
   refine oAssign rfl (oNil (thn_n (wSeq (wRegion' (oMove rfl (oLss rfl rfl (oNil (thn_n (wC (fun h20 => ?_) (fun h20 => ?_))))))))))
   ·
    omega
   refine wSkip (blk_n (thn_n (wRegion' (oSucc rfl rfl (by omega) ?_))))
   refine oMove rfl (oNil (thn_n ?_))
   exact ⟨rfl, i + 1, by omega, by omega, cv, Lh⟩
  obtain rfl : i = ll.length := by omega
  rw [List.take_length]
  refine wExit (thn_x (thn_x (blk_x (thn_n (wSeq (wRegion' (oMove rfl ?_)))))))
  (refine oCall rfl (by kernel_rfl) (fun w hS => frame hS (by repeat' constructor) (fun B' hB hS' => grow_nil hS' ll.flatten.length hl W0)) ?_; rintro ⟨A24, c24⟩ -)
  refine oAssign rfl (oNil (thn_n (wSeq (wSeq (wRegion' (oMove rfl (oLenS rfl rfl (oMove rfl (oNil (thn_n (wBlock ?_)))))))))))
  refine wLoop (ι := Nat × Option Addr × Nat) (fun z => [(0, .slice A ll.length cp), (6, .slice z.2.1 (ll.take z.1).flatten.length z.2.2), (25, .slice A ll.length cp), (26, .int .i64 (ll.length : Int)), (27, .int .i64 (z.1 : Int))]) (fun z => [row (Kd.int .i64) W0 3 (.slice z.2.1 (ll.take z.1).flatten.length z.2.2) (ll.take z.1).flatten]) (fun z => z.1 ≤ ll.length) (fun z => ll.length - z.1) (0, A24, c24) ?_ cv Lh ?_
  ·
   exact Nat.zero_le _
  rintro ⟨i, A2, c2⟩ hi
  dsimp only at hi
  have hfl2 := flat_le ll (i + 1)
  try dsimp only
  refine wSeq (wRegion' (oLss rfl rfl (oNil (thn_n (wSeq (wC (fun h28 => ?_) (fun h28 => ?_)))))))
  ·
   obtain ⟨x, hx⟩ : ∃ x, ll[i]? = some x := ⟨_, List.getElem?_eq_getElem (by omega)⟩
   obtain ⟨e2, cs2, hE2⟩ := hC.elm hx
   obtain ⟨A1, c1, rfl, hc1, hC1⟩ := hE2.K
   have hfs := flat_succ hx
   rw [hfs, List.length_append] at hfl2
   refine wSkip (thn_n (wSeq (wBlock (wSeq (wRegion' (oIdxE rfl rfl (hE2) (by omega) rfl rfl ?_))))))
   have hc29 := (hE2).cell
   first | refine oLdX rfl hc29 rfl rfl ?_ | refine oLdXA rfl hc29 rfl (by repeat constructor) ?_ | (refine oLdR1 rfl (by repeat constructor) (by omega) rfl (fun u30 hu30 => ?_))
   refine oAssign rfl (oNil (thn_n (wRegion' (oMove rfl (oMove rfl (oAppA (kd := Kd.int .i64) (W := W0) (xs := (ll.take i).flatten) (ys := x) rfl rfl rfl rfl (by repeat constructor) rfl (fun w hw => src_Cs hC1 (Base.grow hw.ok)) (by omega) rfl (fun A33 c33 hc33 => ?_)))))))
   rw [show (ll.take i).flatten.length + x.length = (ll.take (i + 1)).flatten.length by rw [hfs, List.length_append], ← hfs]
   refine oAssign rfl (oNil (blk_n (thn_n (wRegion' (oSucc rfl rfl (by omega) ?_)))))
   refine oMove rfl (oNil (thn_n ?_))
   exact ⟨rfl, (i + 1, A33, c33), by show i + 1 ≤ _; omega, by show ll.length - (i + 1) < ll.length - i; omega, cv, Lh⟩
  obtain rfl : i = ll.length := by omega
  rw [List.take_length]
  refine wExit (thn_x (thn_x (blk_x (thn_n (wSeq (wRegion' (oMove rfl (oAssign rfl (oNil (thn_n (wRet ?_)))))))))))
  refine fin_r (fi1 rfl ?_)
  exact ⟨(A2, c2), trivial, rfl, Lh⟩
end Go.Proofs.YtogaiijhicfoaaaGreatU
