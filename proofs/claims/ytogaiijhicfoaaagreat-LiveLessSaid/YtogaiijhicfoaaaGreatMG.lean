/-
  Texts Ga, Gb, Gc, Gd, Ge, Gf, Gg in one.
-/
import Derived.Test.YtogaiijhicfoaaaGreatMB
import Derived.Test.YtogaiijhicfoaaaGreatKt
import Derived.Test.YtogaiijhicfoaaaGreatLay

/-
  Package digraph: ends and its iterator; the library's AppendSeq and Collect over it.
-/
namespace Go.Proofs.YtogaiijhicfoaaaGreatG
set_option linter.unusedVariables false
set_option linter.unusedSimpArgs false
open Go.RowKit Go.Proofs.YtogaiijhicfoaaaGreatK Go.Proofs.YtogaiijhicfoaaaGreatT

abbrev kII : Kd (List Int) := Kd.slice (Kd.int .i64)
abbrev Graph := List (List Int)
def inG (g : Graph) (x : Int) : Bool := decide (0 ≤ x) && decide (x < (g.length : Int))
def endsOf (g : Graph) (a : Nat) : List Int := (g.getD a []).filter (inG g)
def intV (x : Int) : List Value := [.int .i64 x]
theorem getD_at {α : Type} {l : List α} {i : Nat} {o d : α} (h : l[i]? = some o) : l.getD i d = o := by rw [List.getD_eq_getElem?_getD, h]; rfl
theorem filter_drop {u : List Int} {i : Nat} {x : Int} {P : Int → Bool} (h : u[i]? = some x) : (u.drop i).filter P = if P x = true then x :: (u.drop (i + 1)).filter P else (u.drop (i + 1)).filter P := by
  obtain ⟨hi, rfl⟩ := List.getElem?_eq_some_iff.1 h
  rw [List.drop_eq_getElem_cons hi, List.filter_cons]
theorem drop_cons {α : Type} {l : List α} {j : Nat} {y : α} {r : List α} (h : l.drop j = y :: r) : ∃ hj : j < l.length, l[j] = y ∧ l.drop (j + 1) = r := by
  have hj : j < l.length := by
    rcases Nat.lt_or_ge j l.length with hj | hj
    · exact hj
    · rw [List.drop_of_length_le hj] at h; cases h
  rw [List.drop_eq_getElem_cons hj] at h
  injection h with h1 h2
  exact ⟨hj, h1, h2⟩

set_option maxRecDepth 100000 in
theorem ends_any {B : Base} {w : World} (hS : St B [] w) (A : Option Addr) (n cp : Nat) (a : Int) :
    CallsIn Fence.wide 0 Tryz.prog 149 #[.slice A n cp, .int .i64 a] w (Ret B (fun _ : Nat × Nat => True) (fun p => .func (.func 195) #[] #[.pointer (some ⟨p.1, 0, none⟩), .pointer (some ⟨p.2, 0, none⟩)]) (fun p => [blk p.1 38 [.slice A n cp], blk p.2 3 [.int .i64 a]])) := by
  (refine enter Tryz.func149 rfl rfl hS ?_; simp only [List.zipIdx_cons, List.zipIdx_nil, List.map_cons, List.map_nil, Nat.reduceAdd, Nat.zero_add])
  refine wSeq (wRegion' (oBox rfl (by repeat constructor) (fun b2 => ?_)))
  refine oBox rfl (by repeat constructor) (fun b3 => ?_)
  refine oAssign rfl (oNil (thn_n (wSeq (wRegion' (oMakeFunc rfl (oAssign rfl (oNil (thn_n (wRet (fin_r (fi1 rfl ?_)))))))))))
  exact ⟨(b2, b3), trivial, rfl, Lh⟩

set_option maxRecDepth 100000 in
set_option maxHeartbeats 600000 in
theorem ends1 {B : Base} (g : Graph) (A : Option Addr) (cp a p2 p3 : Nat) (hC : kII.C B.e A g) (ha : a < g.length) :
    IterC Tryz.prog 195 #[.pointer (some ⟨p2, 0, none⟩), .pointer (some ⟨p3, 0, none⟩)] B ((endsOf g a).map intV) [blk p2 38 [.slice A g.length cp], blk p3 3 [.int .i64 (a : Int)]] := by
  intro lp AI Ax r0 w hbody hA hS
  have hl1 := hC.1
  show CallsIn Fence.wide 0 Tryz.prog 195 #[.func (.yield lp) #[] #[], .pointer (some ⟨p2, 0, none⟩), .pointer (some ⟨p3, 0, none⟩)] w _
  (refine enter Tryz.func195 rfl rfl hS ?_; simp only [List.zipIdx_cons, List.zipIdx_nil, List.map_cons, List.map_nil, Nat.reduceAdd, Nat.zero_add])
  refine wSeq (wRegion' (oLd rfl (by repeat constructor) rfl rfl ?_))
  refine oLd rfl (by repeat constructor) rfl rfl ?_
  refine oIdx rfl rfl (hC) rfl (by omega) rfl rfl (fun e8 u8 cs8 hu8 hk8 hc8 => ?_)
  obtain ⟨A0, c0, rfl, hle8, g0⟩ := hk8
  have hbig8 := g0.1
  have hends : endsOf g a = u8.filter (inG g) := by unfold endsOf; rw [getD_at hu8]
  first | refine oLdX rfl hc8 rfl rfl ?_ | refine oLdXA rfl hc8 rfl (by repeat constructor) ?_ | (refine oLdR1 rfl (by repeat constructor) (by omega) rfl (fun u9 hu9 => ?_))
  refine oLenS rfl rfl (oMove rfl (oNil (thn_n (wBlock (wLoop (ι := Nat × Nat × Res) (fun z => [(0, .func (.yield lp) #[] #[]), (1, .pointer (some ⟨p2, 0, none⟩)), (9, .slice A0 u8.length c0), (10, .int .i64 (u8.length : Int)), (11, .int .i64 (z.1 : Int))]) (fun z => [z.2.2, blk p2 38 [.slice A g.length cp], blk p3 3 [.int .i64 (a : Int)]]) (fun z => z.1 ≤ u8.length ∧ z.2.1 ≤ (endsOf g a).length ∧ AI z.2.1 z.2.2 ∧ (endsOf g a).drop z.2.1 = (u8.drop z.1).filter (inG g)) (fun z => u8.length - z.1) (0, 0, r0) ?_ cv Lh ?_)))))
  ·
   exact ⟨Nat.zero_le _, Nat.zero_le _, hA, hends⟩
  rintro ⟨i, j, r⟩ ⟨hi, hj, hA, hd⟩
  dsimp only at hi hj hA hd
  try dsimp only
  refine wSeq (wRegion' (oLss rfl rfl (oNil (thn_n (wSeq (wC (fun h12 => ?_) (fun h12 => ?_)))))))
  ·
   refine wSkip (thn_n (wSeq (wBlock (wSeq (wRegion' (oIdx rfl rfl (g0) rfl (by omega) rfl rfl (fun e13 u13 cs13 hu13 hk13 hc13 => ?_)))))))
   obtain rfl := hk13
   have hfd := filter_drop (P := inG g) hu13
   first | refine oLdX rfl hc13 rfl rfl ?_ | refine oLdXA rfl hc13 rfl (by repeat constructor) ?_ | (refine oLdR1 rfl (by repeat constructor) (by omega) rfl (fun u14 hu14 => ?_))
   refine oAssign rfl (oNil (thn_n (wSeq (wRegion' (oMove rfl (oGeq rfl rfl (oMove rfl ?_)))))))
   first | refine oSplit (t := 17) rfl (fun h17 => ?_) (fun h17 => ?_) | refine oSplitB (t := 17) rfl (fun h17 => ?_) (fun h17 => ?_)
   ·
    refine oWant rfl rfl (oMove rfl (oWant rfl rfl (oLd rfl (by repeat constructor) rfl rfl ?_)))
    refine oWant rfl rfl (oLenS rfl rfl (oWant rfl rfl (oLss rfl rfl (oPickT rfl rfl (oMove rfl ?_)))))
    first | refine oSplit (t := 23) rfl (fun h23 => ?_) (fun h23 => ?_) | refine oSplitB (t := 23) rfl (fun h23 => ?_) (fun h23 => ?_)
    ·
     rw [if_pos (by simp [inG]; omega)] at hfd
     obtain ⟨hjlt, hjg, hjd⟩ := drop_cons (hd.trans hfd)
     have hY : ∀ Fr W1, St B (r :: Fr) W1 → YieldAt Fence.wide 0 Tryz.prog lp (intV u13).toArray W1 (YEnd B j AI Ax Fr) := by
       intro Fr W1 h1
       have := hbody j (by simpa using hjlt) r Fr W1 hA h1
       rwa [List.getElem_map, hjg] at this
     refine oWant rfl rfl (oMove rfl (oWant rfl rfl (oMove rfl (oWant rfl rfl (oYield rfl rfl rfl (fun w hS => hY _ w (hS.perm (Pick.perm (by repeat constructor)))) ?_)))))
     rintro ⟨bb, r'⟩ hr'
     dsimp only at hr' ⊢
     refine oWant rfl rfl ?_
     first | refine oNot rfl ?_ | refine oNotB rfl ?_
     refine oPickT rfl rfl (oNil (thn_n (wC (fun h28 => ?_) (fun h28 => ?_))))
     ·
      refine wRet (blk_r (thn_r (thn_r (blk_r (fin_r ?_)))))
      refine ⟨rfl, _, ResL.nil, ?_⟩
      exact ⟨r', .inr ⟨j, by simpa using hjlt, by rw [if_neg (by simpa using h28)] at hr'; exact hr'⟩, rfl, Lh⟩
     refine wSkip (blk_n (thn_n (wRegion' (oSucc rfl rfl (by omega) ?_))))
     refine oMove rfl (oNil (thn_n ?_))
     exact ⟨rfl, (i + 1, j + 1, r'), ⟨by show i + 1 ≤ _; omega, hjlt, by rw [if_pos (by simpa using h28)] at hr'; exact hr', hjd⟩, by show u8.length - (i + 1) < u8.length - i; omega, cv, Lh⟩
    refine oSkip rfl rfl rfl rfl (oSkip rfl rfl rfl rfl (oSkip rfl rfl rfl rfl (oSkip rfl rfl rfl rfl (oPickF rfl rfl (oNil (thn_n ?_))))))
    first | refine wCondF rfl ?_ | refine wCondFd h28 rfl ?_ | refine wCondFb h28 rfl ?_
    refine wSkip (blk_n (thn_n (wRegion' (oSucc rfl rfl (by omega) ?_))))
    refine oMove rfl (oNil (thn_n ?_))
    exact ⟨rfl, (i + 1, j, r), ⟨by show i + 1 ≤ _; omega, hj, hA, by rw [hd, hfd, if_neg (by simp [inG]; omega)]⟩, by show u8.length - (i + 1) < u8.length - i; omega, cv, Lh⟩
   refine oSkip rfl rfl rfl rfl (oSkip rfl rfl rfl rfl (oSkip rfl rfl rfl rfl (oSkip rfl rfl rfl rfl (oPickF rfl rfl (oMove rfl (oSkip rfl rfl rfl rfl (oSkip rfl rfl rfl rfl (oSkip rfl rfl rfl rfl (oSkip rfl rfl rfl rfl (oPickF rfl rfl (oNil ?_)))))))))))
   refine thn_n ?_
   first | refine wCondF rfl ?_ | refine wCondFd h28 rfl ?_ | refine wCondFb h28 rfl ?_
   refine wSkip (blk_n (thn_n (wRegion' (oSucc rfl rfl (by omega) ?_))))
   refine oMove rfl (oNil (thn_n ?_))
   exact ⟨rfl, (i + 1, j, r), ⟨by show i + 1 ≤ _; omega, hj, hA, by rw [hd, hfd, if_neg (by simp [inG]; omega)]⟩, by show u8.length - (i + 1) < u8.length - i; omega, cv, Lh⟩
  refine wExit (thn_x (thn_x (blk_x (fin_n ?_))))
  refine ⟨rfl, _, ResL.nil, ?_⟩
  have hj : j = ((endsOf g a).map intV).length := by
    obtain rfl : i = u8.length := by omega
    rw [List.drop_length] at hd
    have := List.drop_eq_nil_iff.1 hd
    rw [List.length_map]; omega
  exact ⟨r, .inl (hj ▸ hA), rfl, Lh⟩

set_option maxRecDepth 100000 in
set_option maxHeartbeats 600000 in
theorem appendSeq_any {B : Base} {w : World} (g : Graph) (A : Option Addr) (cp a p2 p3 : Nat) (hS : St B [blk p2 38 [.slice A g.length cp], blk p3 3 [.int .i64 (a : Int)]] w) (hC : kII.C B.e A g) (ha : a < g.length) (hsm : (endsOf g a).length ≤ 1000000) (W0 : World) :
    CallsIn Fence.wide 0 Tryz.prog 232 #[.slice none 0 0, .func (.func 195) #[] #[.pointer (some ⟨p2, 0, none⟩), .pointer (some ⟨p3, 0, none⟩)]] w
      (Ret B (fun _ : Option Addr × Nat => True) (fun z => .slice z.1 (endsOf g a).length z.2) (fun z => [row (Kd.int .i64) W0 3 (.slice z.1 (endsOf g a).length z.2) (endsOf g a)])) := by
  (refine enterM Tryz.func232 rfl rfl hS ?_; simp only [List.zipIdx_cons, List.zipIdx_nil, List.map_cons, List.map_nil, Nat.reduceAdd, Nat.zero_add])
  refine wSeq (wRegion' (oBox rfl (by repeat constructor) (fun b2 => ?_)))
  refine oAssign rfl (oNil (thn_n (wSeq (wSeq (wRegion' (oMove rfl (oNil (thn_n (wBlock ?_)))))))))
  refine wRange rfl rfl (by kernel_rfl) (ends1 g A cp a p2 p3 hC ha) (by rintro _ h; obtain ⟨y, _, rfl⟩ := List.mem_map.1 h; rfl) rfl (ι := Nat × Option Addr × Nat) (κ := Unit) (fun j z => z.1 = j) (fun z => [blk b2 42 [.slice z.2.1 z.1 z.2.2], row (Kd.int .i64) W0 3 (.slice z.2.1 z.1 z.2.2) ((endsOf g a).take z.1)]) (fun x z => False) (fun x z => []) (0, none, 0) rfl (Leads.nilrow.trans Lh) ?_ ?_ ?_
  ·
   intro lp0 B' R1 R2 j hj
   rintro ⟨i, A2, c2⟩ hB rfl
   dsimp only
   have hj' : i < (endsOf g a).length := by simpa using hj
   have hlt : ((endsOf g a).take i).length = i := by simp; omega
   have htk : (endsOf g a).take i ++ [(endsOf g a)[i]] = (endsOf g a).take (i + 1) := (List.take_succ_eq_append_getElem hj').symm
   rw [List.getElem_map]
   generalize (endsOf g a)[i] = x at *
   dsimp only [hand, intV]
   refine wRegion' (oAssign rfl (oNil (aq_n (by repeat constructor) ?_)))
   refine wBlock (wRegion' (oLd rfl (by repeat constructor) rfl rfl ?_))
   refine oMove rfl (oBuildSlice1 rfl rfl rfl rfl rfl (by repeat constructor) rfl (fun b10 => ?_))
   refine oApp1 x rfl rfl rfl rfl (by repeat constructor) (by repeat constructor) rfl (by omega) rfl (fun g11 cp11 => ?_)
   rw [hlt, htk]
   refine oSt rfl rfl rfl rfl rfl (by repeat constructor) (by repeat constructor) ?_
   refine oNil (blk_n (rq_n ?_))
   exact ⟨(i + 1, some ⟨g11, 0, none⟩, cp11), rfl, Lh⟩
  ·
   rintro ⟨i, A2, c2⟩ Dm0 h
   dsimp only at h
   rw [List.length_map] at h
   subst h
   dsimp only
   rw [List.take_length]
   try dsimp only
   refine blk_n (thn_n (wSeq (wRegion' (oLd rfl (by repeat constructor) rfl rfl ?_))))
   refine oAssign rfl (oNil (thn_n (wRet (finM_r (Ds := [Dm0]) rfl (by repeat' constructor) (ResL.cons (ResR.tmp rfl) ResL.nil) ?_))))
   exact ⟨(A2, c2), trivial, rfl, Lh⟩
  rintro _ _ _ h; exact h.elim
set_option maxRecDepth 100000 in
theorem collect_any {B : Base} {w : World} (g : Graph) (A : Option Addr) (cp a p2 p3 : Nat) (hS : St B [blk p2 38 [.slice A g.length cp], blk p3 3 [.int .i64 (a : Int)]] w) (hC : kII.C B.e A g) (ha : a < g.length) (hsm : (endsOf g a).length ≤ 1000000) (W0 : World) :
    CallsIn Fence.wide 0 Tryz.prog 196 #[.func (.func 195) #[] #[.pointer (some ⟨p2, 0, none⟩), .pointer (some ⟨p3, 0, none⟩)]] w
      (Ret B (fun _ : Option Addr × Nat => True) (fun z => .slice z.1 (endsOf g a).length z.2) (fun z => [row (Kd.int .i64) W0 3 (.slice z.1 (endsOf g a).length z.2) (endsOf g a)])) := by
  (refine enter Tryz.func196 rfl rfl hS ?_; simp only [List.zipIdx_cons, List.zipIdx_nil, List.map_cons, List.map_nil, Nat.reduceAdd, Nat.zero_add])
  refine wSeq (wRegion' (oAssign rfl (oNil (thn_n (wSeq (wRegion' (oMove rfl ?_)))))))
  (refine oCall rfl (by kernel_rfl) (fun w hS => frame hS (by repeat' constructor) (fun B' hB hS' => appendSeq_any g A cp a p2 p3 hS' (Kd.C_grow hB hC) ha hsm W0)) ?_; rintro ⟨A1, c1⟩ -)
  refine oAssign rfl (oNil (thn_n (wRet (fin_r (fi1 rfl ?_)))))
  exact ⟨(A1, c1), trivial, rfl, Lh⟩
end Go.Proofs.YtogaiijhicfoaaaGreatG


/-
  Package digraph: Clean; the library's Sorted.
-/
namespace Go.Proofs.YtogaiijhicfoaaaGreatG
set_option linter.unusedVariables false
set_option linter.unusedSimpArgs false
open Go.RowKit Go.Proofs.YtogaiijhicfoaaaGreatK Go.Proofs.YtogaiijhicfoaaaGreatT Go.Proofs.YtogaiijhicfoaaaGreatL

def SmallG (g : Graph) : Prop := g.length ≤ 1000 ∧ ∀ l ∈ g, l.length ≤ 1000
theorem ends_le {g : Graph} (h : SmallG g) (a : Nat) : (endsOf g a).length ≤ 1000 := by
  unfold endsOf
  refine Nat.le_trans (List.length_filter_le _ _) ?_
  by_cases ha : a < g.length
  · rw [getD_at (List.getElem?_eq_getElem ha)]
    exact h.2 _ (List.getElem_mem ha)
  · rw [List.getD_eq_getElem?_getD, List.getElem?_eq_none (by omega)]; simp
def cl (g : Graph) (a : Nat) : List Int := Lib.compact ((endsOf g a).mergeSort leI)
def cleanTo (g : Graph) (a : Nat) : Graph := (List.range g.length).map fun i => if i < a then cl g i else []
def cleanG (g : Graph) : Graph := (List.range g.length).map (cl g)
theorem cleanTo_zero (g : Graph) : cleanTo g 0 = List.replicate g.length [] := by
  unfold cleanTo
  apply List.ext_getElem?
  intro i
  rw [List.getElem?_map, List.getElem?_replicate]
  by_cases h : i < g.length
  · simp [h]
  · simp [h]
theorem cleanTo_all (g : Graph) : cleanTo g g.length = cleanG g := by
  unfold cleanTo cleanG
  apply List.map_congr_left
  intro i hi
  rw [if_pos (List.mem_range.1 hi)]
theorem cleanTo_len (g : Graph) (a : Nat) : (cleanTo g a).length = g.length := by simp [cleanTo]
theorem cleanTo_at {g : Graph} {a : Nat} (h : a < g.length) : (cleanTo g a)[a]? = some [] := by simp [cleanTo, h]
theorem cleanTo_succ {g : Graph} {a : Nat} (h : a < g.length) : (cleanTo g a).set a (cl g a) = cleanTo g (a + 1) := by
  apply List.ext_getElem?
  intro i
  rw [List.getElem?_set]
  by_cases e : a = i
  · subst e; simp [cleanTo, h]
  · rw [if_neg e]
    unfold cleanTo
    rw [List.getElem?_map, List.getElem?_map]
    cases hr : (List.range g.length)[i]? with
    | none => rfl
    | some j =>
      obtain ⟨hi, rfl⟩ := List.getElem?_eq_some_iff.1 hr
      simp only [List.getElem_range, Option.map_some, Option.some.injEq]
      by_cases h1 : i < a
      · rw [if_pos h1, if_pos (by omega)]
      · rw [if_neg h1, if_neg (by omega)]

set_option maxRecDepth 100000 in
theorem sorted_any {B : Base} {w : World} (g : Graph) (A : Option Addr) (cp a p2 p3 : Nat) (hS : St B [blk p2 38 [.slice A g.length cp], blk p3 3 [.int .i64 (a : Int)]] w) (hC : kII.C B.e A g) (ha : a < g.length) (hsm : (endsOf g a).length ≤ 1000) (W0 : World) :
    CallsIn Fence.wide 0 Tryz.prog 151 #[.func (.func 195) #[] #[.pointer (some ⟨p2, 0, none⟩), .pointer (some ⟨p3, 0, none⟩)]] w
      (Ret B (fun _ : Option Addr × Nat => True) (fun z => .slice z.1 (endsOf g a).length z.2) (fun z => [row (Kd.int .i64) W0 3 (.slice z.1 (endsOf g a).length z.2) ((endsOf g a).mergeSort leI)])) := by
  (refine enter Tryz.func151 rfl rfl hS ?_; simp only [List.zipIdx_cons, List.zipIdx_nil, List.map_cons, List.map_nil, Nat.reduceAdd, Nat.zero_add])
  refine wSeq (wRegion' (oAssign rfl (oNil (thn_n (wSeq (wRegion' (oMove rfl ?_)))))))
  (refine oCall rfl (by kernel_rfl) (fun w hS => frame hS (by repeat' constructor) (fun B' hB hS' => collect_any g A cp a p2 p3 hS' (Kd.C_grow hB hC) ha (by omega) W0)) ?_; rintro ⟨A1, c1⟩ -)
  refine oAssign rfl (oNil (thn_n (wSeq (wRegion' (oMove rfl ?_)))))
  (refine oCall rfl (by kernel_rfl) (fun w hS => frame hS (by repeat' constructor) (fun B' hB hS' => sort_int laysn189_at hS' (by omega))) ?_; rintro ⟨⟩ -)
  refine oNil (thn_n (wSeq (wRegion' (oMove rfl (oAssign rfl (oNil (thn_n (wRet (fin_r (fi1 rfl ?_))))))))))
  exact ⟨(A1, c1), trivial, rfl, Lh⟩
set_option maxRecDepth 100000 in
set_option maxHeartbeats 600000 in
theorem clean_any {B : Base} {w : World} (hS : St B [] w) (g : Graph) (A : Option Addr) (cp : Nat) (hC : kII.C B.e A g) (hsm : SmallG g) (W0 : World) :
    CallsIn Fence.wide 0 Tryz.prog 93 #[.slice A g.length cp] w
      (Ret B (fun z : Option Addr × Nat × List Hdr => z.2.2.length = g.length) (fun z => .slice z.1 g.length z.2.1) (fun z => [row kHdr W0 42 (.slice z.1 g.length z.2.1) z.2.2, bun (rws (Kd.int .i64) W0 3 z.2.2 (cleanG g))])) := by
  have hn := hsm.1
  (refine enter Tryz.func93 rfl rfl hS ?_; simp only [List.zipIdx_cons, List.zipIdx_nil, List.map_cons, List.map_nil, Nat.reduceAdd, Nat.zero_add])
  refine wSeq (wRegion' (oAssign rfl (oNil (thn_n (wSeq (wRegion' (oMove rfl (oLenS rfl rfl (oMake (kd := kHdr) (W := W0) ((none, 0, 0) : Hdr) rfl rfl rfl rfl rfl rfl (by omega) rfl (fun g7 => ?_))))))))))
  refine oConv (rws_new (kd := Kd.int .i64) (W := W0) (ei := 3) g.length) (oAssign rfl (oNil (thn_n (wSeq (wSeq (wRegion' (oMove rfl (oLenS rfl rfl (oMove rfl (oNil (thn_n ?_)))))))))))
  refine wBlock ?_
  refine wLoop (ι := Nat × List Hdr) (fun z => [(0, .slice A g.length cp), (3, .slice (some ⟨g7, 0, none⟩) g.length g.length), (9, .int .i64 (g.length : Int)), (10, .int .i64 (z.1 : Int))]) (fun z => [row kHdr W0 42 (.slice (some ⟨g7, 0, none⟩) g.length g.length) z.2, bun (rws (Kd.int .i64) W0 3 z.2 (cleanTo g z.1))]) (fun z => z.1 ≤ g.length ∧ z.2.length = g.length) (fun z => g.length - z.1) (0, List.replicate g.length (none, 0, 0)) ?_ cv (by rw [cleanTo_zero]; exact Lh) ?_
  ·
   exact ⟨Nat.zero_le _, by simp⟩
  rintro ⟨a, hs⟩ ⟨ha, hl⟩
  dsimp only at ha hl
  try dsimp only
  refine wSeq (wRegion' (oLss rfl rfl (oNil (thn_n (wSeq (wC (fun h11 => ?_) (fun h11 => ?_)))))))
  ·
   refine wSkip (thn_n (wSeq (wBlock (wSeq (wRegion' (oMove rfl (oAssign rfl (oNil (thn_n (wRegion' (oMove rfl ?_)))))))))))
   refine oMove rfl (oMove rfl (oMove rfl ?_))
   (refine oCall rfl (by kernel_rfl) (fun w hS => frame hS (by repeat' constructor) (fun B' hB hS' => ends_any hS' A g.length cp (a : Int))) ?_; rintro ⟨p2, p3⟩ -)
   (refine oCall rfl (by kernel_rfl) (fun w hS => frame hS (by repeat' constructor) (fun B' hB hS' => sorted_any g A cp a p2 p3 hS' (Kd.C_grow hB hC) (by omega) (ends_le hsm a) W0)) ?_; rintro ⟨A18, c18⟩ -)
   (refine oCall rfl (by kernel_rfl) (fun w hS => frame hS (by repeat' constructor) (fun B' hB hS' => compact_int lays2n20_at hS' (by rw [List.length_mergeSort]; have := ends_le hsm a; omega))) ?_; rintro ⟨⟩ -)
   refine oFocus (i := a) (by repeat constructor) (List.getElem?_eq_getElem (by omega)) (cleanTo_at (by omega)) ?_
   refine oBack (kd := Kd.int .i64) (W := W0) (ei := 3) (hs := hs) (xss := cleanTo g a) (i := a) (u := (A18, (cl g a).length, c18)) (xs := cl g a) (by repeat constructor) (by repeat constructor) (by omega) (by rw [cleanTo_len]; exact hl) ?_
   rw [cleanTo_succ (by omega)]
   refine oIdxR rfl rfl (by repeat constructor) (by omega) rfl rfl (fun g20 hg20 => ?_)
   first | subst hg20 | (injection hg20 with hg20; injection hg20 with hg20; subst hg20)
   refine oStR (enc := hV) (A18, (cl g a).length, c18) rfl rfl rfl rfl (by repeat constructor) (by omega) ?_
   refine oNil (blk_n (thn_n (wRegion' (oSucc rfl rfl (by omega) ?_))))
   refine oMove rfl (oNil (thn_n ?_))
   exact ⟨rfl, (a + 1, hs.set a (A18, (cl g a).length, c18)), ⟨by show a + 1 ≤ _; omega, by show (hs.set _ _).length = _; rw [List.length_set]; exact hl⟩, by show g.length - (a + 1) < g.length - a; omega, cv, Lh⟩
  obtain rfl : a = g.length := by omega
  rw [cleanTo_all]
  refine wExit (thn_x (thn_x (blk_x (thn_n (wSeq (wRegion' (oMove rfl (oAssign rfl (oNil (thn_n (wRet ?_)))))))))))
  refine fin_r (fi1 rfl ?_)
  exact ⟨(some ⟨g7, 0, none⟩, g.length, hs), hl, rfl, Lh⟩
end Go.Proofs.YtogaiijhicfoaaaGreatG


/-
  Package digraph: Reach.
-/
namespace Go.Proofs.YtogaiijhicfoaaaGreatG
set_option linter.unusedVariables false
set_option linter.unusedSimpArgs false
open Go.RowKit Go.Proofs.YtogaiijhicfoaaaGreatK Go.Proofs.YtogaiijhicfoaaaGreatT Go.Proofs.YtogaiijhicfoaaaGreatL

inductive RP (g : Graph) (from_ : List Int) : Int → Prop
  | start {a : Int} : a ∈ from_ → inG g a = true → RP g from_ a
  | step {a : Nat} {b : Int} : RP g from_ (a : Int) → b ∈ endsOf g a → RP g from_ b
theorem inG_iff {g : Graph} {x : Int} : inG g x = true ↔ 0 ≤ x ∧ x < (g.length : Int) := by simp [inG]
theorem ends_in {g : Graph} {a : Nat} {b : Int} (h : b ∈ endsOf g a) : inG g b = true := (List.mem_filter.1 h).2
theorem RP.inG {g : Graph} {f : List Int} {x : Int} (h : RP g f x) : inG g x = true := by
  cases h with
  | start _ h => exact h
  | step _ h => exact ends_in h
structure RS (g : Graph) (from_ : List Int) (out : List Bool) (wait : List Int) : Prop where
  len : out.length = g.length
  sound : ∀ i : Nat, out[i]? = some true → RP g from_ (i : Int)
  waits : ∀ x ∈ wait, RP g from_ x
  starts : ∀ x ∈ from_, inG g x = true → out[x.toNat]? = some true ∨ x ∈ wait
  closed : ∀ i : Nat, out[i]? = some true → ∀ b ∈ endsOf g i, out[b.toNat]? = some true ∨ b ∈ wait
theorem RS.done {g : Graph} {f : List Int} {out : List Bool} (h : RS g f out []) : ∀ x, RP g f x → out[x.toNat]? = some true := by
  intro x hx
  induction hx with
  | start h1 h2 =>
    rcases h.starts _ h1 h2 with h | h
    · exact h
    · cases h
  | step h1 h2 ih =>
    rcases h.closed _ (by simpa using ih) _ h2 with h | h
    · exact h
    · cases h
theorem RS.skip {g : Graph} {f : List Int} {out : List Bool} {wait : List Int} {x : Int} (h : RS g f out (wait ++ [x])) (hx : out[x.toNat]? = some true) : RS g f out wait := by
  refine ⟨h.len, h.sound, fun y hy => h.waits y (List.mem_append_left _ hy), fun y hy hi => ?_, fun i hi b hb => ?_⟩
  · rcases h.starts y hy hi with h | h
    · exact .inl h
    · rcases List.mem_append.1 h with h | h
      · exact .inr h
      · rw [List.mem_singleton.1 h]; exact .inl hx
  · rcases h.closed i hi b hb with h | h
    · exact .inl h
    · rcases List.mem_append.1 h with h | h
      · exact .inr h
      · rw [List.mem_singleton.1 h]; exact .inl hx
theorem RS.take {g : Graph} {f : List Int} {out : List Bool} {wait : List Int} {a : Nat} (h : RS g f out (wait ++ [(a : Int)])) (ha : a < out.length) : RS g f (out.set a true) (wait ++ endsOf g a) := by
  have hR : RP g f (a : Int) := h.waits _ (by simp)
  have hset : ∀ i : Nat, out[i]? = some true → (out.set a true)[i]? = some true := fun i hi => by
    rw [List.getElem?_set]
    split
    · rename_i e; subst e; simp [ha]
    · exact hi
  have haa : (out.set a true)[a]? = some true := by simp [ha]
  refine ⟨by rw [List.length_set]; exact h.len, fun i hi => ?_, fun x hx => ?_, fun x hx hi => ?_, fun i hi b hb => ?_⟩
  · rw [List.getElem?_set] at hi
    split at hi
    · rename_i e; subst e; exact hR
    · exact h.sound i hi
  · rcases List.mem_append.1 hx with hx | hx
    · exact h.waits x (List.mem_append_left _ hx)
    · exact .step hR hx
  · rcases h.starts x hx hi with h | h
    · exact .inl (hset _ h)
    · rcases List.mem_append.1 h with h | h
      · exact .inr (List.mem_append_left _ h)
      · rw [List.mem_singleton.1 h]; exact .inl (by simpa using haa)
  · by_cases e : i = a
    · subst e; exact .inr (List.mem_append_right _ hb)
    · have hi' : out[i]? = some true := by rw [List.getElem?_set, if_neg (fun h => e h.symm)] at hi; exact hi
      rcases h.closed i hi' b hb with h | h
      · exact .inl (hset _ h)
      · rcases List.mem_append.1 h with h | h
        · exact .inr (List.mem_append_left _ h)
        · rw [List.mem_singleton.1 h]; exact .inl (by simpa using haa)
theorem RS.init (g : Graph) (f : List Int) : RS g f (List.replicate g.length false) (f.filter (inG g)) := by
  refine ⟨by simp, fun i h => ?_, fun x hx => ?_, fun x hx hi => .inr (List.mem_filter.2 ⟨hx, hi⟩), fun i h => ?_⟩
  · rw [List.getElem?_replicate] at h; split at h <;> simp at h
  · obtain ⟨h1, h2⟩ := List.mem_filter.1 hx; exact .start h1 h2
  · rw [List.getElem?_replicate] at h; split at h <;> simp at h
def falses (out : List Bool) : Nat := (out.filter (fun b => !b)).length
theorem falses_set {out : List Bool} {a : Nat} (h : out[a]? = some false) : falses (out.set a true) + 1 = falses out := by
  unfold falses
  induction out generalizing a with
  | nil => simp at h
  | cons b out ih =>
    cases a with
    | zero => simp at h; subst h; simp
    | succ a =>
      have := ih (a := a) (by simpa using h)
      cases b <;> simp_all <;> omega
theorem falses_le (out : List Bool) : falses out ≤ out.length := List.length_filter_le _ _
theorem filter_take {u : List Int} {i : Nat} {x : Int} {P : Int → Bool} (h : u[i]? = some x) : (u.take (i + 1)).filter P = (u.take i).filter P ++ (if P x = true then [x] else []) := by
  obtain ⟨hi, rfl⟩ := List.getElem?_eq_some_iff.1 h
  rw [List.take_succ_eq_append_getElem hi, List.filter_append, List.filter_cons, List.filter_nil]

set_option maxRecDepth 100000 in
set_option maxHeartbeats 1000000 in
theorem reach_any {B : Base} {w : World} (hS : St B [] w) (g : Graph) (A : Option Addr) (cp : Nat) (hC : kII.C B.e A g) (hsm : SmallG g) (from_ : List Int) (A1 : Option Addr) (cp1 : Nat) (hC1 : (Kd.int .i64).C B.e A1 from_) (hf : from_.length ≤ 1000) (W0 : World) :
    CallsIn Fence.wide 0 Tryz.prog 90 #[.slice A g.length cp, .slice A1 from_.length cp1] w
      (Ret B (fun z : Option Addr × Nat × List Bool => z.2.2.length = g.length ∧ ∀ i : Nat, z.2.2[i]? = some true ↔ RP g from_ (i : Int)) (fun z => .slice z.1 g.length z.2.1) (fun z => [row Kd.bool W0 4 (.slice z.1 g.length z.2.1) z.2.2])) := by
  have hn := hsm.1
  (refine enterM Tryz.func90 rfl rfl hS ?_; simp only [List.zipIdx_cons, List.zipIdx_nil, List.map_cons, List.map_nil, Nat.reduceAdd, Nat.zero_add])
  refine wSeq (wRegion' (oAssign rfl (oNil (thn_n (wSeq (wRegion' (oMove rfl (oLenS rfl rfl (oMake (kd := Kd.bool) (W := W0) false rfl rfl rfl rfl rfl rfl (by omega) rfl (fun g13 => ?_))))))))))
  refine oAssign rfl (oNil (thn_n (wSeq (wRegion' (oAlloc rfl (by repeat constructor) (fun b6 => ?_))))))
  refine oNil (thn_n (wSeq (wSeq (wRegion' (oMove rfl (oLenS rfl rfl (oMove rfl (oNil (thn_n (wBlock (wLoop (ι := Nat × Option Addr × Nat) (fun z => [(0, .slice A g.length cp), (5, .slice (some ⟨g13, 0, none⟩) g.length g.length), (6, .pointer (some ⟨b6, 0, none⟩)), (14, .slice A1 from_.length cp1), (15, .int .i64 (from_.length : Int)), (16, .int .i64 (z.1 : Int))]) (fun z => [row Kd.bool W0 4 (.slice (some ⟨g13, 0, none⟩) g.length g.length) (List.replicate g.length false), blk b6 42 [.slice z.2.1 ((from_.take z.1).filter (inG g)).length z.2.2], row (Kd.int .i64) W0 3 (.slice z.2.1 ((from_.take z.1).filter (inG g)).length z.2.2) ((from_.take z.1).filter (inG g))]) (fun z => z.1 ≤ from_.length) (fun z => from_.length - z.1) (0, none, 0) ?_ cv (Leads.nilrow.trans Lh) ?_)))))))))))
  ·
   exact Nat.zero_le _
  rintro ⟨i, A2, c2⟩ hi
  dsimp only at hi
  have hle : ((from_.take i).filter (inG g)).length ≤ 1000 := Nat.le_trans (List.length_filter_le _ _) (by rw [List.length_take]; omega)
  try dsimp only
  refine wSeq (wRegion' (oLss rfl rfl (oNil (thn_n (wSeq (wC (fun h17 => ?_) (fun h17 => ?_)))))))
  ·
   refine wSkip (thn_n (wSeq (wBlock (wSeq (wRegion' (oIdx rfl rfl (hC1) rfl (by omega) rfl rfl (fun e18 u18 cs18 hu18 hk18 hc18 => ?_)))))))
   obtain rfl := hk18
   have hft := filter_take (P := inG g) hu18
   first | refine oLdX rfl hc18 rfl rfl ?_ | refine oLdXA rfl hc18 rfl (by repeat constructor) ?_ | (refine oLdR1 rfl (by repeat constructor) (by omega) rfl (fun u19 hu19 => ?_))
   refine oAssign rfl (oNil (thn_n (wSeq (wRegion' (oMove rfl (oGeq rfl rfl (oMove rfl ?_)))))))
   first | refine oSplit (t := 22) rfl (fun h22 => ?_) (fun h22 => ?_) | refine oSplitB (t := 22) rfl (fun h22 => ?_) (fun h22 => ?_)
   ·
    refine oWant rfl rfl (oMove rfl (oWant rfl rfl (oMove rfl (oWant rfl rfl (oLenS rfl rfl (oWant rfl rfl (oLss rfl rfl (oPickT rfl rfl (oNil (thn_n (wC (fun h27 => ?_) (fun h27 => ?_))))))))))))
    ·
     refine wRegion' (oLd rfl (by repeat constructor) rfl rfl ?_)
     refine oMove rfl (oBuildSlice1 rfl rfl rfl rfl rfl (by repeat constructor) rfl (fun b30 => ?_))
     refine oApp1 u18 rfl rfl rfl rfl (by repeat constructor) (by repeat constructor) rfl (by omega) rfl (fun g31 cp31 => ?_)
     rw [if_pos (by simp [inG]; omega)] at hft
     rw [show ((from_.take i).filter (inG g)).length + 1 = ((from_.take (i + 1)).filter (inG g)).length by rw [hft, List.length_append]; rfl, ← hft]
     refine oSt rfl rfl rfl rfl rfl (by repeat constructor) (by repeat constructor) ?_
     refine oNil (blk_n (thn_n (wRegion' (oSucc rfl rfl (by omega) ?_))))
     refine oMove rfl (oNil (thn_n ?_))
     exact ⟨rfl, (i + 1, some ⟨g31, 0, none⟩, cp31), by show i + 1 ≤ _; omega, by show from_.length - (i + 1) < from_.length - i; omega, cv, Lh⟩
    refine wSkip (blk_n (thn_n (wRegion' (oSucc rfl rfl (by omega) ?_))))
    refine oMove rfl (oNil (thn_n ?_))
    rw [show (if inG g u18 = true then [u18] else []) = [] by rw [if_neg]; simp [inG]; omega, List.append_nil] at hft
    exact ⟨rfl, (i + 1, A2, c2), by show i + 1 ≤ _; omega, by show from_.length - (i + 1) < from_.length - i; omega, cv, by dsimp only; rw [hft]; exact Lh⟩
   refine oSkip rfl rfl rfl rfl (oSkip rfl rfl rfl rfl (oSkip rfl rfl rfl rfl (oSkip rfl rfl rfl rfl (oPickF rfl rfl (oNil (thn_n ?_))))))
   first | refine wCondF rfl ?_ | refine wCondFd h27 rfl ?_ | refine wCondFb h27 rfl ?_
   refine wSkip (blk_n (thn_n (wRegion' (oSucc rfl rfl (by omega) ?_))))
   refine oMove rfl (oNil (thn_n ?_))
   rw [show (if inG g u18 = true then [u18] else []) = [] by rw [if_neg]; simp [inG]; omega, List.append_nil] at hft
   exact ⟨rfl, (i + 1, A2, c2), by show i + 1 ≤ _; omega, by show from_.length - (i + 1) < from_.length - i; omega, cv, by dsimp only; rw [hft]; exact Lh⟩
  obtain rfl : i = from_.length := by omega
  rw [List.take_length]
  refine wExit (thn_x (thn_x (blk_x (thn_n (wSeq (wBlock (wLoopM (ι := List Bool × List Int × Option Addr × Nat) (fun z => [(0, .slice A g.length cp), (5, .slice (some ⟨g13, 0, none⟩) g.length g.length), (6, .pointer (some ⟨b6, 0, none⟩))]) (fun z => [row Kd.bool W0 4 (.slice (some ⟨g13, 0, none⟩) g.length g.length) z.1, blk b6 42 [.slice z.2.2.1 z.2.1.length z.2.2.2], row (Kd.int .i64) W0 3 (.slice z.2.2.1 z.2.1.length z.2.2.2) z.2.1]) (fun z => RS g from_ z.1 z.2.1 ∧ z.2.1.length + falses z.1 * 1000 ≤ 2000000) (fun z => falses z.1 * 1001 + z.2.1.length) (List.replicate g.length false, from_.filter (inG g), A2, c2) ?_ cv [] rfl (marks_nil.trans Lh) ?_)))))))
  ·
   exact ⟨RS.init g from_, by have h1 : falses (List.replicate g.length false) ≤ g.length := Nat.le_trans (falses_le _) (by simp); have h2 : (from_.filter (inG g)).length ≤ from_.length := List.length_filter_le _ _; show (from_.filter (inG g)).length + falses (List.replicate g.length false) * 1000 ≤ 2000000; omega⟩
  rintro ⟨out, wait, A3, c3⟩ Ms ⟨hrs, hbd⟩
  dsimp only at hrs hbd
  have hol := hrs.len
  try dsimp only
  refine wSeq (wSeq (wRegion' (oLd rfl (by repeat constructor) rfl rfl ?_)))
  refine oLenS rfl rfl (oGtr rfl rfl (oNil (thn_n (wC (fun h35 => ?_) (fun h35 => ?_)))))
  ·
   refine wSkip (thn_n (wBlock (wSeq (wRegion' (oLd rfl (by repeat constructor) rfl rfl ?_)))))
   refine oLd rfl (by repeat constructor) rfl rfl ?_
   refine oLenS rfl rfl ?_
   first | refine oSub rfl rfl (by omega) ?_ | refine oSubW rfl rfl ?_
   refine oSet (t := 39) (v' := .int .i64 ((wait.length - 1 : Nat) : Int)) rfl (by congr 1; omega) ?_
   refine oIdxR rfl rfl (by repeat constructor) (by omega) rfl rfl (fun g40 hg40 => ?_)
   first | subst hg40 | (injection hg40 with hg40; injection hg40 with hg40; subst hg40)
   first | refine oLdX rfl hc40 rfl rfl ?_ | refine oLdXA rfl hc40 rfl (by repeat constructor) ?_ | (refine oLdR1 rfl (by repeat constructor) (by omega) rfl (fun u41 hu41 => ?_))
   have hW : (wait.take (wait.length - 1)).length = wait.length - 1 := by simp
   have hw : wait = wait.take (wait.length - 1) ++ [u41] := by
     have h1 : wait.length - 1 < wait.length := by omega
     have h2 := (List.getElem?_eq_some_iff.1 hu41).2
     rw [← h2, ← List.take_succ_eq_append_getElem h1, show wait.length - 1 + 1 = wait.length by omega, List.take_length]
   have hin := inG_iff.1 (hrs.waits u41 (by rw [hw]; simp)).inG
   obtain ⟨a, rfl⟩ := Int.eq_ofNat_of_zero_le hin.1
   have ha : a < g.length := by omega
   have hel := ends_le hsm a
   have hrs' : RS g from_ out (wait.take (wait.length - 1) ++ [(a : Int)]) := by rw [← hw]; exact hrs
   refine oAssign rfl (oNil (thn_n (wSeq (wRegion' (oLd rfl (by repeat constructor) rfl rfl ?_)))))
   refine oLd rfl (by repeat constructor) rfl rfl ?_
   refine oLenS rfl rfl ?_
   first | refine oSub rfl rfl (by omega) ?_ | refine oSubW rfl rfl ?_
   refine oSet (t := 45) (v' := .int .i64 ((wait.length - 1 : Nat) : Int)) rfl (by congr 1; omega) ?_
   refine oSliceTo rfl rfl (by omega) rfl (by repeat constructor) ?_
   refine oSt rfl rfl rfl rfl rfl (by repeat constructor) (by repeat constructor) ?_
   refine oNil (thn_n (wSeq (wSeq (wRegion' (oMove rfl (oMove rfl (oIdxR rfl rfl (by repeat constructor) (by omega) rfl rfl (fun g49 hg49 => ?_))))))))
   first | subst hg49 | (injection hg49 with hg49; injection hg49 with hg49; subst hg49)
   first | refine oLdX rfl hc49 rfl rfl ?_ | refine oLdXA rfl hc49 rfl (by repeat constructor) ?_ | (refine oLdR1 rfl (by repeat constructor) (by omega) rfl (fun u50 hu50 => ?_))
   refine oNil (thn_n (wC (fun h50 => ?_) (fun h50 => ?_)))
   ·
    refine wExit (thn_x (blk_x (thn_n ?_)))
    exact ⟨Ms, rfl, (out, wait.take (wait.length - 1), some ⟨g40, 0, none⟩, c3), ⟨hrs'.skip (by rw [Int.toNat_natCast, hu50, h50]), by show (wait.take (wait.length - 1)).length + falses out * 1000 ≤ 2000000; rw [hW]; omega⟩, by show falses out * 1001 + (wait.take (wait.length - 1)).length < falses out * 1001 + wait.length; rw [hW]; omega, cv, by (try dsimp only); rw [hW]; exact Lh⟩
   have hfs := falses_set (out := out) (a := a) (by rw [hu50, h50])
   refine wSkip (thn_n (wSeq (wRegion' (oMove rfl (oMove rfl (oIdxR rfl rfl (by repeat constructor) (by omega) rfl rfl (fun g53 hg53 => ?_)))))))
   first | subst hg53 | (injection hg53 with hg53; injection hg53 with hg53; subst hg53)
   refine oStR _ rfl rfl rfl rfl (by repeat constructor) (by first | omega | (simp only [List.length_set]; omega)) ?_
   refine oNil (thn_n (wSeq (wRegion' (oMove rfl (oMove rfl ?_)))))
   (refine oCall rfl (by kernel_rfl) (fun w hS => frame hS (by repeat' constructor) (fun B' hB hS' => ends_any hS' A g.length cp (a : Int))) ?_; rintro ⟨p2, p3⟩ -)
   refine oNil (thn_n (wBlock ?_))
   refine wRange rfl rfl (by kernel_rfl) (ends1 g A cp a p2 p3 hC ha) (by rintro _ h; obtain ⟨y, _, rfl⟩ := List.mem_map.1 h; rfl) rfl (ι := Nat × Option Addr × Nat) (κ := Unit) (fun j z => z.1 = j) (fun z => [marksR Ms, row Kd.bool W0 4 (.slice (some ⟨g13, 0, none⟩) g.length g.length) (out.set a true), blk b6 42 [.slice z.2.1 (wait.length - 1 + z.1) z.2.2], row (Kd.int .i64) W0 3 (.slice z.2.1 (wait.length - 1 + z.1) z.2.2) (wait.take (wait.length - 1) ++ (endsOf g a).take z.1)]) (fun x z => False) (fun x z => []) (0, some ⟨g40, 0, none⟩, c3) rfl (by dsimp only; rw [List.take_zero, List.append_nil, Nat.add_zero]; exact Lh) ?_ ?_ ?_
   ·
    intro lp4 B' R1 R2 j hj
    rintro ⟨i, A2, c2⟩ hB rfl
    dsimp only
    have hj' : i < (endsOf g a).length := by simpa using hj
    have hlt : (wait.take (wait.length - 1) ++ (endsOf g a).take i).length = wait.length - 1 + i := by rw [List.length_append, hW, List.length_take]; omega
    have htk : wait.take (wait.length - 1) ++ (endsOf g a).take i ++ [(endsOf g a)[i]] = wait.take (wait.length - 1) ++ (endsOf g a).take (i + 1) := by rw [List.append_assoc, List.take_succ_eq_append_getElem hj']
    rw [List.getElem_map]
    generalize (endsOf g a)[i] = x at *
    dsimp only [hand, intV]
    refine wRegion' (oAssign rfl (oNil (aq_n (by repeat constructor) ?_)))
    refine wBlock (wRegion' (oLd rfl (by repeat constructor) rfl rfl ?_))
    refine oMove rfl (oBuildSlice1 rfl rfl rfl rfl rfl (by repeat constructor) rfl (fun b60 => ?_))
    refine oApp1 x rfl rfl rfl rfl (by repeat constructor) (by repeat constructor) rfl (by omega) rfl (fun g61 cp61 => ?_)
    rw [hlt, htk]
    refine oSt rfl rfl rfl rfl rfl (by repeat constructor) (by repeat constructor) ?_
    refine oNil (blk_n (rq_n ?_))
    exact ⟨(i + 1, some ⟨g61, 0, none⟩, cp61), rfl, Lh⟩
   ·
    rintro ⟨i, A2, c2⟩ Dm4 h
    dsimp only at h
    rw [List.length_map] at h
    subst h
    dsimp only
    rw [List.take_length]
    try dsimp only
    refine blk_n (blk_n (thn_n ?_))
    exact ⟨Dm4 :: Ms, rfl, (out.set a true, wait.take (wait.length - 1) ++ endsOf g a, A2, c2), ⟨hrs'.take (by omega), by show (wait.take (wait.length - 1) ++ endsOf g a).length + falses (out.set a true) * 1000 ≤ 2000000; rw [List.length_append, hW]; omega⟩, by show falses (out.set a true) * 1001 + (wait.take (wait.length - 1) ++ endsOf g a).length < falses out * 1001 + wait.length; rw [List.length_append, hW]; omega, cv, by (try dsimp only); rw [List.length_append, hW]; exact (marks_push (by repeat constructor) (by repeat constructor)).trans Lh⟩
   rintro _ _ _ h; exact h.elim
  refine wExit (thn_x (thn_x (blk_x (thn_n (wSeq (wRegion' (oMove rfl (oAssign rfl (oNil (thn_n (wRet ?_)))))))))))
  refine finMb_r (Ds := Ms) rfl (by repeat constructor) (ResL.cons (ResR.tmp rfl) ResL.nil) ?_
  have hw0 : wait = [] := List.eq_nil_of_length_eq_zero (by omega)
  subst hw0
  exact ⟨(some ⟨g13, 0, none⟩, g.length, out), ⟨hrs.len, fun i => ⟨hrs.sound i, fun h => by simpa using hrs.done _ h⟩⟩, rfl, Lh⟩
end Go.Proofs.YtogaiijhicfoaaaGreatG


/-
  The references' small ones: Few, Edge, Ints, In, Member.
-/
namespace Go.Proofs.YtogaiijhicfoaaaGreatG
set_option linter.unusedVariables false
set_option linter.unusedSimpArgs false
open Go.RowKit Go.Proofs.YtogaiijhicfoaaaGreatK Go.Proofs.YtogaiijhicfoaaaGreatT Go.Proofs.YtogaiijhicfoaaaGreatL

def memF (g : Graph) (ib : List Bool) (a : Int) : Bool := decide (0 ≤ a) && decide (a < (g.length : Int)) && decide (a < (ib.length : Int)) && ib.getD a.toNat false
end Go.Proofs.YtogaiijhicfoaaaGreatG


/-
  The reference's Reach.
-/
namespace Go.Proofs.YtogaiijhicfoaaaGreatG
set_option linter.unusedVariables false
set_option linter.unusedSimpArgs false
open Go.RowKit Go.Proofs.YtogaiijhicfoaaaGreatK Go.Proofs.YtogaiijhicfoaaaGreatT Go.Proofs.YtogaiijhicfoaaaGreatL

def Tr (out : List Bool) (i : Nat) : Prop := out[i]? = some true
theorem Tr.set {out : List Bool} {i j : Nat} (h : Tr out i) : Tr (out.set j true) i := by
  unfold Tr at *
  rw [List.getElem?_set]
  split
  · rename_i e; subst e; have := (List.getElem?_eq_some_iff.1 h).1; simp [this]
  · exact h
theorem Tr.self {out : List Bool} {j : Nat} (h : j < out.length) : Tr (out.set j true) j := by unfold Tr; simp [h]
theorem Tr.of_set {out : List Bool} {i j : Nat} (h : Tr (out.set j true) i) : Tr out i ∨ i = j := by
  unfold Tr at *
  rw [List.getElem?_set] at h
  split at h
  · rename_i e; exact .inr e.symm
  · exact .inl h
theorem Tr.set_same {out : List Bool} {j : Nat} (h : Tr out j) : out.set j true = out := by
  obtain ⟨hj, he⟩ := List.getElem?_eq_some_iff.1 h
  rw [← he]; exact List.set_getElem_self hj
def Closed (g : Graph) (out : List Bool) : Prop := ∀ a, Tr out a → ∀ b ∈ endsOf g a, Tr out b.toNat
theorem falses_mono : ∀ {old out : List Bool}, old.length = out.length → (∀ i, Tr old i → Tr out i) → falses out ≤ falses old ∧ (∀ i, old[i]? = some false → Tr out i → falses out < falses old)
  | [], [], _, _ => ⟨Nat.le_refl _, fun i h => by simp at h⟩
  | a :: old, b :: out, hl, h => by
    obtain ⟨h1, h2⟩ := falses_mono (old := old) (out := out) (by simpa using hl) (fun i hi => by simpa [Tr] using h (i + 1) (by simpa [Tr] using hi))
    have h0 := h 0
    simp only [Tr, List.getElem?_cons_zero, Option.some.injEq] at h0
    have e1 : falses (a :: old) = falses old + (if a then 0 else 1) := by unfold falses; cases a <;> simp
    have e2 : falses (b :: out) = falses out + (if b then 0 else 1) := by unfold falses; cases b <;> simp
    rw [e1, e2]
    refine ⟨?_, fun i hi ht => ?_⟩
    · cases a <;> cases b <;> simp_all <;> omega
    · cases i with
      | zero =>
        simp only [List.getElem?_cons_zero, Option.some.injEq, Tr] at hi ht
        subst hi ht
        simp; omega
      | succ i =>
        have := h2 i (by simpa using hi) (by simpa [Tr] using ht)
        cases a <;> cases b <;> simp_all <;> omega
structure RI (g : Graph) (f : List Int) (out : List Bool) : Prop where
  len : out.length = g.length
  sound : ∀ i, Tr out i → RP g f (i : Int)
theorem RI.set {g : Graph} {f : List Int} {out : List Bool} {j : Nat} (h : RI g f out) (hj : RP g f (j : Int)) : RI g f (out.set j true) :=
  ⟨by rw [List.length_set]; exact h.len, fun i hi => by
    rcases hi.of_set with hi | rfl
    · exact h.sound i hi
    · exact hj⟩
def Starts (g : Graph) (f : List Int) (out : List Bool) (n : Nat) : Prop := ∀ j x, j < n → f[j]? = some x → inG g x = true → Tr out x.toNat
theorem closed_of_none {g : Graph} {out : List Bool} (hl : out.length = g.length) (h : falses out = 0) : Closed g out := by
  intro a _ b hb
  have hin := inG_iff.1 (ends_in hb)
  unfold Tr
  rw [List.getElem?_eq_getElem (show b.toNat < out.length by omega)]
  congr 1
  unfold falses at h
  have := List.filter_eq_nil_iff.1 (List.eq_nil_of_length_eq_zero h) _ (List.getElem_mem (show b.toNat < out.length by omega))
  simpa using this
theorem reach_iff {g : Graph} {f : List Int} {out : List Bool} (h : RI g f out) (hs : Starts g f out f.length) (hc : Closed g out) : ∀ i : Nat, Tr out i ↔ RP g f (i : Int) := by
  have key : ∀ x, RP g f x → Tr out x.toNat := by
    intro x hx
    induction hx with
    | start h1 h2 =>
      obtain ⟨j, hj⟩ := List.mem_iff_getElem?.1 h1
      exact hs j _ (List.getElem?_eq_some_iff.1 hj).1 hj h2
    | step h1 h2 ih => exact hc _ (by simpa using ih) _ h2
  exact fun i => ⟨h.sound i, fun hx => by simpa using key _ hx⟩
structure Rd (g : Graph) (f : List Int) (old out : List Bool) (a : Nat) : Prop where
  ri : RI g f out
  mono : ∀ i, Tr old i → Tr out i
  done : ∀ a', a' < a → Tr old a' → ∀ b ∈ endsOf g a', Tr out b.toNat
  same : Closed g old → out = old
theorem Rd.set {g : Graph} {f : List Int} {old out : List Bool} {a : Nat} {x : Int} (h : Rd g f old out a) (ha : Tr out a) (hx : x ∈ endsOf g a) : Rd g f old (out.set x.toNat true) a := by
  have hin := inG_iff.1 (ends_in hx)
  refine ⟨h.ri.set ?_, fun i hi => (h.mono i hi).set, fun a' h1 h2 b hb => (h.done a' h1 h2 b hb).set, fun hc => ?_⟩
  · rw [Int.toNat_of_nonneg hin.1]; exact .step (h.ri.sound a ha) hx
  · have e := h.same hc
    subst e
    exact Tr.set_same (hc a ha x hx)
theorem Rd.next {g : Graph} {f : List Int} {old out : List Bool} {a : Nat} (h : Rd g f old out a) (hd : ¬ Tr out a ∨ ∀ b ∈ endsOf g a, Tr out b.toNat) : Rd g f old out (a + 1) := by
  refine ⟨h.ri, h.mono, fun a' h1 h2 b hb => ?_, h.same⟩
  by_cases e : a' = a
  · subst e
    rcases hd with hd | hd
    · exact absurd (h.mono _ h2) hd
    · exact hd b hb
  · exact h.done a' (by omega) h2 b hb
theorem Rd.end {g : Graph} {f : List Int} {old out : List Bool} {n : Nat} (h : Rd g f old out g.length) (hl : old.length = g.length) (hr : Closed g old ∨ falses old + n ≤ g.length) : Closed g out ∨ falses out + (n + 1) ≤ g.length := by
  by_cases hc : Closed g old
  · rw [h.same hc]; exact .inl hc
  · right
    rcases hr with hr | hr
    · exact absurd hr hc
    · obtain ⟨a, ha, b, hb, hn⟩ : ∃ a, Tr old a ∧ ∃ b, b ∈ endsOf g a ∧ ¬ Tr old b.toNat := by
        apply Classical.byContradiction
        intro hne
        apply hc
        intro a ha b hb
        apply Classical.byContradiction
        intro hn
        exact hne ⟨a, ha, b, hb, hn⟩
      have hin := inG_iff.1 (ends_in hb)
      have hal : a < g.length := by rw [← hl]; exact (List.getElem?_eq_some_iff.1 ha).1
      have hbl : b.toNat < old.length := by omega
      have hbf : old[b.toNat]? = some false := by
        unfold Tr at hn
        rw [List.getElem?_eq_getElem hbl] at hn ⊢
        cases hv : old[b.toNat] with
        | true => rw [hv] at hn; exact absurd rfl hn
        | false => rfl
      have := (falses_mono (by rw [hl, h.ri.len]) h.mono).2 _ hbf (h.done a hal ha b hb)
      omega
set_option maxRecDepth 100000 in
set_option maxHeartbeats 1000000 in
theorem refReach {B : Base} {w : World} (hS : St B [] w) (g : Graph) (A : Option Addr) (cp : Nat) (hC : kII.C B.e A g) (hsm : SmallG g) (f : List Int) (A1 : Option Addr) (cp1 : Nat) (hC1 : (Kd.int .i64).C B.e A1 f) (W0 : World) :
    CallsIn Fence.wide 0 Tryz.prog 91 #[.slice A g.length cp, .slice A1 f.length cp1] w
      (Ret B (fun z : Option Addr × Nat × List Bool => z.2.2.length = g.length ∧ ∀ i : Nat, z.2.2[i]? = some true ↔ RP g f (i : Int)) (fun z => .slice z.1 g.length z.2.1) (fun z => [row Kd.bool W0 4 (.slice z.1 g.length z.2.1) z.2.2])) := by
  have hn := hsm.1
  have m1 := hC1.1
  (refine enter Tryz.func91 rfl rfl hS ?_; simp only [List.zipIdx_cons, List.zipIdx_nil, List.map_cons, List.map_nil, Nat.reduceAdd, Nat.zero_add])
  refine wSeq (wRegion' (oAssign rfl (oNil (thn_n (wSeq (wRegion' (oMove rfl (oLenS rfl rfl (oMake (kd := Kd.bool) (W := W0) false rfl rfl rfl rfl rfl rfl (by omega) rfl (fun g12 => ?_))))))))))
  refine oAssign rfl (oNil (thn_n (wSeq (wSeq (wRegion' (oAssign rfl (oNil (thn_n (wBlock (wLoop (ι := Nat × List Bool) (fun z => [(0, .slice A g.length cp), (1, .slice A1 f.length cp1), (5, .slice (some ⟨g12, 0, none⟩) g.length g.length), (6, .int .i64 (z.1 : Int))]) (fun z => [row Kd.bool W0 4 (.slice (some ⟨g12, 0, none⟩) g.length g.length) z.2]) (fun z => z.1 ≤ f.length ∧ RI g f z.2 ∧ Starts g f z.2 z.1) (fun z => f.length - z.1) (0, List.replicate g.length false) ?_ cv Lh ?_))))))))))
  ·
   exact ⟨Nat.zero_le _, ⟨by simp, fun i h => by unfold Tr at h; rw [List.getElem?_replicate] at h; split at h <;> simp at h⟩, fun j x h => by omega⟩
  rintro ⟨i, out⟩ ⟨hi, hri, hst⟩
  dsimp only at hi hri hst
  have hol := hri.len
  try dsimp only
  refine wSeq (wSeq (wRegion' (oMove rfl (oMove rfl (oLenS rfl rfl (oLss rfl rfl (oNil (thn_n (wC (fun h16 => ?_) (fun h16 => ?_))))))))))
  ·
   refine wSkip (thn_n (wSeq (wBlock (wSeq (wRegion' (oMove rfl (oMove rfl (oIdx rfl rfl (hC1) rfl (by omega) rfl rfl (fun e21 u21 cs21 hu21 hk21 hc21 => ?_)))))))))
   obtain rfl := hk21
   first | refine oLdX rfl hc21 rfl rfl ?_ | refine oLdXA rfl hc21 rfl (by repeat constructor) ?_ | (refine oLdR1 rfl (by repeat constructor) (by omega) rfl (fun u22 hu22 => ?_))
   refine oGeq rfl rfl (oMove rfl ?_)
   first | refine oSplit (t := 24) rfl (fun h24 => ?_) (fun h24 => ?_) | refine oSplitB (t := 24) rfl (fun h24 => ?_) (fun h24 => ?_)
   ·
    refine oWant rfl rfl (oMove rfl (oWant rfl rfl (oMove rfl (oWant rfl rfl (oIdx rfl rfl (hC1) rfl (by omega) rfl rfl (fun e27 u27 cs27 hu27 hk27 hc27 => ?_))))))
    obtain rfl := hk27
    obtain rfl := Option.some.inj (hu21.symm.trans hu27)
    refine oWant rfl rfl ?_
    first | refine oLdX rfl hc27 rfl rfl ?_ | refine oLdXA rfl hc27 rfl (by repeat constructor) ?_ | (refine oLdR1 rfl (by repeat constructor) (by omega) rfl (fun u28 hu28 => ?_))
    refine oWant rfl rfl (oMove rfl (oWant rfl rfl (oLenS rfl rfl (oWant rfl rfl (oLss rfl rfl (oPickT rfl rfl (oNil (thn_n (wC (fun h32 => ?_) (fun h32 => ?_))))))))))
    ·
     refine wRegion' (oMove rfl (oMove rfl (oMove rfl (oIdx rfl rfl (hC1) rfl (by omega) rfl rfl (fun e36 u36 cs36 hu36 hk36 hc36 => ?_)))))
     obtain rfl := hk36
     obtain rfl := Option.some.inj (hu21.symm.trans hu36)
     first | refine oLdX rfl hc36 rfl rfl ?_ | refine oLdXA rfl hc36 rfl (by repeat constructor) ?_ | (refine oLdR1 rfl (by repeat constructor) (by omega) rfl (fun u37 hu37 => ?_))
     refine oSet (t := 37) (v' := .int .i64 ((u21.toNat : Nat) : Int)) rfl (by rw [Int.toNat_of_nonneg h24]) ?_
     refine oIdxR rfl rfl (by repeat constructor) (by omega) rfl rfl (fun g38 hg38 => ?_)
     first | subst hg38 | (injection hg38 with hg38; injection hg38 with hg38; subst hg38)
     refine oStR _ rfl rfl rfl rfl (by repeat constructor) (by first | omega | (simp only [List.length_set]; omega)) ?_
     refine oNil (blk_n (thn_n (wRegion' (oMove rfl (oSucc rfl rfl (by omega) ?_)))))
     refine oAssign rfl (oNil (thn_n ?_))
     exact ⟨rfl, (i + 1, out.set u21.toNat true), ⟨by show i + 1 ≤ _; omega, hri.set (by rw [Int.toNat_of_nonneg h24]; exact .start (List.mem_of_getElem? hu21) (by simp [inG]; omega)), fun j x hj hx hin => by
     by_cases e : j = i
     · subst e; obtain rfl := Option.some.inj (hu21.symm.trans hx); exact Tr.self (by omega)
     · exact (hst j x (by omega) hx hin).set⟩, by show f.length - (i + 1) < f.length - i; omega, cv, Lh⟩
    refine wSkip (blk_n (thn_n (wRegion' (oMove rfl (oSucc rfl rfl (by omega) ?_)))))
    refine oAssign rfl (oNil (thn_n ?_))
    exact ⟨rfl, (i + 1, out), ⟨by show i + 1 ≤ _; omega, hri, fun j x hj hx hin => by
    by_cases e : j = i
    · subst e; obtain rfl := Option.some.inj (hu21.symm.trans hx); rw [inG_iff] at hin; omega
    · exact hst j x (by omega) hx hin⟩, by show f.length - (i + 1) < f.length - i; omega, cv, Lh⟩
   refine oSkip rfl rfl rfl rfl (oSkip rfl rfl rfl rfl (oSkip rfl rfl rfl rfl (oSkip rfl rfl rfl rfl (oSkip rfl rfl rfl rfl (oSkip rfl rfl rfl rfl (oSkip rfl rfl rfl rfl (oPickF rfl rfl (oNil (thn_n ?_)))))))))
   first | refine wCondF rfl ?_ | refine wCondFd h32 rfl ?_ | refine wCondFb h32 rfl ?_
   refine wSkip (blk_n (thn_n (wRegion' (oMove rfl (oSucc rfl rfl (by omega) ?_)))))
   refine oAssign rfl (oNil (thn_n ?_))
   exact ⟨rfl, (i + 1, out), ⟨by show i + 1 ≤ _; omega, hri, fun j x hj hx hin => by
   by_cases e : j = i
   · subst e; obtain rfl := Option.some.inj (hu21.symm.trans hx); rw [inG_iff] at hin; omega
   · exact hst j x (by omega) hx hin⟩, by show f.length - (i + 1) < f.length - i; omega, cv, Lh⟩
  obtain rfl : i = f.length := by omega
  refine wExit (thn_x (thn_x (blk_x (thn_n (wSeq (wSeq (wRegion' (oAssign rfl (oNil (thn_n (wBlock ?_)))))))))))
  refine wLoop (ι := Nat × List Bool) (fun z => [(0, .slice A g.length cp), (5, .slice (some ⟨g12, 0, none⟩) g.length g.length), (7, .int .i64 (z.1 : Int))]) (fun z => [row Kd.bool W0 4 (.slice (some ⟨g12, 0, none⟩) g.length g.length) z.2]) (fun z => z.1 ≤ g.length ∧ RI g f z.2 ∧ Starts g f z.2 f.length ∧ (Closed g z.2 ∨ falses z.2 + z.1 ≤ g.length)) (fun z => g.length - z.1) (0, out) ?_ cv Lh ?_
  ·
   exact ⟨Nat.zero_le _, hri, hst, .inr (by have := falses_le out; show falses out + 0 ≤ _; omega)⟩
  rintro ⟨r, old⟩ ⟨hr, hri2, hst2, hcl⟩
  dsimp only at hr hri2 hst2 hcl
  try dsimp only
  refine wSeq (wSeq (wRegion' (oMove rfl (oMove rfl (oLenS rfl rfl (oLss rfl rfl (oNil (thn_n (wC (fun h42 => ?_) (fun h42 => ?_))))))))))
  ·
   refine wSkip (thn_n (wSeq (wBlock (wSeq (wRegion' (oAssign rfl (oNil (thn_n (wBlock (wLoop (ι := Nat × List Bool) (fun z => [(0, .slice A g.length cp), (5, .slice (some ⟨g12, 0, none⟩) g.length g.length), (7, .int .i64 (r : Int)), (8, .int .i64 (z.1 : Int))]) (fun z => [row Kd.bool W0 4 (.slice (some ⟨g12, 0, none⟩) g.length g.length) z.2]) (fun z => z.1 ≤ g.length ∧ Rd g f old z.2 z.1) (fun z => g.length - z.1) (0, old) ?_ cv Lh ?_))))))))))
   ·
    exact ⟨Nat.zero_le _, hri2, fun _ h => h, fun a' h => by omega, fun _ => rfl⟩
   rintro ⟨a, out4⟩ ⟨ha, hrd⟩
   dsimp only at ha hrd
   try dsimp only
   refine wSeq (wSeq (wRegion' (oMove rfl (oMove rfl (oLenS rfl rfl (oLss rfl rfl (oNil (thn_n (wC (fun h48 => ?_) (fun h48 => ?_))))))))))
   ·
    refine wSkip (thn_n (wSeq (wBlock (wSeq (wRegion' (oAssign rfl (oNil (thn_n (wBlock (wLoop (ι := Nat × List Bool) (fun z => [(0, .slice A g.length cp), (5, .slice (some ⟨g12, 0, none⟩) g.length g.length), (7, .int .i64 (r : Int)), (8, .int .i64 (a : Int)), (9, .int .i64 (z.1 : Int))]) (fun z => [row Kd.bool W0 4 (.slice (some ⟨g12, 0, none⟩) g.length g.length) z.2]) (fun z => z.1 ≤ (g.getD a []).length ∧ Rd g f old z.2 a ∧ ∀ j x, j < z.1 → (g.getD a [])[j]? = some x → inG g x = true → Tr z.2 x.toNat) (fun z => (g.getD a []).length - z.1) (0, out4) ?_ cv Lh ?_))))))))))
    ·
     exact ⟨Nat.zero_le _, hrd, fun j x h => by omega⟩
    rintro ⟨i, out6⟩ ⟨hi6, hrd6, hds⟩
    dsimp only at hi6 hrd6 hds
    have hol := hrd6.ri.len
    try dsimp only
    refine wSeq (wSeq (wRegion' (oMove rfl (oMove rfl (oIdxR rfl rfl (by repeat constructor) (by omega) rfl rfl (fun g53 hg53 => ?_))))))
    first | subst hg53 | (injection hg53 with hg53; injection hg53 with hg53; subst hg53)
    first | refine oLdX rfl hc53 rfl rfl ?_ | refine oLdXA rfl hc53 rfl (by repeat constructor) ?_ | (refine oLdR1 rfl (by repeat constructor) (by omega) rfl (fun u54 hu54 => ?_))
    refine oMove rfl ?_
    first | refine oSplit (t := 55) rfl (fun h55 => ?_) (fun h55 => ?_) | refine oSplitB (t := 55) rfl (fun h55 => ?_) (fun h55 => ?_)
    ·
     refine oWant rfl rfl (oMove rfl (oWant rfl rfl (oMove rfl (oWant rfl rfl (oMove rfl (oWant rfl rfl (oIdx rfl rfl (hC) rfl (by omega) rfl rfl (fun e59 u59 cs59 hu59 hk59 hc59 => ?_))))))))
     obtain ⟨A0, c0, rfl, hle59, g0⟩ := hk59
     have hbig := g0.1
     refine oWant rfl rfl ?_
     first | refine oLdX rfl hc59 rfl rfl ?_ | refine oLdXA rfl hc59 rfl (by repeat constructor) ?_ | (refine oLdR1 rfl (by repeat constructor) (by omega) rfl (fun u60 hu60 => ?_))
     refine oWant rfl rfl (oLenS rfl rfl (oWant rfl rfl (oLss rfl rfl (oPickT rfl rfl (oNil (thn_n (wC (fun h63 => ?_) (fun h63 => ?_))))))))
     ·
      refine wSkip (thn_n (wSeq (wBlock (wSeq (wRegion' (oMove rfl (oMove rfl (oIdx rfl rfl (hC) rfl (by omega) rfl rfl (fun e68 u68 cs68 hu68 hk68 hc68 => ?_)))))))))
      obtain ⟨A0, c0, rfl, hle68, g0⟩ := hk68
      have hbig := g0.1
      obtain rfl := Option.some.inj (hu59.symm.trans hu68)
      first | refine oLdX rfl hc68 rfl rfl ?_ | refine oLdXA rfl hc68 rfl (by repeat constructor) ?_ | (refine oLdR1 rfl (by repeat constructor) (by omega) rfl (fun u69 hu69 => ?_))
      refine oMove rfl (oIdx rfl rfl (g0) rfl (by omega) rfl rfl (fun e71 u71 cs71 hu71 hk71 hc71 => ?_))
      obtain rfl := hk71
      first | refine oLdX rfl hc71 rfl rfl ?_ | refine oLdXA rfl hc71 rfl (by repeat constructor) ?_ | (refine oLdR1 rfl (by repeat constructor) (by omega) rfl (fun u72 hu72 => ?_))
      refine oGeq rfl rfl (oMove rfl ?_)
      first | refine oSplit (t := 74) rfl (fun h74 => ?_) (fun h74 => ?_) | refine oSplitB (t := 74) rfl (fun h74 => ?_) (fun h74 => ?_)
      ·
       refine oWant rfl rfl (oMove rfl (oWant rfl rfl (oMove rfl (oWant rfl rfl (oIdx rfl rfl (hC) rfl (by omega) rfl rfl (fun e77 u77 cs77 hu77 hk77 hc77 => ?_))))))
       obtain ⟨A0, c0, rfl, hle77, g0⟩ := hk77
       have hbig := g0.1
       obtain rfl := Option.some.inj (hu59.symm.trans hu77)
       refine oWant rfl rfl ?_
       first | refine oLdX rfl hc77 rfl rfl ?_ | refine oLdXA rfl hc77 rfl (by repeat constructor) ?_ | (refine oLdR1 rfl (by repeat constructor) (by omega) rfl (fun u78 hu78 => ?_))
       refine oWant rfl rfl (oMove rfl (oWant rfl rfl (oIdx rfl rfl (g0) rfl (by omega) rfl rfl (fun e80 u80 cs80 hu80 hk80 hc80 => ?_))))
       obtain rfl := hk80
       obtain rfl := Option.some.inj (hu71.symm.trans hu80)
       refine oWant rfl rfl ?_
       first | refine oLdX rfl hc80 rfl rfl ?_ | refine oLdXA rfl hc80 rfl (by repeat constructor) ?_ | (refine oLdR1 rfl (by repeat constructor) (by omega) rfl (fun u81 hu81 => ?_))
       refine oWant rfl rfl (oMove rfl (oWant rfl rfl (oLenS rfl rfl (oWant rfl rfl (oLss rfl rfl (oPickT rfl rfl (oNil (thn_n (wC (fun h85 => ?_) (fun h85 => ?_))))))))))
       ·
        refine wRegion' (oMove rfl (oMove rfl (oMove rfl (oIdx rfl rfl (hC) rfl (by omega) rfl rfl (fun e89 u89 cs89 hu89 hk89 hc89 => ?_)))))
        obtain ⟨A0, c0, rfl, hle89, g0⟩ := hk89
        have hbig := g0.1
        obtain rfl := Option.some.inj (hu59.symm.trans hu89)
        first | refine oLdX rfl hc89 rfl rfl ?_ | refine oLdXA rfl hc89 rfl (by repeat constructor) ?_ | (refine oLdR1 rfl (by repeat constructor) (by omega) rfl (fun u90 hu90 => ?_))
        refine oMove rfl (oIdx rfl rfl (g0) rfl (by omega) rfl rfl (fun e92 u92 cs92 hu92 hk92 hc92 => ?_))
        obtain rfl := hk92
        obtain rfl := Option.some.inj (hu71.symm.trans hu92)
        first | refine oLdX rfl hc92 rfl rfl ?_ | refine oLdXA rfl hc92 rfl (by repeat constructor) ?_ | (refine oLdR1 rfl (by repeat constructor) (by omega) rfl (fun u93 hu93 => ?_))
        refine oSet (t := 93) (v' := .int .i64 ((u71.toNat : Nat) : Int)) rfl (by rw [Int.toNat_of_nonneg h74]) ?_
        refine oIdxR rfl rfl (by repeat constructor) (by omega) rfl rfl (fun g94 hg94 => ?_)
        first | subst hg94 | (injection hg94 with hg94; injection hg94 with hg94; subst hg94)
        refine oStR _ rfl rfl rfl rfl (by repeat constructor) (by first | omega | (simp only [List.length_set]; omega)) ?_
        refine oNil (blk_n (thn_n (wRegion' (oMove rfl (oSucc rfl rfl (by omega) ?_)))))
        refine oAssign rfl (oNil (thn_n ?_))
        have hmem : u71 ∈ endsOf g a := by unfold endsOf; rw [getD_at hu59]; exact List.mem_filter.2 ⟨List.mem_of_getElem? hu71, by simp [inG]; omega⟩
        have hta : Tr out6 a := by unfold Tr; rw [hu54, h55]
        exact ⟨rfl, (i + 1, out6.set u71.toNat true), ⟨by rw [getD_at hu59]; show i + 1 ≤ _; omega, hrd6.set hta hmem, fun j x hj hx hin => by
        rw [getD_at hu59] at hx
        by_cases e : j = i
        · subst e; obtain rfl := Option.some.inj (hu71.symm.trans hx); exact Tr.self (by omega)
        · exact (hds j x (by omega) (by rw [getD_at hu59]; exact hx) hin).set⟩, by rw [getD_at hu59]; show u59.length - (i + 1) < u59.length - i; omega, cv, Lh⟩
       refine wSkip (blk_n (thn_n (wRegion' (oMove rfl (oSucc rfl rfl (by omega) ?_)))))
       refine oAssign rfl (oNil (thn_n ?_))
       exact ⟨rfl, (i + 1, out6), ⟨by rw [getD_at hu59]; show i + 1 ≤ _; omega, hrd6, fun j x hj hx hin => by
       rw [getD_at hu59] at hx
       by_cases e : j = i
       · subst e; obtain rfl := Option.some.inj (hu71.symm.trans hx); rw [inG_iff] at hin; omega
       · exact hds j x (by omega) (by rw [getD_at hu59]; exact hx) hin⟩, by rw [getD_at hu59]; show u59.length - (i + 1) < u59.length - i; omega, cv, Lh⟩
      refine oSkip rfl rfl rfl rfl (oSkip rfl rfl rfl rfl (oSkip rfl rfl rfl rfl (oSkip rfl rfl rfl rfl (oSkip rfl rfl rfl rfl (oSkip rfl rfl rfl rfl (oSkip rfl rfl rfl rfl (oSkip rfl rfl rfl rfl (oSkip rfl rfl rfl rfl (oSkip rfl rfl rfl rfl (oPickF rfl rfl (oNil ?_)))))))))))
      refine thn_n ?_
      first | refine wCondF rfl ?_ | refine wCondFd h85 rfl ?_ | refine wCondFb h85 rfl ?_
      refine wSkip (blk_n (thn_n (wRegion' (oMove rfl (oSucc rfl rfl (by omega) ?_)))))
      refine oAssign rfl (oNil (thn_n ?_))
      exact ⟨rfl, (i + 1, out6), ⟨by rw [getD_at hu59]; show i + 1 ≤ _; omega, hrd6, fun j x hj hx hin => by
      rw [getD_at hu59] at hx
      by_cases e : j = i
      · subst e; obtain rfl := Option.some.inj (hu71.symm.trans hx); rw [inG_iff] at hin; omega
      · exact hds j x (by omega) (by rw [getD_at hu59]; exact hx) hin⟩, by rw [getD_at hu59]; show u59.length - (i + 1) < u59.length - i; omega, cv, Lh⟩
     refine wExit (thn_x (thn_x (blk_x (blk_n (thn_n (wRegion' (oMove rfl (oSucc rfl rfl (by omega) ?_))))))))
     refine oAssign rfl (oNil (thn_n ?_))
     exact ⟨rfl, (a + 1, out6), ⟨by show a + 1 ≤ _; omega, hrd6.next (.inr fun b hb => by
     have hb' := List.mem_filter.1 hb
     rw [getD_at hu59] at hb'
     obtain ⟨j, hj⟩ := List.mem_iff_getElem?.1 hb'.1
     exact hds j b (by have := (List.getElem?_eq_some_iff.1 hj).1; omega) (by rw [getD_at hu59]; exact hj) hb'.2)⟩, by show g.length - (a + 1) < g.length - a; omega, cv, Lh⟩
    refine oSkip rfl rfl rfl rfl (oSkip rfl rfl rfl rfl (oSkip rfl rfl rfl rfl (oSkip rfl rfl rfl rfl (oSkip rfl rfl rfl rfl (oSkip rfl rfl rfl rfl (oSkip rfl rfl rfl rfl (oPickF rfl rfl (oNil (thn_n ?_)))))))))
    first | refine wCondF rfl ?_ | refine wCondFd h63 rfl ?_ | refine wCondFb h63 rfl ?_
    refine wExit (thn_x (thn_x (blk_x (blk_n (thn_n (wRegion' (oMove rfl (oSucc rfl rfl (by omega) ?_))))))))
    refine oAssign rfl (oNil (thn_n ?_))
    exact ⟨rfl, (a + 1, out6), ⟨by show a + 1 ≤ _; omega, hrd6.next (.inl fun h => by have := h.symm.trans hu54; simp_all)⟩, by show g.length - (a + 1) < g.length - a; omega, cv, Lh⟩
   obtain rfl : a = g.length := by omega
   refine wExit (thn_x (thn_x (blk_x (blk_n (thn_n (wRegion' (oMove rfl (oSucc rfl rfl (by omega) ?_))))))))
   refine oAssign rfl (oNil (thn_n ?_))
   exact ⟨rfl, (r + 1, out4), ⟨by show r + 1 ≤ _; omega, hrd.ri, fun j x hj hx hin => hrd.mono _ (hst2 j x hj hx hin), hrd.end hri2.len hcl⟩, by show g.length - (r + 1) < g.length - r; omega, cv, Lh⟩
  obtain rfl : r = g.length := by omega
  refine wExit (thn_x (thn_x (blk_x (thn_n (wSeq (wRegion' (oMove rfl (oAssign rfl (oNil (thn_n (wRet ?_)))))))))))
  refine fin_r (fi1 rfl ?_)
  have hcl' : Closed g old := by
    rcases hcl with h | h
    · exact h
    · exact closed_of_none hri2.len (by omega)
  exact ⟨(some ⟨g12, 0, none⟩, g.length, old), ⟨hri2.len, reach_iff hri2 hst2 hcl'⟩, rfl, Lh⟩
end Go.Proofs.YtogaiijhicfoaaaGreatG


/-
  Graphs within members: the reference's Within and On.
-/
namespace Go.Proofs.YtogaiijhicfoaaaGreatG
set_option linter.unusedVariables false
set_option linter.unusedSimpArgs false
open Go.RowKit Go.Proofs.YtogaiijhicfoaaaGreatK Go.Proofs.YtogaiijhicfoaaaGreatT Go.Proofs.YtogaiijhicfoaaaGreatL

def inP (g : Graph) (ib : List Bool) (a : Nat) (x : Int) : Bool := memF g ib (a : Int) && memF g ib x
end Go.Proofs.YtogaiijhicfoaaaGreatG


/-
  Package cycle: within.
-/
namespace Go.Proofs.YtogaiijhicfoaaaGreatG
set_option linter.unusedVariables false
set_option linter.unusedSimpArgs false
open Go.RowKit Go.Proofs.YtogaiijhicfoaaaGreatK Go.Proofs.YtogaiijhicfoaaaGreatT Go.Proofs.YtogaiijhicfoaaaGreatL

def wp (g : Graph) (ib : List Bool) (a : Nat) : List Int := (cl g a).filter (inP g ib a)
end Go.Proofs.YtogaiijhicfoaaaGreatG
