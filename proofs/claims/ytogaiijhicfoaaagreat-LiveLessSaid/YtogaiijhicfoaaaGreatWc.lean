import Derived.Test.YtogaiijhicfoaaaGreatWb

/-
  The reference of data: Few, Marks, Refs.
-/
namespace Go.Proofs.YtogaiijhicfoaaaGreatW
set_option linter.unusedVariables false
set_option linter.unusedSimpArgs false
open Go.RowKit Go.Proofs.YtogaiijhicfoaaaGreatK Go.Proofs.YtogaiijhicfoaaaGreatT Go.Proofs.YtogaiijhicfoaaaGreatL Go.Proofs.YtogaiijhicfoaaaGreatV

theorem idxI_cons {α : Type} (p : α → Bool) (x : α) (t : List α) : idxI p (x :: t) = if p x = true then 0 else if 0 ≤ idxI p t then idxI p t + 1 else -1 := by
  by_cases h : p x = true
  · rw [if_pos h]
    exact idxI_stop (i := 0) (by simp) rfl h
  · rw [if_neg h]
    by_cases h1 : 0 ≤ idxI p t
    · rw [if_pos h1]
      obtain ⟨k, y, hk, hy, hp⟩ := idxI_at h1
      have hb : ∀ z ∈ (x :: t).take (k + 1), p z = false := by
        intro z hz
        rw [List.take_succ_cons] at hz
        rcases List.mem_cons.1 hz with e | hz
        · rw [e]; simpa using h
        · obtain ⟨j, hj⟩ := List.mem_iff_getElem?.1 hz
          have hjk : j < k := by
            have := (List.getElem?_eq_some_iff.1 hj).1
            rw [List.length_take] at this; omega
          rw [List.getElem?_take, if_pos hjk] at hj
          cases hpz : p z with
          | false => rfl
          | true =>
            unfold idxI at hk
            rw [if_pos (List.any_eq_true.2 ⟨y, List.mem_of_getElem? hy, hp⟩)] at hk
            have hjl := (List.getElem?_eq_some_iff.1 hj).1
            have h2 := List.not_of_lt_findIdx (p := p) (xs := t) (i := j) (by omega)
            rw [(List.getElem?_eq_some_iff.1 hj).2, hpz] at h2
            simp at h2
      have := idxI_stop (l := x :: t) (i := k + 1) hb (by rw [List.getElem?_cons_succ]; exact hy) hp
      rw [this, hk]; simp
    · rw [if_neg h1]
      refine idxI_none (fun y hy => ?_)
      rcases List.mem_cons.1 hy with e | hy
      · rw [e]; simpa using h
      · cases hp : p y with
        | false => rfl
        | true => exact absurd (idxI_iff.2 (List.any_eq_true.2 ⟨y, hy, hp⟩)) h1
theorem idxI_ge {α : Type} (p : α → Bool) (l : List α) : 0 ≤ idxI p l ∨ idxI p l = -1 := by
  by_cases h : l.any p = true
  · exact .inl (idxI_iff.2 h)
  · right; unfold idxI; rw [if_neg h]
def offI {α : Type} (p : α → Bool) (l : List α) (k : Nat) : Int := if 0 ≤ idxI p (l.drop k) then (k : Int) + idxI p (l.drop k) else -1
theorem offI_end {α : Type} (p : α → Bool) (l : List α) : offI p l l.length = -1 := by
  unfold offI; rw [List.drop_length]; rfl
theorem offI_zero {α : Type} (p : α → Bool) (l : List α) : offI p l 0 = idxI p l := by
  unfold offI
  rw [List.drop_zero]
  rcases idxI_ge p l with h | h
  · rw [if_pos h]; omega
  · rw [if_neg (by omega), h]
theorem offI_step {α : Type} (p : α → Bool) {l : List α} {k : Nat} {x : α} (hx : l[k]? = some x) : offI p l k = if p x = true then (k : Int) else offI p l (k + 1) := by
  obtain ⟨hk, rfl⟩ := List.getElem?_eq_some_iff.1 hx
  have e : l.drop k = l[k] :: l.drop (k + 1) := List.drop_eq_getElem_cons hk
  unfold offI
  rw [e, idxI_cons]
  by_cases h : p l[k] = true
  · rw [if_pos h, if_pos (by omega), if_pos h]; omega
  · rw [if_neg h, if_neg h]
    by_cases h1 : 0 ≤ idxI p (l.drop (k + 1))
    · rw [if_pos h1, if_pos (by omega), if_pos h1]; push_cast; omega
    · rw [if_neg h1, if_neg (by omega), if_neg h1]
def atP (i : Nat) (x : ApiReloc) : Bool := decide (x.fAt = (i : Int))
def marksL (l : List ApiReloc) (n : Nat) : List Int := (List.range n).map fun i => idxI (atP i) l
theorem marksL_len (l : List ApiReloc) (n : Nat) : (marksL l n).length = n := by simp [marksL]
theorem marksL_succ (l : List ApiReloc) (n : Nat) : marksL l (n + 1) = marksL l n ++ [idxI (atP n) l] := by
  unfold marksL; rw [List.range_succ, List.map_append]; rfl
set_option maxRecDepth 100000 in
set_option maxHeartbeats 600000 in
theorem ref15_Marks {B : Base} {w : World} (hS : St B [] w) (A : Option Addr) (cp : Nat) (l : List ApiReloc) (hC : kApiReloc.C B.e A l) (hl : l.length ≤ 100000) (n : Nat) (hn : n ≤ 4000) (W0 : World) :
    CallsIn Fence.wide 0 Tryz.prog 189 #[.slice A l.length cp, .int .i64 (n : Int)] w (Ret B (fun _ : Option Addr × Nat => True) (fun z => .slice z.1 n z.2) (fun z => [row (Kd.int .i64) W0 3 (.slice z.1 n z.2) (marksL l n)])) := by
  (refine enter Tryz.func189 rfl rfl hS ?_; simp only [List.zipIdx_cons, List.zipIdx_nil, List.map_cons, List.map_nil, Nat.reduceAdd, Nat.zero_add])
  refine wSeq (wRegion' (oAssign rfl (oNil (thn_n (wSeq (wRegion' (oAssign rfl (oNil (thn_n (wSeq (wSeq ?_)))))))))))
  refine wRegion' (oAssign rfl (oNil (thn_n (wBlock (wLoop (ι := Nat × Option Addr × Nat) (fun z => [(0, .slice A l.length cp), (1, .int .i64 (n : Int)), (5, .slice z.2.1 z.1 z.2.2), (6, .int .i64 (z.1 : Int))]) (fun z => [row (Kd.int .i64) W0 3 (.slice z.2.1 z.1 z.2.2) (marksL l z.1)]) (fun z => z.1 ≤ n) (fun z => n - z.1) (0, none, 0) ?_ cv (Leads.nilrow.trans Lh) ?_)))))
  ·
   exact Nat.zero_le _
  rintro ⟨i, A2, c2⟩ hi
  dsimp only at hi
  have hml := marksL_len l i
  try dsimp only
  refine wSeq (wSeq (wRegion' (oMove rfl (oMove rfl (oLss rfl rfl (oMove rfl ?_))))))
  first | refine oSplit (t := 12) rfl (fun h12 => ?_) (fun h12 => ?_) | refine oSplitB (t := 12) rfl (fun h12 => ?_) (fun h12 => ?_)
  ·
   refine oWant rfl rfl (oMove rfl (oWant rfl rfl (oLss rfl rfl (oPickT rfl rfl (oNil (thn_n (wC (fun h15 => ?_) (fun h15 => ?_))))))))
   ·
    refine wSkip (thn_n (wSeq (wBlock (wSeq (wRegion' (oAssign rfl (oNil (thn_n (wSeq (wSeq (wRegion' ?_)))))))))))
    refine oMove rfl (oLenS rfl rfl (oSub rfl rfl (by omega) ?_))
    refine oSet (t := 7) (v' := .int .i64 (offI (atP i) l l.length)) rfl (by rw [offI_end]) ?_
    refine oAssign rfl (oNil (thn_n (wBlock (wLoop (ι := Nat) (fun k => [(0, .slice A l.length cp), (1, .int .i64 (n : Int)), (5, .slice A2 i c2), (6, .int .i64 (i : Int)), (7, .int .i64 (offI (atP i) l k)), (8, .int .i64 ((k : Int) - 1))]) (fun k => [row (Kd.int .i64) W0 3 (.slice A2 i c2) (marksL l i)]) (fun k => k ≤ l.length) (fun k => k) l.length ?_ cv Lh ?_))))
    ·
     exact Nat.le_refl _
    rintro k hk
    try dsimp only
    refine wSeq (wSeq (wRegion' (oMove rfl (oGeq rfl rfl (oNil (thn_n (wC (fun h22 => ?_) (fun h22 => ?_))))))))
    ·
     obtain ⟨m, rfl⟩ : ∃ m, k = m + 1 := ⟨k - 1, by omega⟩
     obtain ⟨x, hx⟩ : ∃ x, l[m]? = some x := ⟨_, List.getElem?_eq_getElem (by omega)⟩
     obtain ⟨e1, cs1, hE⟩ := hC.elm hx
     obtain rfl := kApiReloc_open hE.K
     refine wSkip (thn_n (wSeq (wBlock (wSeq (wRegion' (oMove rfl (oMove rfl ?_)))))))
     refine oSet (t := 26) (v' := .int .i64 ((m : Nat) : Int)) rfl (by congr 1; omega) ?_
     refine oIdxE rfl rfl (hE) (by omega) rfl rfl ?_
     have hc27 := (hE).cell
     first | refine oFldX (n := 0) (m := 0) rfl rfl rfl ?_ | refine oFldR (n := 0) (m := 0) rfl rfl rfl ?_ | refine oFldD (n := 0) (m := 0) rfl rfl rfl ?_
     first | refine oLdX rfl hc27 rfl rfl ?_ | refine oLdXA rfl hc27 rfl (by repeat constructor) ?_ | (refine oLdR1 rfl (by repeat constructor) (by omega) rfl (fun u29 hu29 => ?_))
     refine oMove rfl (oEql rfl rfl (oNil (thn_n (wC (fun h31 => ?_) (fun h31 => ?_)))))
     ·
      refine wRegion' (oMove rfl ?_)
      refine oSet (t := 32) (v' := .int .i64 (offI (atP i) l m)) rfl (by rw [offI_step (atP i) hx, if_pos (by simpa [atP] using h31)]; congr 1; omega) ?_
      refine oAssign rfl (oNil (blk_n (thn_n (wRegion' (oMove rfl (oSub rfl rfl (by omega) ?_))))))
      refine oSet (t := 24) (v' := .int .i64 ((m : Int) - 1)) rfl (by congr 1; omega) ?_
      refine oAssign rfl (oNil (thn_n ?_))
      exact ⟨rfl, m, by omega, by omega, cv, Lh⟩
     refine wSkip (blk_n (thn_n (wRegion' (oMove rfl (oSub rfl rfl (by omega) ?_)))))
     refine oSet (t := 24) (v' := .int .i64 ((m : Int) - 1)) rfl (by congr 1; omega) ?_
     refine oAssign rfl (oNil (thn_n ?_))
     rw [show offI (atP i) l (m + 1) = offI (atP i) l m by rw [offI_step (atP i) hx, if_neg (by simpa [atP] using h31)]]
     exact ⟨rfl, m, by omega, by omega, cv, Lh⟩
    obtain rfl : k = 0 := by omega
    rw [offI_zero]
    refine wExit (thn_x (thn_x (blk_x (thn_n (wRegion' (oMove rfl (oMove rfl (oBuildSlice1 rfl rfl rfl rfl rfl (by repeat constructor) rfl (fun b35 => ?_)))))))))
    refine oApp1 (idxI (atP i) l) rfl rfl rfl rfl (by repeat constructor) (by repeat constructor) rfl (by omega) rfl (fun g36 cp36 => ?_)
    rw [← marksL_succ, marksL_len l i]
    refine oAssign rfl (oNil (blk_n (thn_n (wRegion' (oMove rfl (oSucc rfl rfl (by omega) ?_))))))
    refine oAssign rfl (oNil (thn_n ?_))
    exact ⟨rfl, (i + 1, some ⟨g36, 0, none⟩, cp36), by show i + 1 ≤ _; omega, by show n - (i + 1) < n - i; omega, cv, Lh⟩
   omega
  refine oSkip rfl rfl rfl rfl (oSkip rfl rfl rfl rfl (oPickF rfl rfl (oNil (thn_n ?_))))
  first | refine wCondF rfl ?_ | refine wCondFd h15 rfl ?_ | refine wCondFb h15 rfl ?_
  refine wExit (thn_x (thn_x (blk_x (thn_n (wSeq (wRegion' (oMove rfl (oAssign rfl (oNil (thn_n (wRet ?_)))))))))))
  refine fin_r (fi1 rfl ?_)
  obtain rfl : i = n := by omega
  exact ⟨(A2, c2), trivial, rfl, Lh⟩
set_option maxRecDepth 100000 in
theorem ref15_Few {B : Base} {w : World} (hS : St B [] w) (d : ApiData) (dc : List Value) (hd : kApiData.K B.e d dc) :
    CallsIn Fence.wide 0 Tryz.prog 120 #[.agg dc.toArray] w (Ret B (fun r : Bool => r = true → d.fWords.length ≤ 100 ∧ d.fRelocs.length ≤ 100) (fun r => .bool r) (fun _ => [])) := by
  obtain ⟨A0, c0, A1, c1, rfl, l0, g0, l1, g1⟩ := kApiData_open hd
  (refine enter Tryz.func120 rfl rfl hS ?_; simp only [List.zipIdx_cons, List.zipIdx_nil, List.map_cons, List.map_nil, Nat.reduceAdd, Nat.zero_add])
  refine wSeq (wRegion' (oBox rfl (by repeat constructor) (fun b1 => ?_)))
  refine oAssign rfl (oNil (thn_n (wSeq (wRegion' (oFld (n := 1) (m := 1) rfl rfl rfl (oLd rfl (by repeat constructor) rfl rfl ?_))))))
  refine oLenS rfl rfl (oLeq rfl rfl (oMove rfl ?_))
  first | refine oSplit (t := 7) rfl (fun h7 => ?_) (fun h7 => ?_) | refine oSplitB (t := 7) rfl (fun h7 => ?_) (fun h7 => ?_)
  ·
   refine oWant rfl rfl (oFld (n := 2) (m := 2) rfl rfl rfl (oWant rfl rfl (oLd rfl (by repeat constructor) rfl rfl ?_)))
   refine oWant rfl rfl (oLenS rfl rfl (oWant rfl rfl (oLeq rfl rfl (oPickT rfl rfl (oAssign rfl (oNil (thn_n (wRet (fin_r (fi1 rfl ?_))))))))))
   exact ⟨_, (by intro h; first | (simp at h; done) | (have := of_decide_eq_true h; constructor <;> omega)), rfl, Lh⟩
  refine oSkip rfl rfl rfl rfl (oSkip rfl rfl rfl rfl (oSkip rfl rfl rfl rfl (oSkip rfl rfl rfl rfl (oPickF rfl rfl (oAssign rfl (oNil (thn_n (wRet (fin_r (fi1 rfl ?_))))))))))
  exact ⟨_, (by intro h; first | (simp at h; done) | (have := of_decide_eq_true h; constructor <;> omega)), rfl, Lh⟩
def mix {α : Type} (a b : List α) (i : Nat) : List α := a.take i ++ b.drop i
theorem mix_len {α : Type} {a b : List α} (h : a.length = b.length) (i : Nat) : (mix a b i).length = b.length := by
  unfold mix; rw [List.length_append, List.length_take, List.length_drop]; omega
theorem mix_get {α : Type} {a b : List α} (h : a.length = b.length) (i j : Nat) : (mix a b i)[j]? = if j < i then a[j]? else b[j]? := by
  unfold mix
  by_cases hj : j < i
  · rw [if_pos hj]
    by_cases hl : j < a.length
    · rw [List.getElem?_append_left (by rw [List.length_take]; omega), List.getElem?_take, if_pos hj]
    · rw [List.getElem?_eq_none (by rw [List.length_append, List.length_take, List.length_drop]; omega), List.getElem?_eq_none (by omega)]
  · rw [if_neg hj]
    by_cases hl : i ≤ a.length
    · rw [List.getElem?_append_right (by rw [List.length_take]; omega), List.length_take, Nat.min_eq_left hl, List.getElem?_drop]
      congr 1; omega
    · rw [List.getElem?_eq_none (by rw [List.length_append, List.length_take, List.length_drop]; omega), List.getElem?_eq_none (by omega)]
theorem mix_set {α : Type} {a b : List α} (h : a.length = b.length) {i : Nat} {x : α} (hx : a[i]? = some x) : (mix a b i).set i x = mix a b (i + 1) := by
  have hi := (List.getElem?_eq_some_iff.1 hx).1
  apply List.ext_getElem?
  intro j
  rw [List.getElem?_set, mix_get h, mix_get h, mix_len h]
  by_cases e : i = j
  · subst e; rw [if_pos rfl, if_pos (by omega), if_pos (by omega), hx]
  · rw [if_neg e]
    by_cases h1 : j < i
    · rw [if_pos h1, if_pos (by omega)]
    · rw [if_neg h1, if_neg (by omega)]
theorem mix_same {α : Type} {a b : List α} (h : a.length = b.length) {i : Nat} (hx : a[i]? = b[i]?) : mix a b (i + 1) = mix a b i := by
  apply List.ext_getElem?
  intro j
  rw [mix_get h, mix_get h]
  by_cases e : i = j
  · subst e; rw [if_pos (by omega), if_neg (by omega), hx]
  · by_cases h1 : j < i
    · rw [if_pos h1, if_pos (by omega)]
    · rw [if_neg h1, if_neg (by omega)]
theorem mix_all {α : Type} {a b : List α} (h : a.length = b.length) : mix a b b.length = a := by
  unfold mix; rw [List.drop_length, List.append_nil, ← h, List.take_length]
theorem mix_zero {α : Type} (a b : List α) : mix a b 0 = b := by unfold mix; simp
def refD (d : ApiData) (m : Int) : Int := if 0 ≤ m then (d.fRelocs.getD m.toNat default).fSym else -1
def refsD (d : ApiData) : List Int := (marksL d.fRelocs d.fWords.length).map (refD d)
theorem refsD_len (d : ApiData) : (refsD d).length = (marksL d.fRelocs d.fWords.length).length := by unfold refsD; rw [List.length_map]
theorem marksL_at {l : List ApiReloc} {n i : Nat} {m : Int} (h : (marksL l n)[i]? = some m) : m = idxI (atP i) l := by
  unfold marksL at h
  rw [List.getElem?_map] at h
  obtain ⟨j, hj, rfl⟩ := Option.map_eq_some_iff.1 h
  obtain ⟨hj1, rfl⟩ := List.getElem?_eq_some_iff.1 hj
  simp
theorem refsD_T {d : ApiData} {n i k : Nat} {x : ApiReloc} (hn : n = d.fWords.length) (h : (marksL d.fRelocs n)[i]? = some (k : Int)) (hx : d.fRelocs[k]? = some x) : (refsD d)[i]? = some x.fSym := by
  subst hn
  unfold refsD
  rw [List.getElem?_map, h]
  show some (refD d (k : Int)) = _
  unfold refD
  rw [if_pos (by omega), Int.toNat_natCast, List.getD_eq_getElem?_getD, hx]; rfl
theorem refsD_F {d : ApiData} {i : Nat} {m : Int} (h : (marksL d.fRelocs d.fWords.length)[i]? = some m) (hm : ¬ 0 ≤ m) : (refsD d)[i]? = (marksL d.fRelocs d.fWords.length)[i]? := by
  unfold refsD
  rw [List.getElem?_map, h]
  show some (refD d m) = _
  unfold refD
  rw [if_neg hm]
  have h1 := marksL_at h
  rcases idxI_ge (atP i) d.fRelocs with h2 | h2
  · rw [← h1] at h2; exact absurd h2 hm
  · rw [h1, h2]
set_option maxRecDepth 100000 in
set_option maxHeartbeats 600000 in
theorem ref15_Refs {B : Base} {w : World} (hS : St B [] w) (d : ApiData) (dc : List Value) (hd : kApiData.K B.e d dc) (h1 : d.fWords.length ≤ 4000) (h2 : d.fRelocs.length ≤ 100000) (W0 : World) :
    CallsIn Fence.wide 0 Tryz.prog 138 #[.agg dc.toArray] w (Ret B (fun _ : Option Addr × Nat => True) (fun z => .slice z.1 d.fWords.length z.2) (fun z => [row (Kd.int .i64) W0 3 (.slice z.1 d.fWords.length z.2) (refsD d)])) := by
  obtain ⟨A0, c0, A1, c1, rfl, l0, g0, l1, g1⟩ := kApiData_open hd
  have hml := marksL_len d.fRelocs d.fWords.length
  have hrl := refsD_len d
  (refine enter Tryz.func138 rfl rfl hS ?_; simp only [List.zipIdx_cons, List.zipIdx_nil, List.map_cons, List.map_nil, Nat.reduceAdd, Nat.zero_add])
  refine wSeq (wRegion' (oBox rfl (by repeat constructor) (fun b1 => ?_)))
  refine oAssign rfl (oNil (thn_n (wSeq (wRegion' (oFld (n := 2) (m := 2) rfl rfl rfl (oLd rfl (by repeat constructor) rfl rfl ?_))))))
  refine oFld (n := 1) (m := 1) rfl rfl rfl (oLd rfl (by repeat constructor) rfl rfl ?_)
  refine oLenS rfl rfl ?_
  (refine oCall rfl (by kernel_rfl) (fun w hS => frame hS (by repeat' constructor) (fun B' hB hS' => ref15_Marks hS' A1 c1 d.fRelocs (Kd.C_grow hB g1) h2 d.fWords.length h1 W0)) ?_; rintro ⟨A10, c10⟩ -)
  refine oAssign rfl (oNil (thn_n (wSeq (wSeq (wRegion' (oAssign rfl (oNil (thn_n (wBlock ?_)))))))))
  refine wLoop (ι := Nat) (fun i => [(1, .pointer (some ⟨b1, 0, none⟩)), (3, .slice A10 d.fWords.length c10), (4, .int .i64 (i : Int))]) (fun i => [blk b1 96 [.int .i64 d.fKind, .slice A0 d.fWords.length c0, .slice A1 d.fRelocs.length c1], row (Kd.int .i64) W0 3 (.slice A10 d.fWords.length c10) (mix (refsD d) (marksL d.fRelocs d.fWords.length) i)]) (fun i => i ≤ d.fWords.length) (fun i => d.fWords.length - i) 0 ?_ cv (by rw [mix_zero]; exact Lh) ?_
  ·
   exact Nat.zero_le _
  rintro i hi
  have hxl : (mix (refsD d) (marksL d.fRelocs d.fWords.length) i).length = d.fWords.length := (mix_len hrl i).trans hml
  try dsimp only
  refine wSeq (wSeq (wRegion' (oMove rfl (oMove rfl (oLenS rfl rfl (oLss rfl rfl (oNil (thn_n (wC (fun h14 => ?_) (fun h14 => ?_))))))))))
  ·
   refine wSkip (thn_n (wSeq (wBlock (wSeq (wRegion' (oMove rfl (oMove rfl (oIdxR rfl rfl (by repeat constructor) (by omega) rfl rfl (fun g19 hg19 => ?_)))))))))
   first | subst hg19 | (injection hg19 with hg19; injection hg19 with hg19; subst hg19)
   first | refine oLdX rfl hc19 rfl rfl ?_ | refine oLdXA rfl hc19 rfl (by repeat constructor) ?_ | (refine oLdR1 rfl (by repeat constructor) (by omega) rfl (fun u20 hu20 => ?_))
   rw [mix_get hrl, if_neg (Nat.lt_irrefl i)] at hu20
   refine oGeq rfl rfl (oNil (thn_n (wC (fun h21 => ?_) (fun h21 => ?_))))
   ·
    obtain ⟨k, x, hk, hx, hp⟩ := idxI_at (show 0 ≤ idxI (atP i) d.fRelocs by rw [← marksL_at hu20]; exact h21)
    obtain rfl : u20 = (k : Int) := (marksL_at hu20).trans hk
    have hkl := (List.getElem?_eq_some_iff.1 hx).1
    obtain ⟨e1, cs1, hE⟩ := g1.elm hx
    obtain rfl := kApiReloc_open hE.K
    refine wDraw2 rfl rfl [0, 1, 4, 5] [2, 3, 6, 7, 8, 9, 10, 11] 12 (by kernel_rfl) rfl rfl rfl (fun w0 => ?_)
    refine oFld (n := 2) (m := 2) rfl rfl rfl (oLd rfl (by repeat constructor) rfl rfl ?_)
    refine oIdxR rfl rfl (by repeat constructor) (by omega) rfl rfl (fun g28 hg28 => ?_)
    first | subst hg28 | (injection hg28 with hg28; injection hg28 with hg28; subst hg28)
    first | refine oLdX rfl hc28 rfl rfl ?_ | refine oLdXA rfl hc28 rfl (by repeat constructor) ?_ | (refine oLdR1 rfl (by repeat constructor) (by omega) rfl (fun u29 hu29 => ?_))
    rw [mix_get hrl, if_neg (Nat.lt_irrefl i), hu20] at hu29
    obtain rfl := Option.some.inj hu29
    refine oIdxE rfl rfl (hE) (by omega) rfl rfl ?_
    have hc30 := (hE).cell
    first | refine oFldX (n := 1) (m := 1) rfl rfl rfl ?_ | refine oFldR (n := 1) (m := 1) rfl rfl rfl ?_ | refine oFldD (n := 1) (m := 1) rfl rfl rfl ?_
    first | refine oLdX rfl hc30 rfl rfl ?_ | refine oLdXA rfl hc30 rfl (by repeat constructor) ?_ | (refine oLdR1 rfl (by repeat constructor) (by omega) rfl (fun u32 hu32 => ?_))
    refine oIdxR rfl rfl (by repeat constructor) (by omega) rfl rfl (fun g33 hg33 => ?_)
    first | subst hg33 | (injection hg33 with hg33; injection hg33 with hg33; subst hg33)
    refine oHead (oStR (enc := Value.int .i64) x.fSym rfl rfl rfl rfl (by repeat constructor) (by omega) ?_)
    rw [mix_set hrl (refsD_T rfl hu20 hx)]
    refine oNilT (blk_n (thn_n (wRegion' (oMove rfl (oSucc rfl rfl (by omega) ?_)))))
    refine oAssign rfl (oNil (thn_n ?_))
    exact ⟨rfl, i + 1, by omega, by omega, cv, Lh⟩
   refine wSkip (blk_n (thn_n (wRegion' (oMove rfl (oSucc rfl rfl (by omega) ?_)))))
   refine oAssign rfl (oNil (thn_n ?_))
   exact ⟨rfl, i + 1, by omega, by omega, cv, by rw [mix_same hrl (refsD_F hu20 h21)]; exact Lh⟩
  obtain rfl : i = d.fWords.length := by omega
  have hma : mix (refsD d) (marksL d.fRelocs d.fWords.length) d.fWords.length = refsD d := by have := mix_all hrl; rw [hml] at this; exact this
  rw [hma]
  refine wExit (thn_x (thn_x (blk_x (thn_n (wSeq (wRegion' (oMove rfl (oAssign rfl (oNil (thn_n (wRet ?_)))))))))))
  refine fin_r (fi1 rfl ?_)
  exact ⟨(_, c10), trivial, rfl, Lh⟩
end Go.Proofs.YtogaiijhicfoaaaGreatW
